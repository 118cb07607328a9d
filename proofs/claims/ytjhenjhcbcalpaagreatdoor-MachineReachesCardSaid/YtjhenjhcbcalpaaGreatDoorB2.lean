/- Part 2 of the proof. Conditions: the rows'. -/
import Derived.Test.YtjhenjhcbcalpaaGreatDoorB1
import Derived.Still
set_option linter.unusedSimpArgs false
set_option linter.unusedVariables false
set_option maxRecDepth 1000000
set_option maxHeartbeats 8000000
namespace Go.l9
open Go Go.RowKit
variable {w w':World}{P:Program}{o:Oper}{a:Act}{v:Value}{n r i:Nat}{h' h h0:FH}{β' β:List RV}{t el:TypeId}{y:Operand}{u:RV}{T:List ak}{c:Call}{f:FuncId}{B:Base}{z:SC}{lo hi:Option Operand}
theorem nG.L6(h:Gb w w' none):nG w w':=⟨h.size,λk hk=>h.block k hk (by simp)⟩
theorem nG.of_below(h:Below w.heap.size w w'):nG w w':=⟨h.size,h.block⟩
def quietly:Op->Bool
 | .store ..=>false
 | .call c=>match c.callee with
   | .builtin .len=>true
   | .builtin _=>false
   | .value (.tmp _)=>false
   | _=>true
 | _=>true
def gJ(P:Program) (N:Nat) (B:Base) (h0 h:FH) (w:World) (a:Act) (o:Oper) (wanted:Bool) (K:St->Prop):Prop:=
 ∀(Nx:Act->World->Prop) (Q:Exit->Act->World->Prop),
   (∀s' h' β' w' v,K s'->h.le h'->(quietly o.op=true->nG w w')->Sat N B h0 s' h' β' w' (a.put o.dst v)->Nx (a.put o.dst v) w') ->
   if wanted=true then o.wp P a w Nx Q else Nx (a.put o.dst undef) w
theorem kK{Nx:Act->World->Prop}{Q:Exit->Act->World->Prop} (h:(execOp a.eval o).run P w=.ok (.value v) w') (k:Nx (a.put o.dst v) w'):o.wp P a w Nx Q:=by
 unfold Oper.wp;rw[h];exact k
theorem XI{Nx:Act->World->Prop}{Q:Exit->Act->World->Prop} (h:(execOp a.eval o).run P w=.ok .skip w') (k:Nx (a.put o.dst undef) w'):o.wp P a w Nx Q:=by
 unfold Oper.wp;rw[h];exact k
abbrev lV(n:Nat):Option Nat->Bool
 | none=>true
 | some d=>Nat.ble (d+1) n
theorem dU{d:Option Nat} (h:lV n d=true):∀k,d=some k->k < n:=by
 intro k hk;subst hk;have:=qo h;omega
section
variable {cx:Cx}{P:Program}{N:Nat}{B:Base}{h0:FH}{s:St}{h:FH}{β:List RV}{w:World}{a:Act}{G:Gd}{o:Oper}{K:St->Prop}
theorem Ia(hc:bV P cx.ti) (aj:Sat N B h0 s h β w a) (hg:aI cx.gd h) (hG:vF s.gl.length G=true) (hd:lV N o.dst=true) (k:nP cx s G o λe=>K (s.put o.dst G e)):
 gJ P N B h0 h w a o (gv s.gl G) K:=by
 intro Nx Q next
 obtain⟨e,k1,k2⟩:=Eu hc aj hg k;cases hgv:gv s.gl G with
 | true=>
   obtain⟨v,r,c⟩:=k2 hgv;rw[if_pos rfl];exact kK r (next _ _ _ _ _ k1 (FH.le.refl h) (λ_=>nG.refl w) (aj.put (dU hd) hG (λ_=>c) λhh=>by rw[hgv]at hh;cases hh))
 | false=>
   rw[if_neg (by simp)]
   exact next _ _ _ _ _ k1 (FH.le.refl h) (λ_=>nG.refl w) (aj.put (dU hd) hG (λhh=>by rw[hgv]at hh;cases hh) λ_=>rfl)
theorem dh(w:World) (r:Option Nat):Gb w w r:=⟨⟨rfl,rfl,rfl,o9 _,λ_ _ _=>rfl⟩,o9 _⟩
theorem lF(aj:Sat N B h0 s h β w a) (hG:vF s.gl.length G=true) (hd:lV N o.dst=true){r:ak}{e:bg} (k:K ({ s with T:=snoc s.T (G,r) }.put o.dst G e))
 (run:gv s.gl G=true->∃v w' rv,(execOp a.eval o).run P w=.ok (.value v) w'/\Gb w w' none/\(∀b,rv.has b->w.heap.size<=b/\b < w'.heap.size) /\
  Holds h (β++[rv]) w' r rv/\jS h (β++[rv]) e v):
 gJ P N B h0 h w a o (gv s.gl G) K:=by
 intro Nx Q next
 have gT:∀p∈snoc s.T (G,r),vF s.gl.length p.1=true:=by
  intro p hp;rw[iM,CX]at hp;rcases hp with hp | hp
  .exact aj.gT p hp
  .simp at hp;subst hp;exact hG
 cases hgv:gv s.gl G with
 | true=>
   obtain⟨v,w',rv,h1,h2,h3,h4,h5⟩:=run hgv;rw[if_pos rfl];refine kK h1 (next _ h (β++[rv]) _ _ k (FH.le.refl h) (λ_=>nG.L6 h2) ?_)
   have ok:OK B h0 (eff s.gl (snoc s.T (G,r))) h (β++[rv]) w':=by
    rw[iU,hgv];exact aj.ok.add h2 h3 h4
   exact(aj.mem ok (FH.le.refl h) (Ext.append _ _) gT).put (dU hd) hG (λ_=>h5) λhh=>by simp only at hh;rw[hgv]at hh;cases hh
 | false=>
   rw[if_neg (by simp)]
   refine next _ h (β++[.no]) _ _ k (FH.le.refl h) (λ_=>nG.refl w) ?_
   have ok:OK B h0 (eff s.gl (snoc s.T (G,r))) h (β++[.no]) w:=by
    rw[iU,hgv];exact aj.ok.add (dh w none) (λb hb=>(OY hb).elim) trivial
   exact(aj.mem ok (FH.le.refl h) (Ext.append _ _) gT).put (dU hd) hG (λhh=>by simp only at hh;rw[hgv]at hh;cases hh) λ_=>rfl
theorem mX(aj:Sat N B h0 s h β w a){s':St} (k:K s') (hgv:gv s.gl G=true) (hq:quietly o.op=false)
 (run:(execOp a.eval o).run P w=.ok (.value v) w'\/((execOp a.eval o).run P w=.ok .skip w'/\v=undef)) (le:h.le h') (aT:Sat N B h0 s' h' β' w' (a.put o.dst v)):
 gJ P N B h0 h w a o (gv s.gl G) K:=by
 intro Nx Q next
 rw[if_pos hgv];rcases run with run | ⟨run,rfl⟩
 .exact kK run (next _ _ _ _ _ k le (λhh=>by rw[hq]at hh;cases hh) aT)
 .exact XI run (next _ _ _ _ _ k le (λhh=>by rw[hq]at hh;cases hh) aT)
end
abbrev Pe:Sh->Bool
 | .arr _ _=>true
 | .pair a b=>match Pe a with
   | true=>true
   | false=>Pe b
 | _=>false
abbrev RD(t:TypeId) (i:TI):ak:=match i.iO with
 | some s=>match Pe s with
   | true=>.obj t s (qO s)
   | false=>.blk t (eY SC.v i.zero)
 | none=>.blk t (eY SC.v i.zero)
abbrev Jw(cx:Cx) (s:St) (G:Gd) (d:Option Nat) (t:TypeId) (K:St->Prop):Prop:=match pR cx.ti t with
 | none=>False
 | some i=>K ({ s with T:=snoc s.T (G,RD t i) }.put d G (.one (.c (.own (aN s.T) 0))))
abbrev Pg(t:TypeId) (v:SV):Option ak:=match v with
 | .dat sh d=>some (.obj t sh d)
 | v=>match nU v with
   | some xs=>some (.blk t xs)
   | none=>none
abbrev adH(cx:Cx) (s:St) (G:Gd) (d:Option Nat) (t:TypeId) (x:Operand) (K:St->Prop):Prop:=match bT cx s G x with
 | some (.one v)=>match Pg t v with
   | some r=>K ({ s with T:=snoc s.T (G,r) }.put d G (.one (.c (.own (aN s.T) 0))))
   | none=>False
 | _=>False
theorem mY(w:World) (o:Obj):(w.alloc o).heap[w.heap.size]?=some o:=heap_alloc_new w o
theorem Vm{v:SV}{r:ak}{y:Value}{b:Nat} (e:Pg t v=some r) (c:dD h β v y) (eb:Ext β β')
 (hw:w.heap[b]?=some (.cells y.cells t (0,0))):Holds h β' w r (.blk b):=by
 unfold Pg at e;split at e
 .cases e;obtain⟨_,cs,rfl,rd⟩:=c;exact⟨cs,hw,rd⟩
 .split at e
  .rename_i xs hx;cases e;refine⟨y.cells.toList,by simpa using hw,(xE hx c).mono λ_ _ ⟨p,q⟩=>⟨p.mono (FH.le.refl h) eb,q⟩⟩
  .cases e
section
variable {cx:Cx}{P:Program}{N:Nat}{B:Base}{h0:FH}{s:St}{h:FH}{β:List RV}{w:World}{a:Act}{G:Gd}{o:Oper}{K:St->Prop}
theorem kL(hn:β.length=n) (v:RV):(β++[v])[n]?=some v:=by
 subst hn;simp
theorem lG(aj:Sat N B h0 s h β w a):β.length=aN s.T:=by
 rw[aj.ok.len,jh,bF]
theorem yK{s:Sh}{cs:List Value}{d:s.den} (r:Rd (λ_ _=>none) s cs d):Rd h s cs d:=r.mono (λ_ _ _ e=>by cases e) s
theorem Ph(hc:bV P cx.ti) (aj:Sat N B h0 s h β w a) (hG:vF s.gl.length G=true) (hd:lV N o.dst=true) (ho:o.op=.alloc t) (k:Jw cx s G o.dst t K):
 gJ P N B h0 h w a o (gv s.gl G) K:=by
 unfold Jw at k;split at k
 .cases k
 rename_i i hi;have ti:=hc.get hi;refine lF aj hG hd k λhgv=>?_
 obtain⟨z,hz1,hz2⟩:=uD ti w;refine⟨.pointer (some ⟨w.heap.size,0,none⟩),w.alloc (.cells z.cells t),.blk w.heap.size,?_,oI _ _ _,?_,?_,?_⟩
 .simp only[execOp,ho,Instr.alloc,newVar,newRow,Sem.run_bind,hz1,Result.andThen_ok,run_newObj,Sem.run_pure];rfl
 .intro b hb;rw[lC]at hb;subst hb;simp
 .have hn:=mY w (.cells z.cells t);unfold RD;split
  .rename_i sh hs;split
   .exact⟨i.zero,by rw[hn,hz2],yK (ti.Xw _ hs).1⟩
   .exact⟨i.zero,by rw[hn,hz2],iq ti.zone⟩
  .exact⟨i.zero,by rw[hn,hz2],iq ti.zone⟩
 .exact⟨⟨_,kL (lG aj) _,rfl⟩,iV _⟩
theorem XJ(hc:bV P cx.ti) (aj:Sat N B h0 s h β w a) (hg:aI cx.gd h) (hG:vF s.gl.length G=true) (hd:lV N o.dst=true){x:Operand} (ho:o.op=.box t x) (k:adH cx s G o.dst t x K):
 gJ P N B h0 h w a o (gv s.gl G) K:=by
 unfold adH at k;split at k
 .rename_i v hv;split at k
  .rename_i r hr;refine lF aj hG hd k λhgv=>?_
   have hx:=aK aj hg hgv hv;refine⟨.pointer (some ⟨w.heap.size,0,none⟩),w.alloc (.cells (a.eval x).cells t),.blk w.heap.size,?_,oI _ _ _,?_,?_,?_⟩
   .simp only[execOp,ho,Instr.box,newVar,newRow,Sem.run_bind,Result.andThen_ok,run_newObj,Sem.run_pure];rfl
   .intro b hb;rw[lC]at hb;subst hb;simp
   .exact Vm hr hx (Ext.append _ _) (mY _ _)
   .exact⟨⟨_,kL (lG aj) _,rfl⟩,iV _⟩
  .cases k
 .cases k
end
abbrev iK{α:Type}:Nat->List α->List α
 | 0,_=>[]
 | n+1,l=>eG l (iK n l)
abbrev mZ(cx:Cx) (s:St) (G:Gd) (d:Option Nat) (t:TypeId) (n:Nat) (parts:List (Nat×Operand)) (K:St->Prop):Prop:=match descOf cx t with
 | .slice el=>match pR cx.ti el with
   | none=>False
   | some ie=>match ie.iO with
     | none=>False
     | some sh=>match xG cx s G parts with
       | none=>False
       | some ps=>match dG (Nat.ble (n * ie.size) 16777216) (Nat.ble 1 ie.size) with
         | false=>False
         | true=>match uz (λj=>some (j * ie.size,ie.size)) (iK n (eY SC.v ie.zero)) ps with
           | none=>False
           | some xs=>match dG (Nat.beq sh.size ie.size) (Nat.beq (aN xs) (n * ie.size)) with
             | false=>False
             | true=>match takeN sh n xs with
               | some (l,[])=>K ({ s with T:=snoc s.T (G,.row el sh l) }.put d G (.one (.c (.row (aN s.T)))))
               | _=>False
 | _=>False
theorem Ew{α β:Type} (f:α->β):∀(n:Nat) (l:List α),iK n (eY f l)=eY f (iK n l)
 | 0,_=>rfl
 | n+1,l=>by
   simp only[iK];rw[Ew f n l];simp[fU,CZ]
theorem yL{α:Type}{x:α}{l:List α}:∀{n:Nat},x∈iK n l->x∈l
 | 0,h=>by simp[iK]at h
 | n+1,h=>by
   simp only[iK,fU,CX]at h;exact h.elim id yL
theorem uH{α:Type}{l:List α}:∀{n:Nat},(iK n l).length=n * l.length
 | 0=>by simp[iK]
 | n+1=>by simp only[iK,fU,kH,uH,xw];omega
theorem L8{l:List Value}:∀{n j:Nat},j < n * l.length->(iK n l)[j]?=l[j % l.length]?
 | 0,j,h=>by omega
 | n+1,j,h=>by
   simp only[iK,fU];rw[xw]at h
   by_cases hj:j < l.length
   .rw[WI hj,Nat.mod_eq_of_lt hj]
   .rw[OH (by omega),L8 (by omega)]
    congr 1
    exact(Nat.mod_eq_sub_mod (by omega)).symm
theorem qR{zero:List Value} (hz:0 < zero.length):((Array.range (n * zero.length)).map (λi=>zero.toArray[i % zero.toArray.size]!))=(iK n zero).toArray:=by
 apply Array.ext';apply Jh;intro j;simp only[Array.toList_map,Array.toList_range,GL]
 by_cases hj:j < n * zero.length
 .rw[wJ,List.getElem?_range hj,L8 hj];have hm:j % zero.length < zero.length:=Nat.mod_lt _ hz;simp[hm]
 .rw[CJ (by simp;omega),CJ (by simp[uH];omega)]
section
variable {cx:Cx}{P:Program}{N:Nat}{B:Base}{h0:FH}{s:St}{h:FH}{β:List RV}{w:World}{a:Act}{G:Gd}{o:Oper}{K:St->Prop}
theorem tu(hc:bV P cx.ti) (aj:Sat N B h0 s h β w a) (hg:aI cx.gd h) (hG:vF s.gl.length G=true) (hd:lV N o.dst=true){parts:Array (Nat×Operand)} (ho:o.op=.buildSlice t n parts)
 (k:mZ cx s G o.dst t n (tl parts) K):gJ P N B h0 h w a o (gv s.gl G) K:=by
 unfold mZ at k;split at k
 .rename_i el hde;have hu:=bI hc hde (by simp)
  split at k
  .cases k
  rename_i ie hie;have tie:=hc.get hie;split at k
  .cases k
  rename_i sh hsh;split at k
  .cases k
  rename_i ps hps;split at k
  .cases k
  rename_i hsz;rw[aB,bY]at hsz;have hsz1:n * ie.size<=16777216:=qo hsz.1;have hsz2:1<=ie.size:=qo hsz.2;split at k
  .cases k
  rename_i xs hxs;split at k
  .cases k
  rename_i hlen;rw[aB,bY]at hlen;have hl1:sh.size=ie.size:=iC hlen.1;have hl2:xs.length=n * ie.size:=by have:=iC hlen.2;rwa [bF]at this
  split at k
  .rename_i l hl;refine lF aj hG hd k λhgv=>?_
   have htl:(parts.map λ(p:Nat×Operand)=>(p.1,a.eval p.2)).toList=(tl parts).map λp=>(p.1,a.eval p.2):=by cases parts;simp
   rw[Ew]at hxs;obtain⟨zs,g1,g2⟩:=qP (qQ aj hg hgv hps) (iq λv hv=>tie.zone v (yL hv)) hxs
   obtain⟨c1,c2,rfl,q1,q2,q3⟩:=Ep hl g2;have hc2:c2=[]:=by cases c2 with | nil=>rfl | cons _ _=>exact q3.elim
   subst hc2;rw[Rf]at g1 g2;have hz0:0 < ie.zero.length:=by rw[tie.pz];omega
   obtain⟨z,hz1,hz2⟩:=uD tie w;have hc0:n * ie.size=0->(iK n ie.zero).toArray=#[]:=by
    intro h0;have:n=0:=by rcases Nat.mul_eq_zero.1 h0 with h0 | h0<;>omega
    subst this;simp[iK]
   have hc1:((Array.range (n * ie.size)).map (λi=>z.cells[i % z.cells.size]!))=(iK n ie.zero).toArray:=by
    rw[hz2,<-tie.pz];exact qR hz0
   refine⟨.slice (some ⟨w.heap.size,0,none⟩) n n,w.alloc (.cells c1.toArray el),.row (.slice (some ⟨w.heap.size,0,none⟩) n n),?_,oI _ _ _,?_,?_,?_⟩
   .have hbig:¬(n * ie.size > 2 ^ 24):=by omega
    by_cases h0:n * ie.size=0
    .have e0:=hc0 h0;rw[e0]at g1;simp only[execOp,ho,Instr.buildSlice,Sem.run_bind,run_underlying hu,Result.andThen_ok,run_sizeOf tie,hbig,OX,Sem.run_ite,Sem.run_pure,h0,if_true];rw[htl];rw[show(Array.map (λx=>(#[]:Array Value)[x % (#[]:Array Value).size]!) (Array.range 0))=#[] from by simp]
     rw[g1];simp only[Sem.run_bind,newRow,run_newObj,Result.andThen_ok,Sem.run_pure];rfl
    .simp only[execOp,ho,Instr.buildSlice,Sem.run_bind,run_underlying hu,Result.andThen_ok,run_sizeOf tie,hbig,OX,Sem.run_ite,Sem.run_pure,h0,hz1];rw[htl,hc1,g1];simp only[Sem.run_bind,newRow,run_newObj,Result.andThen_ok,Sem.run_pure];rfl
   .intro b hb;rw[aZ]at hb;simp[aA]at hb;obtain⟨_,rfl⟩:=hb;simp
   .by_cases hn0:n=0
    .exact .inr (.inl ⟨⟨w.heap.size,0,none⟩,by rw[hn0],WH (by rw[q1,hn0])⟩)
    refine .inr (.inr ⟨w.heap.size,n,c1.toArray,by rw[q1],mY _ _,by omega,⟨by omega,?_⟩,?_,?_⟩)
    .have:n<=n * ie.size:=A83 n (by omega)
     simp only[maxLen];omega
    .have e:=g2.length;rw[hl2]at e;simp only[GL];rw[hl1];omega
    .have e:=g2.length;rw[hl2]at e;rw[q1,hl1,xg (by simp;omega)];exact q2
   .exact⟨⟨_,kL (lG aj) _,rfl⟩,rfl,rfl⟩
  .cases k
 .cases k
end
theorem ji(w:World) (g:Nat) (cs:Array Value):Gb w (w.setRow g cs) (some g):=
 ⟨⟨rfl,rfl,rfl,by simp,λk _ hk=>setRow_other w g k cs λe=>hk (by rw[e])⟩,o9 _⟩
theorem fC{i:TI} (k:aJ P t i){g o:Nat}{tt:TypeId}{cur:Array Value} (hg:w.heap[g]?=some (.cells cur tt (0,0)))
 (hs:v.cells.size=i.size) (hfit:o+i.size<=cur.size) (h1:∀u∈v.cells.toList,dH u):
 (Instr.storeAt t (.pointer (some ⟨g,o,none⟩)) v).run P w=.ok () (w.setRow g (cur.toList.take o++v.cells.toList++cur.toList.drop (o+i.size)).toArray):=by
 have:=run_storeCells_at P g o tt v.cells.toList 0 cur w hg (by simp;omega) (λu hu=>(h1 u hu).2)
 simp only[U2,UM]at this;simp only[Instr.storeAt,Instr.sureAddr,Sem.run_bind,Sem.run_pure,Result.andThen_ok,storeVar,run_sizeOf k,hs,ne_eq,not_true_eq_false,OX,Sem.run_ite];rw[<-hs];exact this
theorem aO.one{xs:List SC}{ys:List Value} (a:aO (λx y=>dX h β x y/\dH y) xs ys):∀u∈ys,dH u:=by
 induction xs generalizing ys with
 | nil=>cases ys with
   | nil=>intro u hu;simp at hu
   | cons _ _=>exact a.elim
 | cons x xs ih=>cases ys with
   | nil=>exact a.elim
   | cons y ys=>
     intro u hu;rcases lU.1 hu with rfl | hu
     .exact a.1.2
     .exact ih a.2 u hu
abbrev Jy(cx:Cx) (s:St) (d:Option Nat) (t:TypeId) (p x:Operand) (K:St->Prop):Prop:=match pR cx.ti t with
 | none=>False
 | some i=>match bT cx s [] p with
   | some (.one (.c (.own r off)))=>match bT cx s [] x with
     | some (.one v)=>match eX s.T r with
       | some ([],.blk tt cs)=>match v with
         | .dat sh dd=>match dG (Nat.beq off 0) (dG (Nat.beq (aN cs) i.size) (Nat.beq sh.size i.size)) with
           | true=>K ({ s with T:=dF s.T r ([],.obj tt sh dd) }.put d [] (.one .und))
           | false=>False
         | v=>match nU v with
           | some xs=>match dG (Nat.beq (aN xs) i.size) (Nat.ble (off+i.size) (aN cs)) with
             | true=>K ({ s with T:=dF s.T r ([],.blk tt (Vh off xs cs)) }.put d [] (.one .und))
             | false=>False
           | none=>False
       | some ([],.obj tt sh d0)=>match yB sh d0 off i.size v with
         | some dd=>K ({ s with T:=dF s.T r ([],.obj tt sh dd) }.put d [] (.one .und))
         | none=>False
       | _=>False
     | _=>False
   | some (.one (.c (.jU r j sz off)))=>match bT cx s [] x with
     | some (.one v)=>match eX s.T r with
       | some ([],.row tt sh l)=>match dG (Nat.beq sz sh.size) (dG (Nat.beq off 0) (Nat.beq sh.size i.size)) with
         | true=>match toDat sh v with
           | some dd=>(j < l.length)/\K ({ s with T:=dF s.T r ([],.row tt sh (l.set j dd)) }.put d [] (.one .und))
           | none=>False
         | false=>match Nat.beq sz sh.size with
           | true=>(j < l.length)/\∀e:sh.den,l[j]?=some e->match yB sh e off i.size v with
             | some dd=>K ({ s with T:=dF s.T r ([],.row tt sh (l.set j dd)) }.put d [] (.one .und))
             | none=>False
           | false=>False
       | some ([],.obj tt sh d0)=>match AQ sh d0 off j sz i.size v with
         | some p=>(j < p.1)/\K ({ s with T:=dF s.T r ([],.obj tt sh p.2) }.put d [] (.one .und))
         | none=>False
       | _=>False
     | _=>False
   | _=>False
section
variable {cx:Cx}{P:Program}{N:Nat}{B:Base}{h0:FH}{s:St}{h:FH}{β:List RV}{w:World}{a:Act}{o:Oper}{K:St->Prop}
theorem xH{s:St}{x:ak}:eff s.gl (dF s.T r ([],x))=(eff s.gl s.T).set r x:=by rw[fV]
theorem qw(aj:Sat N B h0 s h β w a){x:ak}:∀p∈dF s.T r ([],x),vF s.gl.length p.1=true:=by
 intro p hp;rw[gI]at hp;rcases Jg hp with hp | hp
 .exact aj.gT p hp
 .subst hp;rfl
theorem qU(aj:Sat N B h0 s h β w a) (hq:quietly o.op=false) (hd:lV N o.dst=true){g:Nat}{x x':ak} (hT:eX s.T r=some ([],x)) (hl:x.live=true) (hu:β[r]?=some u) (hub:u.block=some g){cs:Array Value}
 (hold:Holds h β (w.setRow g cs) x' u) (run:(execOp a.eval o).run P w=.ok .skip (w.setRow g cs)) (k:K ({ s with T:=dF s.T r ([],x') }.put o.dst [] (.one .und))):
 gJ P N B h0 h w a o (gv s.gl []) K:=by
 have fP:=bG hT (show gv s.gl []=true from rfl)
 have ok:OK B h0 (eff s.gl (dF s.T r ([],x'))) h β (w.setRow g cs):=by
  rw[xH];have:=aj.ok.upd (r':=x') (v:=u) fP hl hu (row:=some g) (ji w g cs) (λk e=>by cases e;exact .inl hub) (λb hb=>.inl hb) (.inl rfl) (by rw[ig hu];exact hold)
  rwa [ig hu]at this
 refine mX aj k rfl hq (.inr ⟨run,rfl⟩) (FH.le.refl h) ((aj.mem ok (FH.le.refl h) (Ext.refl β) (qw aj)).put (dU hd) rfl (λ_=>rfl) λhh=>by cases hh)
theorem Pj(hc:bV P cx.ti) (aj:Sat N B h0 s h β w a) (hg:aI cx.gd h) (hd:lV N o.dst=true){p x:Operand} (ho:o.op=.store t p x) (k:Jy cx s o.dst t p x K):
 gJ P N B h0 h w a o (gv s.gl []) K:=by
 have tr:gv s.gl []=true:=rfl;unfold Jy at k;split at k
 .cases k
 rename_i i hi;have ti:=hc.get hi;have exec:∀{w':World}{v pv:Value},a.eval x=v->a.eval p=pv->(Instr.storeAt t pv v).run P w=.ok () w'->(execOp a.eval o).run P w=.ok .skip w':=by
  intro w' v pv e1 e2 r;simp only[execOp,ho,e1,e2,Sem.run_bind,r,Result.andThen_ok,Sem.run_pure]
 split at k
 .rename_i r off hp;obtain⟨⟨b,hb,ep⟩,_⟩:=aK aj hg tr hp;split at k
  .rename_i v hv;have cv:=aK aj hg tr hv;split at k
   .rename_i tt cs hT;obtain⟨ys,he,hall⟩:=aj.ok.holds r _ _ (bG hT tr) hb;have hlen:=hall.length;split at k
    .rename_i sh dd;split at k
     .rename_i hz;rw[aB,aB,bY,bY]at hz;have hz1:off=0:=iC hz.1;have hz2:cs.length=i.size:=by have:=iC hz.2.1;rwa [bF]at this
      have hz3:sh.size=i.size:=iC hz.2.2;subst hz1;obtain⟨_,cs',ev,rd⟩:=cv;have hsz:=Rd.size sh rd;have r1:=fC (o:=0) (v:=a.eval x) ti he (by rw[ev];simp[Value.cells];omega) (by simp;omega) (by rw[ev];intro u hu;exact Rd.one sh rd u (by simpa[Value.cells]using hu))
      refine qU aj (by rw[ho];rfl) hd hT rfl hb rfl ?_ (exec rfl ep r1) k
      refine⟨_,setRow_heap w b _ _ tt (0,0) he,?_⟩;simp only[UY,UN,D6];rw[UL (by first | omega | (simp;omega)),Rf,ev]
      exact rd
     .cases k
    .split at k
     .rename_i xs hxs;split at k
      .rename_i hz;rw[aB,bY]at hz;have hz1:xs.length=i.size:=by have:=iC hz.1;rwa [bF]at this
       have hz2:off+i.size<=cs.length:=by have:=qo hz.2;rwa [bF]at this
       have hall':=xE hxs cv;have hl':=hall'.length;simp only[UM]at hl';have r1:=fC (o:=off) (v:=a.eval x) ti he (by omega) (by simp;omega) hall'.one
       refine qU aj (by rw[ho];rfl) hd hT rfl hb rfl ?_ (exec rfl ep r1) k
       refine⟨_,setRow_heap w b _ _ tt (0,0) he,?_⟩;unfold Vh;rw[fU,fU,jH,qL,bF,hz1];simp only[];rw[Au];exact(hall.take off).cat (hall'.cat (hall.drop _))
      .cases k
     .cases k
   .rename_i tt sh d0 hT;obtain⟨ys,he,rd0⟩:=aj.ok.holds r _ _ (bG hT tr) hb;split at k
    .rename_i dd hdd;obtain⟨cs',ec,e2,e3,e4,e5⟩:=nV sh hdd rd0 cv;have r1:=fC (o:=off) (v:=a.eval x) ti he (by rw[ec];simp;omega) (by simp;omega) (by rw[ec];intro u hu;exact e3 u (by simpa using hu))
     refine qU aj (by rw[ho];rfl) hd hT rfl hb rfl ?_ (exec rfl ep r1) k
     refine⟨_,setRow_heap w b _ _ tt (0,0) he,?_⟩;rw[ec];exact e5
    .cases k
   .cases k
  .cases k
 .rename_i r j sz off hp;obtain⟨⟨v0,g,hb,hgb,ep⟩,_⟩:=aK aj hg tr hp;split at k
  .rename_i v hv;have cv:=aK aj hg tr hv;split at k
   .rename_i tt sh l hT
    -- a store of k cells at a place of the j-th element
    have part:∀{e dd:sh.den},sz=sh.size->l[j]?=some e->(∀{cs:List Value},Rd h sh cs e->Upd h sh cs off i.size (a.eval x) dd) ->
     K ({ s with T:=dF s.T r ([],.row tt sh (l.set j dd)) }.put o.dst [] (.one .und))->gJ P N B h0 h w a o (gv s.gl []) K:=by
     intro e dd hz1 hej hu k;have hj:=(A8.1 hej).1;have hold:=aj.ok.holds r _ _ (bG hT tr) hb
     match v0,hold with
     | .row vv,hold=>
       rcases hold with⟨hv0,_⟩ | ⟨_,hv0,_⟩ | ⟨g',cap,cur,hv0,he,q2,q3,q4,q5⟩
       .subst hv0;simp[RV.block,aA]at hgb
       .subst hv0;simp[RV.block,aA]at hgb
       .have hgg:g'=g:=by rw[hv0]at hgb;exact D5 ((qJ q3.1).symm.trans hgb)
        subst hgg;have hm:(j+1) * sh.size<=l.length * sh.size:=yh _ hj;have hm2:l.length * sh.size<=cap * sh.size:=yh _ q2;rw[xw]at hm;obtain⟨g1,g2⟩:=q5.get (λ_ _=>Rd.size sh) hej
        have gl:=Rd.size sh g1;obtain⟨cs',ec,e2,e3,e4,e5⟩:=hu g1;rw[gl]at e4;have r1:=fC (o:=j * sz+off) (v:=a.eval x) ti he (by rw[ec];simp;omega) (by rw[hz1];omega) (by rw[ec];intro u hu;exact e3 u (by simpa using hu))
        refine qU aj (by rw[ho];rfl) hd hT rfl hb hgb ?_ (exec rfl ep r1) k
        rw[ec,hz1];refine .inr (.inr ⟨g',cap,_,by rw[hv0,wK],setRow_heap w g' _ _ tt (0,0) he,by rw[wK];exact q2,q3,?_,?_⟩)
        .simp only[GL,kH,lu,yj,UM];omega
        .rw[wK];show gG (Rd h sh) ((List.take (j * sh.size+off) cur.toList++cs'++List.drop (j * sh.size+off+i.size) cur.toList).take (l.length * sh.size)) (l.set j dd);have e:=gG.set (λ_ _=>Rd.size sh) q5 hj e5
         have lc:cur.toList.length=cap * sh.size:=by simpa using q4
         have key:(List.take (j * sh.size+off) cur.toList++cs'++List.drop (j * sh.size+off+i.size) cur.toList).take (l.length * sh.size) =
          List.take (j * sh.size) (List.take (l.length * sh.size) cur.toList)++(List.take off (List.take sh.size (List.drop (j * sh.size) (List.take (l.length * sh.size) cur.toList)))++cs'++List.drop (off+i.size) (List.take sh.size (List.drop (j * sh.size) (List.take (l.length * sh.size) cur.toList))))++List.drop (j * sh.size+sh.size) (List.take (l.length * sh.size) cur.toList):=by
          apply Jh;intro p;simp only[A93,vk,Ll,kH,lu,yj,lc,e2]
          repeat' split
          all_goals first | rfl | omega | (congr 1;omega) | (rw[CJ (by omega)]) | (exfalso;omega) | skip
         rw[key];exact e
    split at k
    .rename_i hz;rw[aB,aB,bY,bY]at hz;have hz1:sz=sh.size:=iC hz.1;have hz2:off=0:=iC hz.2.1;have hz3:sh.size=i.size:=iC hz.2.2;split at k
     .rename_i dd hdd;obtain⟨hj,k⟩:=k;refine part hz1 (kQ hj) (λhr=>?_) k
      subst hz2;exact AP hz3 hdd hr cv
     .cases k
    .split at k
     .rename_i hz;have hz1:sz=sh.size:=iC hz;obtain⟨hj,k⟩:=k;have k:=k _ (kQ hj);split at k
      .rename_i dd hdd;exact part hz1 (kQ hj) (λhr=>nV sh hdd hr cv) k
      .cases k
     .cases k
   .rename_i tt sh d0 hT;split at k
    .rename_i p hp0;obtain⟨hj,k⟩:=k;have hold:=aj.ok.holds r _ _ (bG hT tr) hb
     match v0,hold with
     | .blk b,⟨ys,he,rd0⟩=>
       have hgg:b=g:=by simpa[RV.block]using hgb
       subst hgg;obtain⟨cs',ec,e2,e3,e4,e5⟩:=Jq sh hp0 rd0 cv hj;have r1:=fC (o:=j * sz+off) (v:=a.eval x) ti he (by rw[ec];simp;omega) (by simp;omega) (by rw[ec];intro u hu;exact e3 u (by simpa using hu))
       refine qU aj (by rw[ho];rfl) hd hT rfl hb hgb ?_ (exec rfl ep r1) k
       refine⟨_,setRow_heap w b _ _ tt (0,0) he,?_⟩;rw[ec];exact e5
    .cases k
   .cases k
  .cases k
 .cases k
end
def oz(n bytes:Nat):Prop:=n * bytes<=140737488355328
abbrev Df(i:Nat) (x:SC):SC:=match SC.free i x with
 | true=>x
 | false=>.junk
abbrev jkV(i:Nat):SV->SV
 | .c x=>.c (Df i x)
 | .agg xs=>.agg (eY (Df i) xs)
 | v=>v
abbrev jkE(i:Nat):bg->bg
 | .one v=>.one (jkV i v)
 | .iJ vs=>.iJ (eY (jkV i) vs)
abbrev jkR(i:Nat):ak->ak
 | .blk t cs=>.blk t (eY (Df i) cs)
 | r=>r
abbrev tC(i:Nat):List (Nat×Gd×bg)->List (Nat×Gd×bg)
 | []=>[]
 | (k,g,e) :: l=>(k,g,jkE i e) :: tC i l
abbrev L9(i:Nat):List (Gd×ak)->List (Gd×ak)
 | []=>[]
 | (g,r) :: l=>(g,jkR i r) :: L9 i l
theorem dX.jk{x:SC}{y:Value} (v:RV) (c:dX h β x y):dX h (β.set i v) (Df i x) y:=by
 unfold Df;split
 .rename_i hf;exact c.set hf
 .trivial
theorem dX.jk0{x:SC}{y:Value} (c:dX h β x y):dX h β (Df i x) y:=by
 unfold Df;split
 .exact c
 .trivial
theorem aO.jk{h:FH}{β:List RV}{i:Nat} (v:RV):∀{xs:List SC}{ys:List Value},aO (λx y=>dX h β x y/\dH y) xs ys->aO (λx y=>dX h (β.set i v) x y/\dH y) (eY (Df i) xs) ys
 | [],[],_=>trivial
 | _ :: _,_ :: _,⟨a,b⟩=>⟨⟨a.1.jk v,a.2⟩,aO.jk v b⟩
theorem aO.jk0{h:FH}{β:List RV}{i:Nat}:∀{xs:List SC}{ys:List Value},aO (λx y=>dX h β x y/\dH y) xs ys->aO (λx y=>dX h β x y/\dH y) (eY (Df i) xs) ys
 | [],[],_=>trivial
 | _ :: _,_ :: _,⟨a,b⟩=>⟨⟨a.1.jk0,a.2⟩,aO.jk0 b⟩
theorem dD.jk{h:FH}{β:List RV}{i:Nat} (v:RV):∀{x:SV}{y:Value},dD h β x y->dD h (β.set i v) (jkV i x) y
 | .c _,_,c=>⟨c.1.jk v,c.2⟩
 | .agg _,_,⟨ys,e,a⟩=>⟨ys,e,a.jk v⟩
 | .dat _ _,_,c=>c
 | .und,_,c=>c
theorem jS.jk{h:FH}{β:List RV}{i:Nat} (v:RV):∀{x:bg}{y:Value},jS h β x y->jS h (β.set i v) (jkE i x) y
 | .one _,_,c=>dD.jk v c
 | .iJ _,_,⟨ys,e,a⟩=>⟨ys,e,go a⟩
where
 go:∀{xs:List SV}{ys:List Value},aO (dD h β) xs ys->aO (dD h (β.set i v)) (eY (jkV i) xs) ys
  | [],[],_=>trivial
  | _ :: _,_ :: _,⟨a,b⟩=>⟨a.jk v,go b⟩
theorem Holds.jk0{h:FH}{β:List RV}{w:World}{i:Nat}:∀{r:ak}{v:RV},Holds h β w r v->Holds h β w (jkR i r) v
 | .blk _ _,.blk _,⟨ys,e,a⟩=>⟨ys,e,a.jk0⟩
 | .row _ _ _,.row _,e=>e
 | .obj _ _ _,.blk _,e=>e
 | .deep _ _ _ _ _ _ _ _,.deep _ _,e=>e
 | .mp _ _ _,.row _,e=>e
 | .OD _ _ _ _,.deep _ _,e=>e
 | .it _ _ _ _,.blk _,e=>e
 | .LC _ _ _ _,.row _,e=>e
 | .Hz _ _ _ _,.deep _ _,e=>e
 | .gone,_,_=>trivial
theorem XK(i:Nat) (x:SC):SC.free i (Df i x)=true:=by
 unfold Df;split
 .assumption
 .rfl
theorem Ey(i:Nat):∀xs:List SC,vw i (eY (Df i) xs)=true
 | []=>rfl
 | x :: l=>by simp only[eY,vw,XK,Ey i l,Bool.and_self]
theorem Mc(i:Nat) (r:ak):ak.free i (jkR i r)=true:=by
 cases r with
 | blk t cs=>exact Ey i cs
 | _=>rfl
theorem uI(i:Nat) (r:ak):(jkR i r).live=r.live:=by cases r<;>rfl
theorem Ez(i:Nat):∀{l:List (Nat×Gd×bg)}{t:Nat}{G:Gd}{e:bg},iG (tC i l) t=some (G,e)->∃e0,iG l t=some (G,e0)/\e=jkE i e0
 | [],_,_,_,h=>by simp[tC,iG]at h
 | (k,g,e0) :: l,t,G,e,h=>by
   simp only[tC]at h;rw[aX]at h ⊢
   split at h
   .rename_i hk;cases h;exact⟨e0,by rw[if_pos hk],rfl⟩
   .rename_i hk;rw[if_neg hk];exact Ez i h
theorem Jz(i:Nat):∀{l:List (Nat×Gd×bg)}{t:Nat}{G:Gd}{e:bg},iG l t=some (G,e)->iG (tC i l) t=some (G,jkE i e)
 | [],_,_,_,h=>by simp[iG]at h
 | (k,g,e0) :: l,t,G,e,h=>by
   simp only[tC];rw[aX]at h ⊢
   split at h
   .rename_i hk;cases h;rw[if_pos hk]
   .rename_i hk;rw[if_neg hk];exact Jz i h
theorem Pm(gl:List Bool) (i:Nat):∀{T:List (Gd×ak)},eff gl (L9 i T)=(eff gl T).map (jkR i)
 | []=>rfl
 | (g,r) :: l=>by
   simp only[L9,eff,UO,Pm gl i (T:=l)]
   congr 1
   cases gv gl g<;>rfl
section
variable {cx:Cx}{P:Program}{N:Nat}{B:Base}{h0:FH}{s:St}{h:FH}{β:List RV}{w:World}{a:Act}{o:Oper}{K:St->Prop}
theorem OK.jk(ok:OK B h0 T h β w) (i:Nat):OK B h0 (T.map (jkR i)) h β w where
 below:=ok.below
 dr:=ok.dr
 len:=by simp[ok.len]
 holds:=by
  intro j r v e e';rw[wJ]at e;cases hj:T[j]? with
  | none=>rw[hj]at e;cases e
  | some r0=>rw[hj]at e;cases e;exact(ok.holds j r0 v hj e').jk0
 own:=by
  intro j r v b e hl e' hb;rw[wJ]at e;cases hj:T[j]? with
  | none=>rw[hj]at e;cases e
  | some r0=>rw[hj]at e;cases e;exact ok.own j r0 v b hj (by rw[<-uI i];exact hl) e' hb
 inj:=by
  intro j k r1 r2 u v b e1 l1 e2 l2 e3 e4 b1 b2;rw[wJ]at e1 e2;cases hj:T[j]? with
  | none=>rw[hj]at e1;cases e1
  | some q1=>
    cases hk:T[k]? with
    | none=>rw[hk]at e2;cases e2
    | some q2=>
      rw[hj]at e1;rw[hk]at e2;cases e1;cases e2;exact ok.inj j k q1 q2 u v b hj (by rw[<-uI i];exact l1) hk (by rw[<-uI i];exact l2) e3 e4 b1 b2
 hle:=ok.hle
 hw:=ok.hw
 hg:=ok.hg
 kn:=ok.kn
theorem Vo(aj:Sat N B h0 s h β w a) (hq:quietly o.op=false) (hd:lV N o.dst=true){x x':ak}{v:RV} (hT:eX s.T r=some ([],x)) (hl:x.live=true) (hu:β[r]?=some u){y:Value}
 (hg:Gb w w' u.block) (hv:∀b,v.block=some b->u.block=some b\/(w.heap.size<=b/\b < w'.heap.size)) (hvs:∀b,¬v.sub b:=by exact λ_ h=>h) (hold:Holds h (β.set r v) w' x' v)
 (run:(execOp a.eval o).run P w=.ok (.value y) w'){e:bg} (he:jS h (β.set r v) e y)
 (k:K ({ s with T:=dF (L9 r s.T) r ([],x'),env:=tC r s.env }.put o.dst [] e)):
 gJ P N B h0 h w a o (gv s.gl []) K:=by
 have tr:gv s.gl []=true:=rfl;have fP:=bG hT tr;have okj:=aj.ok.jk r;have hTj:((eff s.gl s.T).map (jkR r))[r]?=some (jkR r x):=by rw[wJ,fP];rfl
 have ok:OK B h0 (eff s.gl (dF (L9 r s.T) r ([],x'))) h (β.set r v) w':=by
  rw[fV,Pm];refine okj.upd hTj (by rw[uI];exact hl) hu hg (λk e=>.inl e) (λb hb=>hb.elim (λq=>(hv b q).imp .inl id) λq=>(hvs b q).elim) (.inr λj rj _ ej=>?_) hold
  rw[wJ]at ej;cases hj:(eff s.gl s.T)[j]? with
  | none=>rw[hj]at ej;cases ej
  | some q=>rw[hj]at ej;cases ej;exact Mc r q
 have aT:Sat N B h0 { s with T:=dF (L9 r s.T) r ([],x'),env:=tC r s.env } h (β.set r v) w' a:=by
  refine⟨ok,?_,?_,aj.defers,aj.sz,?_,?_⟩
  .intro t G e ht;obtain⟨e0,h1,rfl⟩:=Ez r ht;obtain⟨z,q1,q2,q3⟩:=aj.env t G e0 h1;exact⟨z,q1,λhG=>(q2 hG).jk v,q3⟩
  .intro d i hi;obtain⟨G,b,q1,q2⟩:=aj.gs d i hi;exact⟨G,b,Jz r q1,q2⟩
  .intro t G e ht;obtain⟨e0,h1,rfl⟩:=Ez r ht;exact aj.gb t G e0 h1
  .intro p hp;simp only at hp;rw[gI]at hp;rcases Jg hp with hp | hp
   .have:∀{l:List (Gd×ak)},p∈L9 r l->∃q∈l,q.1=p.1:=by
     intro l
     induction l with
     | nil=>intro hh;simp[L9]at hh
     | cons q l ih=>
       obtain⟨g,q⟩:=q;intro hh;simp only[L9,lU]at hh;rcases hh with rfl | hh
       .exact⟨(g,q),by simp,rfl⟩
       .obtain⟨q',h1,h2⟩:=ih hh;exact⟨q',by simp[h1],h2⟩
    obtain⟨q,h1,h2⟩:=this hp;rw[<-h2];exact aj.gT q h1
   .subst hp;rfl
 exact mX aj k tr hq (.inl run) (FH.le.refl h) (aT.put (dU hd) rfl (λ_=>he) λhh=>by cases hh)
end
def XL(h:FH) (w:World) (sh:Sh) (v:Value) (l:List sh.den):Prop:=
 (v=.slice none 0 0/\l=[])\/(∃a c,v=.slice (some a) 0 c/\l=[])\/∃b o c cs,v=.slice (some ⟨b,o,none⟩) l.length c/\gG (Rd h sh) cs l/\∀j u,cs[j]?=some u->w.cell? ⟨b,o+j,none⟩=some u
def RF(h:FH) (w:World) (t:TypeId) (sh:Sh) (v:Value) (l:List sh.den):Prop:=Holds h [] w (.row t sh l) (.row v)
theorem uJ{ty:TypeId}{i:TI}{sh:Sh}{sv:Value}{l l2:List sh.den} (hu:P.underlying t=some (.slice el)) (k:aJ P el i) (hs:sh.size=i.size)
 (hb1:1<=i.bytes) (hs1:1<=i.size) (row:RF h w el sh v l) (src:XL h w sh sv l2) (room:oz (l.length+l2.length) i.bytes)
 (hw:∀b o u,h b o=some u->vis w b o=some u):
 ∃v' w',(Builtin.append_ #[t,t] ty #[v,sv]).run P w=.ok v' w'/\Gb w w' (aA v)/\(∀b,aA v'=some b->aA v=some b\/(w.heap.size<=b/\b < w'.heap.size))/\RF h w' el sh v' (l++l2):=by
 obtain⟨inf,z,i1,i2,i3,i4,i5⟩:=k.info;unfold oz at room;have hn:l.length+l2.length<=140737488355328:=pI (A83 _ hb1) room;have XM:z.cells.size=i.size:=by rw[i5];simpa using k.pz
 rcases src with⟨rfl,rfl⟩ | ⟨sa,sc,rfl,rfl⟩ | ⟨b,o,c,cs,rfl,rd,at_⟩
 .refine⟨v,w,?_,dh _ _,λb hb=>.inl hb,by rw[Rf];exact row⟩
  rcases row with⟨rfl,rfl⟩ | ⟨_,rfl,rfl⟩ | ⟨g,cap,cur,rfl,q1,q2,q3,q4,q5⟩
  .simp[Builtin.append_,run_underlying hu,sizeOf,typeInfo,i1,Builtin.lenOf,Builtin.firstCells]
  .simp[Builtin.append_,run_underlying hu,sizeOf,typeInfo,i1,Builtin.lenOf,Builtin.firstCells,storeCells]
  .simp[Builtin.append_,run_underlying hu,sizeOf,typeInfo,i1,Builtin.lenOf,Builtin.firstCells,q2,storeCells]
 .refine⟨v,w,?_,dh _ _,λb hb=>.inl hb,by rw[Rf];exact row⟩
  rcases row with⟨rfl,rfl⟩ | ⟨_,rfl,rfl⟩ | ⟨g,cap,cur,rfl,q1,q2,q3,q4,q5⟩
  .simp[Builtin.append_,run_underlying hu,sizeOf,typeInfo,i1,Builtin.lenOf,Builtin.firstCells,loadCells,loadCellsFrom]
  .simp[Builtin.append_,run_underlying hu,sizeOf,typeInfo,i1,Builtin.lenOf,Builtin.firstCells,storeCells,loadCells,loadCellsFrom]
  .simp[Builtin.append_,run_underlying hu,sizeOf,typeInfo,i1,Builtin.lenOf,Builtin.firstCells,q2,storeCells,loadCells,loadCellsFrom]
 .have hcs:cs.length=l2.length * inf.size:=by rw[gG.size (λ_ _=>Rd.size sh) rd,i2,hs]
  have hnews:∀j u,cs[j]?=some u->w.cell? ((⟨b,o,none⟩:Addr).add j)=some u:=λj u e=>by rw[add_lit];exact at_ j u e
  have h1:∀u∈cs,u.oneCell'=true:=λu hu'=>(gG.all (λ_ _ r=>Rd.one sh r) rd u hu').2
  rcases row with⟨rfl,rfl⟩ | ⟨ra,rfl,rfl⟩ | ⟨g,cap,cur,rfl,q1,q2,q3,q4,q5⟩
  .by_cases hm:l2.length=0
   .have:l2=[]:=WH hm;subst this;refine⟨.slice none 0 0,w,?_,dh _ _,λb hb=>.inl hb,.inl ⟨rfl,rfl⟩⟩
    simp[Builtin.append_,run_underlying hu,sizeOf,typeInfo,i1,Builtin.lenOf,Builtin.firstCells,loadCells,loadCellsFrom]
   .have r:=run_append_nil (P:=P) w t ty el inf z hu i1 i4 ⟨b,o,none⟩ l2.length c cs hcs hnews (by omega) (by simp at hn;omega) (by rw[i3];simp at room;omega)
    have hge:=grownCap_ge w l2.length 0 el;refine⟨_,_,r,⟨⟨rfl,rfl,rfl,by simp,λk hk _=>(World.grownBy_alloc w.drew _ none).block k hk (by simp)⟩,AA _⟩,?_,?_⟩
    .intro b' hb';simp[aA]at hb';obtain⟨_,rfl⟩:=hb';right;simp
    .refine .inr (.inr ⟨w.heap.size,_,_,rfl,heap_alloc_new w.drew _,by simpa using hge,⟨by omega,grownCap_le_maxLen w l2.length 0 el (by simp only[maxLen];simp at hn;omega)⟩,?_,?_⟩)
     .simp only[A88,GL,size_zeroCells,XM,hcs,i2,hs,<-Lm]
      congr 1;omega
     .simp only[A98,UN];rw[show l2.length * sh.size=cs.length by rw[hcs,i2,hs],Xa]
      exact rd
  .by_cases hm:l2.length=0
   .have:l2=[]:=WH hm;subst this;refine⟨.slice (some ra) 0 0,w,?_,dh _ _,λb hb=>.inl hb,.inr (.inl ⟨ra,rfl,rfl⟩)⟩
    simp[Builtin.append_,run_underlying hu,sizeOf,typeInfo,i1,Builtin.lenOf,Builtin.firstCells,storeCells,loadCells,loadCellsFrom]
   .have r:=run_append_grow (P:=P) w t ty el inf z hu i1 i4 ra 0 0 [] (by simp) (λj u e=>by simp at e) ⟨b,o,none⟩ l2.length c cs hcs hnews (by omega) (by simp at hn;omega) (growslice_fits (by omega) (by rw[i3];simpa using room))
    rw[D6]at r;have hge:=grownCap_ge w l2.length 0 el;refine⟨_,_,r,⟨⟨rfl,rfl,rfl,by simp,λk hk _=>(World.grownBy_alloc w.drew _ none).block k hk (by simp)⟩,AA _⟩,?_,?_⟩
    .intro b' hb';simp[aA]at hb';obtain⟨_,rfl⟩:=hb';right;simp
    .refine .inr (.inr ⟨w.heap.size,_,_,rfl,heap_alloc_new w.drew _,by simpa using hge,⟨by omega,grownCap_le_maxLen w l2.length 0 el (by simp only[maxLen];simp at hn;omega)⟩,?_,?_⟩)
     .simp only[A88,GL,size_zeroCells,XM,UN,hcs,i2,hs,D6,Lp,<-Lm]
      congr 1;omega
     .simp only[A98,UN];rw[show l2.length * sh.size=cs.length by rw[hcs,i2,hs],Xa]
      exact rd
  .by_cases hroom:l.length+l2.length<=cap
   .have hfit:l.length * inf.size+cs.length<=cur.size:=by rw[hcs,q4,i2,hs,<-Lm];exact yh _ hroom
    have r:=run_append_room (P:=P) w t ty el inf hu i1 g l.length cap cur q1 ⟨b,o,none⟩ l2.length c cs hcs hnews h1 hroom hfit;refine⟨_,_,r,by rw[aW q3.1];exact ji w g _,λb' hb'=>.inl (by rw[aW q3.1]at hb' ⊢;exact hb'),.inr (.inr ⟨g,cap,_,by rw[kH],setRow_heap w g cur _ el _ q1,by rw[kH];exact hroom,q3,?_,?_⟩)⟩
    .simp only[GL,kH,lu,yj,UM];omega
    .have e1:(List.take (l.length * sh.size) cur.toList++cs).length=(l++l2).length * sh.size:=by
      rw[kH,kH,Lm,hcs,i2,gG.size (λ_ _=>Rd.size sh) q5,hs]
     show gG (Rd h sh) ((List.take (l.length * inf.size) cur.toList++cs++List.drop (l.length * inf.size+cs.length) cur.toList).take ((l++l2).length * sh.size)) (l++l2);rw[i2,<-hs,<-e1,Xa];exact q5.append rd
   .have lsz:=gG.size (λ_ _=>Rd.size sh) q5
    have hol:(cur.toList.take (l.length * sh.size)).length=l.length * inf.size:=by rw[lsz,i2,hs]
    have holds:∀j u,(cur.toList.take (l.length * sh.size))[j]?=some u->w.cell? ((⟨g,0,none⟩:Addr).add j)=some u:=by
     intro j u e;rw[add_lit,D6,cell_of_row w g j cur el (0,0) q1];rw[vk]at e;split at e
     .simpa using e
     .cases e
    have r:=run_append_grow (P:=P) w t ty el inf z hu i1 i4 ⟨g,0,none⟩ l.length cap _ hol holds ⟨b,o,none⟩ l2.length c cs hcs hnews (by omega) (by omega) (growslice_fits (by omega) (by rw[i3];exact room))
    have hge:=grownCap_ge w (l.length+l2.length) cap el;refine⟨_,_,r,⟨⟨rfl,rfl,rfl,by simp,λk hk _=>(World.grownBy_alloc w.drew _ none).block k hk (by simp)⟩,AA _⟩,?_,?_⟩
    .intro b' hb';simp[aA]at hb';obtain⟨_,rfl⟩:=hb';right;simp
    .refine .inr (.inr ⟨w.heap.size,_,_,by rw[kH],heap_alloc_new w.drew _,by rw[kH];exact hge,⟨by omega,grownCap_le_maxLen w _ cap el (by simp only[maxLen];omega)⟩,?_,?_⟩)
     .have aiK:(cur.toList.take (l.length * i.size)).length=l.length * i.size:=by rw[<-hs];exact lsz
      simp only[A88,GL,size_zeroCells,XM,hcs,i2,hs,aiK,<-Lm]
      congr 1
      omega
     .simp only[A98,Au];rw[<-Au,show(l++l2).length * sh.size=(List.take (l.length * sh.size) cur.toList++cs).length by rw[kH,kH,Lm,hcs,lsz,i2,hs],Xa]
      exact q5.append rd
abbrev iP(cx:Cx) (t:TypeId) (K:TypeId->TI->Sh->Prop):Prop:=match descOf cx t with
 | .slice el=>match pR cx.ti el with
   | none=>False
   | some ie=>match ie.iO with
     | none=>False
     | some sh=>match dG (Nat.beq sh.size ie.size) (dG (Nat.ble 1 ie.bytes) (Nat.ble 1 ie.size)) with
       | true=>K el ie sh
       | false=>False
 | _=>False
abbrev Pn(s:St) (sh:Sh) (v:SV):Option (List sh.den):=match v with
 | .c (.sl oL l2)=>jE (.sl oL) l2 (.sl sh)
 | .c (.v (.slice none 0 0))=>some []
 | .c (.row r)=>match eX s.T r with
   | some ([],.row _ oL l2)=>jE (.sl oL) l2 (.sl sh)
   | _=>none
 | _=>none
abbrev vM(cx:Cx) (s:St) (d:Option Nat) (t:TypeId) (x y:Operand) (K:St->Prop):Prop:=iP cx t λel ie sh=>
 match bT cx s [] y with
 | some (.one v2)=>match Pn s sh v2 with
   | none=>False
   | some l2=>match bT cx s [] x with
     | some (.one (.c (.row r)))=>match eX s.T r with
       | some ([],.row tt fA l1)=>match Nat.beq tt el with
         | true=>match jE (.sl fA) l1 (.sl sh) with
           | some l=>oz (l.length+l2.length) ie.bytes/\K ({ s with T:=dF (L9 r s.T) r ([],.row el sh (l++l2)),env:=tC r s.env }.put d [] (.one (.c (.row r))))
           | none=>False
         | false=>False
       | _=>False
     | some (.one (.c (.v (.slice none 0 0))))=>oz l2.length ie.bytes/\K ({ s with T:=snoc s.T ([],.row el sh l2) }.put d [] (.one (.c (.row (aN s.T)))))
     | _=>False
 | _=>False
section
variable {cx:Cx}{P:Program}{N:Nat}{B:Base}{h0:FH}{s:St}{h:FH}{β:List RV}{w:World}{a:Act}{o:Oper}{K:St->Prop}
theorem oM{fA sh:Sh}{l1:List fA.den}{l:List sh.den} (e:jE (.sl fA) l1 (.sl sh)=some l):∃e':fA=sh,(e'▸l1:List sh.den)=l:=by
 obtain⟨e1,e2⟩:=kJ e;cases e1;exact⟨rfl,e2⟩
theorem Dh(aj:Sat N B h0 s h β w a){sh:Sh}{v:SV}{l:List sh.den}{y:Value} (e:Pn s sh v=some l) (c:dD h β v y):XL h w sh y l:=by
 unfold Pn at e;split at e
 .rename_i oL l2;obtain⟨e1,e2⟩:=oM e;subst e1;simp only at e2;subst e2;rcases c.1 with⟨e1,e2⟩ | ⟨ad,cap,e1,e2,_⟩ | ⟨b,off,cap,e1,q1,q2,cs,rd,at_⟩
  .exact .inl ⟨e1,e2⟩
  .exact .inr (.inl ⟨ad,cap,e1,e2⟩)
  .exact .inr (.inr ⟨b,off,cap,cs,e1,rd,λj u hj=>D7 (aj.ok.hw _ _ _ (at_ j u hj)) (gG.all (λ_ _=>Rd.one _) rd u (gZ hj)).2⟩)
 .cases e;exact .inl ⟨c.1.1,rfl⟩
 .rename_i r;split at e
  .rename_i tt oL l2 hT;obtain⟨e1,e2⟩:=oM e;subst e1;simp only at e2;subst e2;rcases aj.ok.holds r _ _ (bG hT rfl) (aj.ok.row_of (bG hT rfl) c.1) with⟨e1,e2⟩ | ⟨ra,e1,e2⟩ | ⟨g,cap,cur,e1,q1,q2,q3,q4,rd⟩
   .exact .inl ⟨e1,e2⟩
   .exact .inr (.inl ⟨ra,0,e1,e2⟩)
   .refine .inr (.inr ⟨g,0,cap,_,e1,rd,λj u hj=>?_⟩)
    rw[D6,cell_of_row w g j cur tt (0,0) q1];rw[vk]at hj;split at hj
    .simpa using hj
    .cases hj
  .cases e
 .cases e
theorem BR(hc:bV P cx.ti) (aj:Sat N B h0 s h β w a) (hg:aI cx.gd h) (hd:lV N o.dst=true){x:Operand} (ho:o.op=.call c) (cZ:c.callee=.builtin .append) (ha:c.args=#[x,y]) (ht:c.argTypes=#[t,t])
 (k:vM cx s o.dst t x y K):gJ P N B h0 h w a o (gv s.gl []) K:=by
 have tr:gv s.gl []=true:=rfl;unfold vM iP at k;split at k
 .rename_i el hde;have hu:=bI hc hde (by simp)
  split at k
  .cases k
  rename_i ie hie;have tie:=hc.get hie;split at k
  .cases k
  rename_i sh hsh;split at k
  .rename_i hz;rw[aB,aB,bY,bY]at hz;have hz1:sh.size=ie.size:=iC hz.1;have hz2:1<=ie.bytes:=qo hz.2.1;have hz3:1<=ie.size:=qo hz.2.2;split at k
   .rename_i v2 hv2;have c2:=aK aj hg tr hv2;split at k
    .cases k
    rename_i l2 hl2;have src:=Dh aj hl2 c2;have exec:∀{u u':Value}{w':World},a.eval x=u->(Builtin.append_ #[t,t] o.type #[u,a.eval y]).run P w=.ok u' w'->(execOp a.eval o).run P w=.ok (.value u') w':=by
     intro u u' w' e r;simp[execOp,ho,resolve,cZ,ha,ht,invoke,builtin,e,r]
    split at k
    .rename_i r hr;have cr:=aK aj hg tr hr;split at k
     .rename_i tt fA l1 hT;split at k
      .rename_i htt;have htt:tt=el:=iC htt;subst htt;split at k
       .rename_i l hl;obtain⟨e1,e2⟩:=oM hl;subst e1;simp only at e2;subst e2;have cr1:=aj.ok.row_of (bG hT tr) cr.1;have row:RF h w tt fA (a.eval x) l1:=aj.ok.holds r _ _ (bG hT tr) cr1;obtain⟨v',w',r1,r2,r3,r4⟩:=uJ (ty:=o.type) hu tie hz1 hz2 hz3 row src k.1 aj.ok.hw;have gX:r < β.length:=(A8.1 cr1).1;refine Vo aj (by rw[ho];simp only[quietly,cZ]) hd (v:=.row v') hT rfl cr1 r2 r3 (hold:=show Holds h (β.set r (.row v')) w' (.row tt fA (l1++l2)) (.row v') from r4) (run:=exec rfl r1) (he:=?_) (k:=k.2)
        refine⟨?_,?_⟩
        .refine⟨.row v',?_,rfl⟩;rw[pq gX]
        .rcases r4 with⟨rfl,_⟩ | ⟨_,rfl,_⟩ | ⟨g,cap,cur,rfl,_⟩<;>exact⟨rfl,rfl⟩
       .cases k
      .cases k
     .cases k
    .rename_i hx;have Ib:=aK aj hg tr hx;obtain⟨v',w',r1,r2,r3,r4⟩:=uJ (ty:=o.type) (l:=[]) hu tie hz1 hz2 hz3 (.inl ⟨Ib.1.1,rfl⟩) src (by simpa using k.1) aj.ok.hw
     refine lF aj rfl hd k.2 λ_=>⟨v',w',.row v',exec rfl r1,?_,?_,?_,?_⟩
     .rw[Ib.1.1]at r2;exact r2
     .intro b hb;rcases r3 b (aZ.1 hb) with hh | hh
      .rw[Ib.1.1]at hh;cases hh
      .exact hh
     .exact r4
     .refine⟨⟨_,kL (lG aj) _,rfl⟩,?_⟩;rcases r4 with⟨rfl,_⟩ | ⟨_,rfl,_⟩ | ⟨g,cap,cur,rfl,_⟩<;>exact⟨rfl,rfl⟩
    .cases k
   .cases k
  .cases k
 .cases k
end
abbrev RG(cx:Cx) (s:St) (G:Gd) (d:Option Nat) (t:TypeId) (ln cp:Operand) (K:St->Prop):Prop:=iP cx t λel ie sh=>
 match bT cx s G ln with
 | some (.one (.c (.v (.int _ n))))=>match bT cx s G cp with
   | some (.one (.c (.v (.int _ c))))=>side s.gl G (0<=n/\n<=c/\oz c.toNat ie.bytes)/\K ({ s with T:=snoc s.T (G,.row el sh (List.replicate n.toNat (qO sh))) }.put d G (.one (.c (.row (aN s.T)))))
   | _=>False
 | _=>False
theorem JA{α:Type}{R:List Value->α->Prop}{cs:List Value}{d:α} (r:R cs d):∀n:Nat,gG R (iK n cs) (List.replicate n d)
 | 0=>rfl
 | n+1=>⟨cs,iK n cs,by simp only[iK,fU],r,JA r n⟩
theorem AZ{l:List Value}:∀{n m:Nat},n<=m->(iK m l).take (n * l.length)=iK n l
 | 0,m,_=>by simp[iK]
 | n+1,0,h=>by omega
 | n+1,m+1,h=>by
   simp only[iK,fU];rw[xw,Xl,adl,AZ (by omega)]
section
variable {cx:Cx}{P:Program}{N:Nat}{B:Base}{h0:FH}{s:St}{h:FH}{β:List RV}{w:World}{a:Act}{G:Gd}{o:Oper}{K:St->Prop}
theorem Vp(hc:bV P cx.ti) (aj:Sat N B h0 s h β w a) (hg:aI cx.gd h) (hG:vF s.gl.length G=true) (hd:lV N o.dst=true){x:Operand} (ho:o.op=.makeSlice t x y)
 (k:RG cx s G o.dst t x y K):gJ P N B h0 h w a o (gv s.gl G) K:=by
 unfold RG iP at k;split at k
 .rename_i el hde;have hu:=bI hc hde (by simp)
  split at k
  .cases k
  rename_i ie hie;have tie:=hc.get hie;split at k
  .cases k
  rename_i sh hsh;split at k
  .rename_i hz;rw[aB,aB,bY,bY]at hz;have hz1:sh.size=ie.size:=iC hz.1;have hz2:1<=ie.bytes:=qo hz.2.1;have hz3:1<=ie.size:=qo hz.2.2;split at k
   .rename_i ik n hn;split at k
    .rename_i ik' c hcp;refine lF aj hG hd k.2 λhgv=>?_
     obtain⟨s1,s2,s3⟩:=fE k.1 hgv;have e1:a.eval x=.int ik n:=(aK aj hg hgv hn).1.1;have e2:a.eval y=.int ik' c:=(aK aj hg hgv hcp).1.1;obtain⟨inf,z,i1,i2,i3,i4,i5⟩:=tie.info;unfold oz at s3;have hcb:c.toNat<=140737488355328:=pI (A83 _ hz2) s3;have hb:(inf.bytes:Int) * c<=281474976710656:=by
      rw[i3];have:((c.toNat * ie.bytes:Nat):Int)<=140737488355328:=by omega
      rw[Int.natCast_mul,Int.toNat_of_nonneg (by omega),Int.mul_comm]at this
      omega
     have r:=run_make (P:=P) w t el inf z hu i1 i4 ik ik' n c s1 s2 hb (by omega)
     have XN:madeCells z.cells (c.toNat * inf.size)=(iK c.toNat ie.zero).toArray:=by
      unfold madeCells;rw[i5,i2,<-tie.pz];exact qR (by rw[tie.pz];omega)
     rw[XN]at r;refine⟨.slice (some ⟨w.heap.size,0,none⟩) n.toNat c.toNat,w.alloc (.cells (iK c.toNat ie.zero).toArray el),.row (.slice (some ⟨w.heap.size,0,none⟩) n.toNat c.toNat),?_,oI _ _ _,?_,?_,?_⟩
     .simp only[execOp,ho,e1,e2,Sem.run_bind,r,Result.andThen_ok,Sem.run_pure]
     .intro b hb';rw[aZ]at hb';simp[aA]at hb';obtain⟨_,rfl⟩:=hb';simp
     .by_cases hc0:c.toNat=0
      .have hn0:n.toNat=0:=by omega
       exact .inr (.inl ⟨⟨w.heap.size,0,none⟩,by rw[hc0,hn0],by rw[hn0];rfl⟩)
      refine .inr (.inr ⟨w.heap.size,c.toNat,_,by rw[Lj],mY _ _,by rw[Lj];omega,⟨by omega,by simp only[maxLen];omega⟩,?_,?_⟩)
      .simp only[GL,uH,tie.pz,hz1]
      .rw[Lj];show gG (Rd h sh) ((iK c.toNat ie.zero).take (n.toNat * sh.size)) _;rw[hz1,<-tie.pz,AZ (by omega)]
       exact JA (yK (tie.Xw sh hsh).1) _
     .exact⟨⟨_,kL (lG aj) _,rfl⟩,rfl,rfl⟩
    .cases k
   .cases k
  .cases k
 .cases k
end
abbrev fD:(ss:List Sh)->cO ss->List SV
 | [],_=>[]
 | s :: l,d=>iH s d.1 :: fD l d.2
abbrev yM:(ss:List Sh)->List SV->Option (cO ss)
 | [],vs=>match vs with
   | []=>some ()
   | _=>none
 | s :: l,vs=>match vs with
   | v :: r=>match toDat s v with
     | some d=>match yM l r with
       | some e=>some (d,e)
       | none=>none
     | none=>none
   | _=>none
theorem yN{h:FH}{β:List RV}:∀{ss:List Sh}{vs:List SV}{ys:List Value}{d:cO ss},yM ss vs=some d->aO (dD h β) vs ys->aO (dD h β) (fD ss d) ys
 | [],vs,ys,d,e,a=>by
   unfold yM at e;split at e
   .cases ys with
    | nil=>trivial
    | cons _ _=>exact a.elim
   .cases e
 | s :: l,vs,ys,d,e,a=>by
   unfold yM at e;split at e
   .rename_i v r;cases ys with
    | nil=>exact a.elim
    | cons y ys=>
      split at e
      .rename_i d1 hd;split at e
       .rename_i d2 hr;cases e;obtain⟨cs,e1,rd⟩:=toDat_ok hd a.1;rw[e1];exact⟨jI s rd,yN hr a.2⟩
       .cases e
      .cases e
   .cases e
structure CT where
 ps:List Sh
 pre:cO ps->Prop
 res:cO ps->List ak×bg
variable {ct:Nat->Option CT}
def Md(P:Program) (gd:Nat->Option (Sigma Sh.den)) (f:FuncId) (ct:CT):Prop:=
 ∀(d:cO ct.ps) (vs:List Value) (h:FH) (B:World),(∀b o v,h b o=some v->vis B b o=some v)->aI gd h->aO (dD h []) (fD ct.ps d) vs->ct.pre d ->
   Calls P f vs.toArray B (λen w'=>∃h' β y,en=.returned y/\OK (Base.of B) h (ct.res d).1 h' β w'/\jS h' β (ct.res d).2 y)
def CTX(P:Program) (gd:Nat->Option (Sigma Sh.den)) (f:FuncId) (suf:List Value) (ct:CT):Prop:=
 ∀(d:cO ct.ps) (vs:List Value) (h:FH) (B:World),(∀b o v,h b o=some v->vis B b o=some v)->aI gd h->aO (dD h []) (fD ct.ps d) vs->ct.pre d ->
   Calls P f (vs++suf).toArray B (λen w'=>∃h' β y,en=.returned y/\OK (Base.of B) h (ct.res d).1 h' β w'/\jS h' β (ct.res d).2 y)
def CTS(P:Program) (gd:Nat->Option (Sigma Sh.den)) (f:FuncId) (sv:List SV) (ct:CT):Prop:=
 ∀(d:cO ct.ps) (vs ys:List Value) (h:FH) (B:World),(∀b o v,h b o=some v->vis B b o=some v)->aI gd h->aO (dD h []) (fD ct.ps d) vs->aO (dD h []) sv ys->ct.pre d ->
   Calls P f (vs++ys).toArray B (λen w'=>∃h' β y,en=.returned y/\OK (Base.of B) h (ct.res d).1 h' β w'/\jS h' β (ct.res d).2 y)
theorem Md.x{gd:Nat->Option (Sigma Sh.den)}{ct:CT} (h:Md P gd f ct):CTX P gd f [] ct:=by
 intro d vs h' B;simpa using h d vs h' B
theorem CTX.ok{gd:Nat->Option (Sigma Sh.den)}{ct:CT} (h:CTX P gd f [] ct):Md P gd f ct:=by
 intro d vs h' B;simpa using h d vs h' B
abbrev SC.sh(n:Nat):SC->SC
 | .own i off=>.own (n+i) off
 | .row i=>.row (n+i)
 | .jU i j sz off=>.jU (n+i) j sz off
 | .sub i j=>.sub (n+i) j
 | .lX i j k sz off=>.lX (n+i) j k sz off
 | x=>x
abbrev SV.sh(n:Nat):SV->SV
 | .c x=>.c (x.sh n)
 | .agg xs=>.agg (eY (SC.sh n) xs)
 | v=>v
abbrev bg.sh(n:Nat):bg->bg
 | .one v=>.one (v.sh n)
 | .iJ vs=>.iJ (eY (SV.sh n) vs)
abbrev ak.sh(n:Nat):ak->ak
 | .blk t cs=>.blk t (eY (SC.sh n) cs)
 | r=>r
abbrev iW:Sh->Bool
 | .int _=>true
 | .bool=>true
 | .str=>true
 | .unit=>true
 | .pair a b=>dG (iW a) (iW b)
 | .arr _ s=>iW s
 | _=>false
abbrev nI:SC->Bool
 | .v _=>true
 | .own _ _=>true
 | .row _=>true
 | _=>false
abbrev allL{α:Type} (p:α->Bool):List α->Bool
 | []=>true
 | x :: l=>dG (p x) (allL p l)
abbrev Po:SV->Bool
 | .c x=>nI x
 | .agg xs=>allL nI xs
 | .dat s _=>iW s
 | .und=>true
abbrev JB:bg->Bool
 | .one v=>Po v
 | .iJ vs=>allL Po vs
abbrev vN:ak->Bool
 | .blk _ cs=>allL nI cs
 | .row _ s _=>iW s
 | .obj _ s _=>iW s
 | .deep _ _ _ _ _ _ _ _=>false
 | .mp _ s _=>iW s
 | .OD _ _ _ _=>false
 | .it _ _ _ _=>false
 | .LC _ _ _ _=>true
 | .Hz _ _ _ _=>false
 | .gone=>true
theorem Rd.flat{h h':FH}:∀(s:Sh){cs:List Value}{d:s.den},iW s=true->Rd h s cs d->Rd h' s cs d
 | .int _,_,_,_,r=>r
 | .bool,_,_,_,r=>r
 | .str,_,_,_,r=>r
 | .unit,_,_,_,r=>r
 | .any,_,_,f,_=>by simp[iW]at f
 | .sl _,_,_,f,_=>by simp[iW]at f
 | .pair a b,_,(_,_),f,⟨c1,c2,e,r1,r2⟩=>by
   simp only[iW,aB,bY]at f;exact⟨c1,c2,e,r1.flat a f.1,r2.flat b f.2⟩
 | .arr _ s,_,_,f,⟨e,r⟩=>⟨e,r.mono λ_ _=>Rd.flat s f⟩
theorem oN{v:RV} (e:β'[i]?=some v):(β++β')[β.length+i]?=some v:=by
 rw[OH (by omega)];simpa using e
theorem dX.shift:∀{x:SC}{y:Value},dX h β' x y->dX h (β++β') (x.sh β.length) y
 | .v _,_,c=>c
 | .sl _ _,_,c=>c
 | .fp _ _,_,c=>c
 | .one _ _,_,c=>c
 | .own _ _,_,⟨b,e,e'⟩=>⟨b,oN e,e'⟩
 | .row _,_,⟨v,e,e'⟩=>⟨v,oN e,e'⟩
 | .jU _ _ _ _,_,⟨v,g,e,e'⟩=>⟨v,g,oN e,e'⟩
 | .sub _ _,_,⟨v,us,e,e'⟩=>⟨v,us,oN e,e'⟩
 | .lX _ _ _ _ _,_,⟨v,us,g,e,e'⟩=>⟨v,us,g,oN e,e'⟩
 | .abs _,_,c=>c
 | .junk,_,_=>trivial
theorem dX.flat:∀{x:SC}{y:Value},nI x=true->dX h β x y->dX h' β x y
 | .v _,_,_,c=>c
 | .own _ _,_,_,c=>c
 | .row _,_,_,c=>c
 | .sl _ _,_,f,_=>by simp[nI]at f
 | .fp _ _,_,f,_=>by simp[nI]at f
 | .one _ _,_,f,_=>by simp[nI]at f
 | .jU _ _ _ _,_,f,_=>by simp[nI]at f
 | .sub _ _,_,f,_=>by simp[nI]at f
 | .lX _ _ _ _ _,_,f,_=>by simp[nI]at f
 | .abs _,_,f,_=>by simp[nI]at f
 | .junk,_,f,_=>by simp[nI]at f
theorem aO.eY{α β:Type}{R R':α->β->Prop}{f:α->α} (hR:∀a b,R a b->R' (f a) b):∀{l:List α}{m:List β},aO R l m->aO R' (eY f l) m
 | [],[],_=>trivial
 | _ :: _,_ :: _,⟨a,b⟩=>⟨hR _ _ a,aO.eY hR b⟩
theorem aO.allL{α β:Type}{R R':α->β->Prop}{p:α->Bool} (hR:∀a b,p a=true->R a b->R' a b):∀{l:List α}{m:List β},allL p l=true->aO R l m->aO R' l m
 | [],[],_,_=>trivial
 | _ :: _,_ :: _,f,⟨a,b⟩=>by
   simp only[l9.allL,aB,bY]at f;exact⟨hR _ _ f.1 a,aO.allL hR f.2 b⟩
theorem dD.shift{h:FH}{β β':List RV}:∀{x:SV}{y:Value},dD h β' x y->dD h (β++β') (x.sh β.length) y
 | .c _,_,c=>⟨c.1.shift,c.2⟩
 | .agg _,_,⟨ys,e,a⟩=>⟨ys,e,a.eY λ_ _ ⟨p,q⟩=>⟨p.shift,q⟩⟩
 | .dat _ _,_,c=>c
 | .und,_,c=>c
theorem dD.flat{h h':FH}{β:List RV}:∀{x:SV}{y:Value},Po x=true->dD h β x y->dD h' β x y
 | .c _,_,f,c=>⟨c.1.flat f,c.2⟩
 | .agg _,_,f,⟨ys,e,a⟩=>⟨ys,e,a.allL (λ_ _ f ⟨p,q⟩=>⟨p.flat f,q⟩) f⟩
 | .dat s _,_,f,⟨g,cs,e,r⟩=>⟨g,cs,e,r.flat s f⟩
 | .und,_,_,c=>c
theorem jS.shift{h:FH}{β β':List RV}:∀{x:bg}{y:Value},jS h β' x y->jS h (β++β') (x.sh β.length) y
 | .one _,_,c=>dD.shift c
 | .iJ _,_,⟨ys,e,a⟩=>⟨ys,e,a.eY (f:=SV.sh β.length) λ_ _ c=>dD.shift c⟩
theorem jS.flat{h h':FH}{β:List RV}:∀{x:bg}{y:Value},JB x=true->jS h β x y->jS h' β x y
 | .one _,_,f,c=>dD.flat f c
 | .iJ _,_,f,⟨ys,e,a⟩=>⟨ys,e,a.allL (λ_ _=>dD.flat) f⟩
theorem Holds.shift{h:FH}{β β':List RV}{w:World}:∀{r:ak}{v:RV},Holds h β' w r v->Holds h (β++β') w (r.sh β.length) v
 | .blk _ _,.blk _,⟨ys,e,a⟩=>⟨ys,e,a.eY λ_ _ ⟨p,q⟩=>⟨p.shift,q⟩⟩
 | .row _ _ _,.row _,c=>c
 | .obj _ _ _,.blk _,c=>c
 | .deep _ _ _ _ _ _ _ _,.deep _ _,c=>c
 | .mp _ _ _,.row _,c=>c
 | .OD _ _ _ _,.deep _ _,c=>c
 | .it _ _ _ _,.blk _,c=>c
 | .LC _ _ _ _,.row _,c=>c
 | .Hz _ _ _ _,.deep _ _,c=>c
 | .gone,_,_=>trivial
theorem Holds.flat{h h':FH}{β:List RV}{w:World}:∀{r:ak}{v:RV},vN r=true->Holds h β w r v->Holds h' β w r v
 | .blk _ _,.blk _,f,⟨ys,e,a⟩=>⟨ys,e,a.allL (λ_ _ f ⟨p,q⟩=>⟨p.flat f,q⟩) f⟩
 | .row _ s _,.row _,f,c=>c.elim .inl λc=>c.elim (λc=>.inr (.inl c)) λ⟨g,cap,cur,e,q1,q2,q3,q4,q5⟩=>.inr (.inr ⟨g,cap,cur,e,q1,q2,q3,q4,q5.mono λ_ _=>Rd.flat s f⟩)
 | .obj _ s _,.blk _,f,⟨ys,e,r⟩=>⟨ys,e,r.flat s f⟩
 | .deep _ _ _ _ _ _ _ _,.deep _ _,f,_=>by cases f
 | .mp _ s _,.row _,f,⟨b,es,c,e,e1,m⟩=>⟨b,es,c,e,e1,m.mono λ_ _ ⟨cs,q,r⟩=>⟨cs,q,r.flat s f⟩⟩
 | .OD _ _ _ _,.deep _ _,f,_=>by cases f
 | .it _ _ _ _,.blk _,f,_=>by cases f
 | .LC _ _ _ _,.row _,_,c=>c
 | .Hz _ _ _ _,.deep _ _,f,_=>by cases f
 | .gone,_,_,_=>trivial
theorem ak.yO(n:Nat) (r:ak):(r.sh n).live=r.live:=by cases r<;>rfl
theorem OK.call(ok:OK B h0 T h β w){hb:FH}{T':List ak} (ok':OK (Base.of w) hb T' h' β' w'){hn:FH} (le:h.le hn)
 (conv:∀(j:Nat) r v,T'[j]?=some r->Holds h' β' w' r v->Holds hn (β++β') w' (r.sh β.length) v)
 (hnw:∀b o v,hn b o=some v->vis w' b o=some v) (hng:∀b o v,hn b o=some v->h b o=some v\/(w.heap.size<=b/\h' b o=some v)):
 OK B h0 (T++T'.map (ak.sh β.length)) hn (β++β') w':=by
 have L:=ok.len;have L':=ok'.len;have own':∀(i:Nat) r v b,T'[i]?=some r->r.live=true->β'[i]?=some v->v.has b->w.heap.size<=b/\b < w'.heap.size/\∀o,h' b o=none:=ok'.own;have below':Below w.heap.size w w':=Bw.bel ok'.below;have dr':w.drawn<=w'.drawn:=ok'.dr;have split:∀{i:Nat}{r:ak}{v:RV},(T++T'.map (ak.sh β.length))[i]?=some r->(β++β')[i]?=some v ->
  (T[i]?=some r/\β[i]?=some v)\/∃j r',i=β.length+j/\T'[j]?=some r'/\r=r'.sh β.length/\β'[j]?=some v:=by
  intro i r v e e'
  by_cases hi:i < T.length
  .rw[WI hi]at e;rw[WI (by omega)]at e'
   exact .inl ⟨e,e'⟩
  .rw[OH (by omega),wJ]at e
   rw[OH (by omega)]at e'
   cases hj:T'[i - T.length]? with
   | none=>rw[hj]at e;cases e
   | some r'=>rw[hj]at e;cases e;exact .inr ⟨i - T.length,r',by omega,hj,rfl,by rw[show i - T.length=i - β.length by omega];exact e'⟩
 have adJ:∀{i:Nat}{r:ak}{v:RV}{b:Nat},T[i]?=some r->r.live=true->β[i]?=some v->v.has b->∀o,hn b o=none:=by
  intro i r v b e1 e2 e3 e4 o;obtain⟨a1,a2,a3⟩:=ok.own i r v b e1 e2 e3 e4;cases hh:hn b o with
  | none=>rfl
  | some u=>
    rcases hng b o u hh with h1 | h1
    .rw[a3 o]at h1;cases h1
    .omega
 have adK:∀{i:Nat}{r:ak}{v:RV}{b:Nat},T'[i]?=some r->r.live=true->β'[i]?=some v->v.has b->∀o,hn b o=none:=by
  intro i r v b e1 e2 e3 e4 o;obtain⟨a1,a2,a3⟩:=own' i r v b e1 e2 e3 e4;cases hh:hn b o with
  | none=>rfl
  | some u=>
    rcases hng b o u hh with h1 | h1
    .have:=oH (ok.hw b o u h1);omega
    .rw[a3 o]at h1;cases h1.2
 exact {
  below:=ok.below.below below'
  dr:=pI ok.dr dr'
  len:=by simp[L,L']
  holds:=by
   intro i r v e e';rcases split e e' with⟨f1,f2⟩ | ⟨j,r',hi,f1,hr,f2⟩
   .exact(ok.holds i r v f1 f2).move le (Ext.append _ _) λhl b hb=>below'.block b (ok.own i r v b f1 hl f2 hb).2.1
   .rw[hr];exact conv j r' v f1 (ok'.holds j r' v f1 f2)
  own:=by
   intro i r v b e hl e' hb';rcases split e e' with⟨f1,f2⟩ | ⟨j,r',hi,f1,hr,f2⟩
   .obtain⟨a1,a2,a3⟩:=ok.own i r v b f1 hl f2 hb';exact⟨a1,OI a2 below'.size,adJ f1 hl f2 hb'⟩
   .rw[hr,ak.yO]at hl;obtain⟨a1,a2,a3⟩:=own' j r' v b f1 hl f2 hb';exact⟨B.up _ (pI ok.below.size a1),a2,adK f1 hl f2 hb'⟩
  inj:=by
   intro i j r1 r2 u v b e1 l1 e2 l2 e3 e4 b1 b2;rcases split e1 e3 with⟨f1,f3⟩ | ⟨i',r1',hi,f1,hr1,f3⟩<;>rcases split e2 e4 with⟨f2,f4⟩ | ⟨j',r2',hj,f2,hr2,f4⟩
   .exact ok.inj i j r1 r2 u v b f1 l1 f2 l2 f3 f4 b1 b2
   .rw[hr2,ak.yO]at l2;have a1:=ok.own i r1 u b f1 l1 f3 b1;have a2:=own' j' r2' v b f2 l2 f4 b2;omega
   .rw[hr1,ak.yO]at l1;have a1:=ok.own j r2 v b f2 l2 f4 b2;have a2:=own' i' r1' u b f1 l1 f3 b1;omega
   .rw[hr1,ak.yO]at l1;rw[hr2,ak.yO]at l2;rw[hi,hj,ok'.inj i' j' r1' r2' u v b f1 l1 f2 l2 f3 f4 b1 b2]
  hle:=ok.hle.trans le
  hw:=hnw
  hg:=by
   intro b o v hh;rcases hng b o v hh with h1 | h1
   .exact ok.hg b o v h1
   .exact .inr (B.up _ (pI ok.below.size h1.1))
  kn:=λk o hk=>by
   have h1:=ok.kn k o hk;exact(below'.block k (DZ.1 h1).1).trans h1 }
theorem OK.RH{B:Base}{h0 h:FH}{w:World}:∀(m:Nat){T:List ak}{β:List RV},OK B h0 T h β w->OK B h0 (T++List.replicate m .gone) h (β++List.replicate m .no) w
 | 0,T,β,ok=>by simpa using ok
 | m+1,T,β,ok=>by
   have:=OK.RH m (ok.add (r:=.gone) (v:=.no) (dh w none) (λb hb=>(OY hb).elim) trivial)
   simpa[Xe]using this
abbrev Me(G:Gd) (n:Nat):List (Gd×ak)->List ak->List (Gd×ak)
 | T,[]=>T
 | T,r :: l=>Me G n (snoc T (G,r.sh n)) l
theorem Di(G:Gd) (n:Nat):∀(l:List ak) (T:List (Gd×ak)),Me G n T l=T++l.map λr=>(G,r.sh n)
 | [],T=>by simp[Me]
 | r :: l,T=>by simp[Me,Di G n l,iM]
theorem oO(gl:List Bool):∀(T U:List (Gd×ak)),eff gl (T++U)=eff gl T++eff gl U
 | [],_=>rfl
 | (g,r) :: l,U=>by simp[eff,oO gl l U]
theorem yP{gl:List Bool}{G:Gd}{n:Nat} (hG:gv gl G=true):∀(l:List ak),eff gl (l.map λr=>(G,r.sh n))=l.map (ak.sh n)
 | []=>rfl
 | r :: l=>by simp[eff,hG,ku,yP hG l]
theorem wP{gl:List Bool}{G:Gd}{n:Nat} (hG:gv gl G=false):∀(l:List ak),eff gl (l.map λr=>(G,r.sh n))=List.replicate l.length .gone
 | []=>rfl
 | r :: l=>by simp[eff,hG,ku,wP hG l,Xe]
theorem gG.Pq{α:Type}{R:List Value->α->Prop}{k:Nat}:∀{l:List α}{cs:List Value},cs.length=l.length * k->(∀j d,l[j]?=some d->R ((cs.drop (j * k)).take k) d)->gG R cs l
 | [],cs,h,_=>WH (by simpa using h)
 | d :: l,cs,h,hR=>by
   rw[sV,xw]at h;refine⟨cs.take k,cs.drop k,(WJ k cs).symm,?_,gG.Pq (k:=k) (by rw[yj];omega) λj d' hd=>?_⟩
   .have:=hR 0 d rfl;simpa using this
   .have:=hR (j+1) d' (by simpa using hd)
    rw[UZ]
    rwa [show k+j * k=(j+1) * k by rw[xw];omega]
theorem mF.sl{s:Sh}{l:List s.den} (x:mF h w t s l v) (le:h.le h') (hb:∀b,aA v=some b->∀o u,vis w b o=some u->h' b o=some u):qH h' (Rd h' s) v l:=by
 rcases x with⟨e1,e2⟩ | ⟨ra,e1,e2⟩ | ⟨g,cap,cur,e1,q1,q2,q3,q4,q5⟩
 .exact .inl ⟨e1,e2⟩
 .exact .inr (.inl ⟨ra,0,e1,e2,Ji _⟩)
 .refine .inr (.inr ⟨g,0,cap,e1,q2,q3.2,_,q5.mono λ_ _=>Rd.mono le s,λj u hj=>?_⟩)
  refine hb g (by rw[e1];exact aW q3.1) _ _ ?_
  rw[D6];have h1:=gG.all (λ_ _=>Rd.one s) q5 u (gZ hj)
  rw[vk]at hj;split at hj
  .exact ou q1 (by simpa using hj) h1.2
  .cases hj
theorem XO{cs:List Value}{o:Nat}{u:Value} (h:cs[o]?=some u) (x:Value):(cs.set o x).set o u=cs:=by
 rw[List.set_set];exact ig h
theorem AB.rd{h h':FH}{w:World}{s:Sh}{tt:TypeId}{e:Sh}{so:Nat}{own:Bool}{u:Value}{cs:List Value}{d:s.den} (x:AB h w s tt e so own false u cs d) (le:h.le h') (hb:∀b,aA u=some b->∀o z,vis w b o=some z->h' b o=some z):Rd h' s cs d:=by
 unfold AB at x;cases own with
 | false=>exact x.1.mono le s
 | true=>
   obtain⟨d0,y,r,p,c,q⟩:=x;have:=p.rd (r.mono le s) (q.sl le hb)
   rwa [XO c]at this
theorem eF.data{s:Sh}{l:List s.den}{tt:TypeId}{e:Sh}{so:Nat}{own:Nat->Bool}{us:Nat->Value} (x:eF h w t s l tt e so own [] v us) (le:h.le h')
 (hb:∀b,(RV.deep v us).has b->∀o z,vis w b o=some z->h' b o=some z):qH h' (Rd h' s) v l:=by
 obtain⟨_,_,x⟩:=x;rcases x with⟨e1,e2⟩ | ⟨ra,e1,e2⟩ | ⟨g,cap,cur,e1,q1,q2,q3,q4,q5,q6⟩
 .exact .inl ⟨e1,e2⟩
 .exact .inr (.inl ⟨ra,0,e1,e2,Ji _⟩)
 .have hm:l.length * s.size<=cap * s.size:=yh _ q2;have lc:cur.toList.length=cap * s.size:=by simpa using q4
  have rdl:gG (Rd h' s) (cur.toList.take (l.length * s.size)) l:=by
   refine gG.Pq (k:=s.size) (by rw[lu];omega) λj d hd=>?_
   have hj:=(A8.1 hd).1;have hm:(j+1) * s.size<=l.length * s.size:=yh _ hj;rw[xw]at hm;have e5:List.take s.size (List.drop (j * s.size) (List.take (l.length * s.size) cur.toList))=List.take s.size (List.drop (j * s.size) cur.toList):=by
    apply Jh;intro p;simp only[vk,Ll];split
    .rw[if_pos (by omega)]
    .rfl
   rw[e5];exact(q6 j d hd).rd le λb hu=>hb b (aV.2 (.inr ⟨j,hu⟩))
  refine .inr (.inr ⟨g,0,cap,e1,q2,q3.2,cur.toList.take (l.length * s.size),rdl,λj u hj=>?_⟩)
  .refine hb g (aV.2 (.inl (by rw[e1];exact aW (n:=l.length) q3.1))) _ _ ?_
   rw[D6];have h1:=gG.all (λ_ _=>Rd.one s) rdl u (gZ hj)
   rw[vk]at hj;split at hj
   .exact ou q1 (by simpa using hj) h1.2
   .cases hj
abbrev adL(s:St) (G:Gd) (x:SC):Option SC:=match x with
 | .v u=>some (.v u)
 | .sl sh l=>some (.sl sh l)
 | .fp sh d=>some (.fp sh d)
 | .one sh d=>some (.one sh d)
 | .row r=>match eX s.T r with
   | some (Gr,.row _ sh l)=>match qM Gr G with
     | true=>some (.sl sh l)
     | false=>none
   | some (Gr,.deep _ sh l _ _ _ _ [])=>match qM Gr G with
     | true=>some (.sl sh l)
     | false=>none
   | some (Gr,.mp k sh l)=>match qM Gr G with
     | true=>some (.one (.mp k sh) l)
     | false=>none
   | _=>none
 | _=>none
abbrev XP(s:St) (G:Gd):List SC->Option (List SC)
 | []=>some []
 | x :: l=>match adL s G x with
   | some y=>match XP s G l with
     | some m=>some (y :: m)
     | none=>none
   | none=>none
abbrev adM(s:St) (G:Gd) (v:SV):Option SV:=match v with
 | .c x=>match adL s G x with
   | some y=>some (.c y)
   | none=>none
 | .agg xs=>match XP s G xs with
   | some ys=>some (.agg ys)
   | none=>none
 | .dat sh d=>some (.dat sh d)
 | .und=>none
abbrev isRow:SC->Bool
 | .row _=>true
 | _=>false
abbrev noRow:SV->Bool
 | .c x=>!(isRow x)
 | .agg xs=>allL (λx=>!(isRow x)) xs
 | _=>true
abbrev uK(cx:Cx) (s:St) (G:Gd):List Operand->Option (List SV)
 | []=>some []
 | x :: l=>match bT cx s G x with
   | some (.one v)=>match uK cx s G l with
     | some r=>some (v :: r)
     | none=>none
   | _=>none
abbrev G6(s:St) (G:Gd):List SV->Option (List SV)
 | []=>some []
 | x :: l=>match adM s G x with
   | some v=>match G6 s G l with
     | some r=>some (v :: r)
     | none=>none
   | none=>none
abbrev orB:Bool->Bool->Bool
 | true,_=>true
 | false,b=>b
abbrev jq(cx:Cx) (ct:Nat->Option CT) (s:St) (G:Gd) (d:Option Nat) (f:Nat) (args:List Operand) (K:St->Prop):Prop:=match ct f with
 | none=>False
 | some c=>match uK cx s G args with
   | none=>False
   | some vs=>match G6 s G vs with
     | none=>False
     | some bs=>match yM c.ps bs with
       | none=>False
       | some dd=>match orB (allL noRow vs) (dG (JB (c.res dd).2) (allL vN (c.res dd).1)) with
         | true=>side s.gl G (c.pre dd)/\K ({ s with T:=Me G (aN s.T) s.T (c.res dd).1 }.put d G ((c.res dd).2.sh (aN s.T)))
         | false=>False
theorem aO.ahL{α β:Type}{R:α->β->Prop}:∀{a c:List α}{l:List β},aO R (a++c) l->∃b d,l=b++d/\aO R a b/\aO R c d
 | [],c,l,h=>⟨[],l,rfl,trivial,h⟩
 | x :: a,c,[],h=>h.elim
 | x :: a,c,y :: l,⟨h1,h2⟩=>by
   obtain⟨b,d,e,p,q⟩:=aO.ahL (a:=a) h2;exact⟨y :: b,d,by rw[e];rfl,⟨h1,p⟩,q⟩
theorem aO.yQ{α β:Type}{R:α->β->Prop}{x:α}:∀{l:List β},aO R [x] l->∃y,l=[y]/\R x y
 | [],h=>h.elim
 | [y],h=>⟨y,rfl,h.1⟩
 | _ :: _ :: _,h=>h.2.elim
theorem EC{h:FH}{β:List RV}:∀(s:Sh){d:s.den}{xs:List SC}{ys:List Value},flat s d=some xs->aO (λx y=>dX h β x y/\dH y) xs ys->Rd h s ys d
 | .int k,n,xs,ys,e,a=>by simp[flat]at e;subst e;obtain⟨y,rfl,r⟩:=a.yQ;rw[r.1.1];rfl
 | .bool,n,xs,ys,e,a=>by simp[flat]at e;subst e;obtain⟨y,rfl,r⟩:=a.yQ;rw[r.1.1];rfl
 | .str,n,xs,ys,e,a=>by simp[flat]at e;subst e;obtain⟨y,rfl,r⟩:=a.yQ;rw[r.1.1];rfl
 | .any,n,xs,ys,e,a=>by simp[flat]at e
 | .sl s,l,xs,ys,e,a=>by simp[flat]at e;subst e;obtain⟨y,rfl,r⟩:=a.yQ;exact⟨y,rfl,r.1⟩
 | .unit,n,xs,ys,e,a=>by
   simp[flat]at e;subst e;cases ys with
   | nil=>rfl
   | cons _ _=>exact a.elim
 | .arr _ _,n,xs,ys,e,a=>by simp[flat]at e
 | .mp k s,l,xs,ys,e,a=>by simp[flat]at e;subst e;obtain⟨y,rfl,r⟩:=a.yQ;exact r.1
 | .pair a b,(x,y),xs,ys,e,al=>by
   unfold flat at e;split at e
   .rename_i p hp;split at e
    .rename_i q hq;cases e;rw[fU]at al;obtain⟨c1,c2,rfl,r1,r2⟩:=al.ahL;exact⟨c1,c2,rfl,EC a hp r1,EC b hq r2⟩
    .cases e
   .cases e
theorem Ic:∀(s:Sh){d:s.den}{y:Value},dD h β (iH s d) y->DV h s d y
 | .int k,n,y,c=>⟨[y],rfl,by rw[c.1.1];rfl⟩
 | .bool,n,y,c=>⟨[y],rfl,by rw[c.1.1];rfl⟩
 | .str,n,y,c=>⟨[y],rfl,by rw[c.1.1];rfl⟩
 | .any,n,y,c=>⟨[y],rfl,by rw[c.1.1];exact⟨rfl,c.1.2⟩⟩
 | .sl s,l,y,c=>⟨[y],rfl,y,rfl,c.1⟩
 | .unit,n,y,⟨ys,e,a⟩=>by
   cases ys with
   | nil=>exact⟨[],e,rfl⟩
   | cons _ _=>exact a.elim
 | .arr n s,l,y,⟨_,cs,e,r⟩=>⟨cs,e,r⟩
 | .mp k s,l,y,c=>⟨[y],rfl,c.1⟩
 | .pair a b,d,y,c=>by
   have e:iH (.pair a b) d=match flat (.pair a b) d with
    | some xs=>.agg xs
    | none=>.dat (.pair a b) d:=rfl
   rw[e]at c;cases hx:flat (.pair a b) d with
   | some xs=>
     rw[hx]at c;obtain⟨ys,e,al⟩:=c;exact⟨ys,e,EC (.pair a b) hx al⟩
   | none=>
     rw[hx]at c;obtain⟨_,cs,e,r⟩:=c;exact⟨cs,e,r⟩
theorem EF{h:FH}:∀{ss:List Sh}{d:cO ss}{ys:List Value},aO (dD h []) (fD ss d) ys->BP h ss d ys
 | [],_,[],_=>trivial
 | [],_,_ :: _,x=>x.elim
 | _ :: _,_,[],x=>x.elim
 | s :: l,d,y :: ys,⟨a,b⟩=>⟨Ic s a,EF b⟩
section
variable {cx:Cx}{P:Program}{N:Nat}{B:Base}{h0:FH}{s:St}{h:FH}{β:List RV}{w:World}{a:Act}{G:Gd}{o:Oper}{K:St->Prop}
theorem qV(aj:Sat N B h0 s h β w a) (hg:aI cx.gd h) (hG:gv s.gl G=true):∀{l:List Operand}{vs:List SV},uK cx s G l=some vs->aO (dD h β) vs (l.map a.eval)
 | [],vs,e=>by simp[uK]at e;subst e;trivial
 | x :: l,vs,e=>by
   unfold uK at e;split at e
   .rename_i v hv;split at e
    .rename_i r hr;cases e;exact⟨aK aj hg hG hv,qV aj hg hG hr⟩
    .cases e
   .cases e
def FH.all(w:World):FH:=λb o=>vis w b o
theorem OK.ahM(ok:OK B h0 T h β w){k:IntKind}{s:Sh}{l:List (Int×s.den)}{y:Value} (hT:T[i]?=some (.mp k s l)) (hx:dX h β (.row i) y):β[i]?=some (.row y):=by
 obtain⟨v,e,es⟩:=hx;have hold:=ok.holds i _ _ hT e
 match v,hold,es with
 | .row v,_,es=>cases es;exact e
theorem OK.ahN(ok:OK B h0 T h β w){k:IntKind}{s:Sh}{l:List (Int×s.den)}{y:Value} (hT:T[i]?=some (.mp k s l)) (hx:dX h β (.row i) y):
 ∃b es c,y=.map (some b)/\w.heap[b]?=some (.map es c)/\tY k (DW h s) es c l:=ok.holds i _ _ hT (ok.ahM hT hx)
theorem RI(aj:Sat N B h0 s h β w a) (hG:gv s.gl G=true){x y:SC} (e:adL s G x=some y) (c:dX h β x v):
 dX (FH.all w) [] y v/\(isRow x=false->dX h [] y v):=by
 have le:h.le (FH.all w):=aj.ok.hw;unfold adL at e;split at e
 .cases e;exact⟨c,λ_=>c⟩
 .cases e;exact⟨qH.mono le (λ_ _=>Rd.mono le _) c,λ_=>c⟩
 .cases e;obtain⟨b,o,cs,e,r,at_⟩:=c;exact⟨⟨b,o,cs,e,r.mono le _,at_.mono le⟩,λ_=>⟨b,o,cs,e,r,at_⟩⟩
 .cases e;exact⟨Rd.mono le _ c,λ_=>c⟩
 .rename_i r;split at e
  .rename_i Gr tt sh l hT;split at e
   .rename_i hs;cases e;refine⟨?_,λhh=>by cases hh⟩
    rcases aj.ok.holds r _ _ (bG hT (fK hs hG)) (aj.ok.row_of (bG hT (fK hs hG)) c) with⟨e1,e2⟩ | ⟨ra,e1,e2⟩ | ⟨g,cap,cur,e1,q1,q2,q3,q4,q5⟩
    .exact .inl ⟨e1,e2⟩
    .exact .inr (.inl ⟨ra,0,e1,e2,Ji _⟩)
    .refine .inr (.inr ⟨g,0,cap,e1,q2,q3.2,_,q5.mono λ_ _=>Rd.mono le sh,λj u hj=>?_⟩)
     show vis w g (0+j)=some u;rw[D6];have h1:=gG.all (λ_ _=>Rd.one sh) q5 u (gZ hj)
     rw[vk]at hj;split at hj
     .exact ou q1 (by simpa using hj) h1.2
     .cases hj
   .cases e
  .rename_i Gr tt sh l t2 e2 so own hT;split at e
   .rename_i hs;cases e;refine⟨?_,λhh=>by cases hh⟩
    obtain⟨us,_,hd⟩:=aj.ok.vJ (bG hT (fK hs hG)) c;exact hd.data le λb _ o z hz=>hz
   .cases e
  .rename_i Gr k sh l hT;split at e
   .rename_i hs;cases e;refine⟨?_,λhh=>by cases hh⟩
    obtain⟨b,es,cl,hb,hw,m⟩:=aj.ok.ahN (bG hT (fK hs hG)) c;exact⟨_,rfl,.inr ⟨b,es,cl,hb,Rh hw,m.mono λ_ _=>DW.mono le⟩⟩
   .cases e
  .cases e
 .cases e
theorem RJ(aj:Sat N B h0 s h β w a) (hG:gv s.gl G=true):∀{xs ys:List SC}{vs:List Value},XP s G xs=some ys->aO (λx y=>dX h β x y/\dH y) xs vs ->
 aO (λx y=>dX (FH.all w) [] x y/\dH y) ys vs/\(allL (λx=>!(isRow x)) xs=true->aO (λx y=>dX h [] x y/\dH y) ys vs)
 | [],ys,[],e,_=>by simp[XP]at e;subst e;exact⟨trivial,λ_=>trivial⟩
 | x :: l,ys,v :: vs,e,⟨c,r⟩=>by
   unfold XP at e;split at e
   .rename_i y hy;split at e
    .rename_i m hm;cases e;obtain⟨h1,h2⟩:=RI aj hG hy c.1;obtain⟨h3,h4⟩:=RJ aj hG hm r;refine⟨⟨⟨h1,c.2⟩,h3⟩,λhh=>?_⟩
     simp only[allL,aB,bY]at hh;exact⟨⟨h2 (by simpa using hh.1),c.2⟩,h4 hh.2⟩
    .cases e
   .cases e
theorem RN(aj:Sat N B h0 s h β w a) (hG:gv s.gl G=true){x y:SV} (e:adM s G x=some y) (c:dD h β x v):
 dD (FH.all w) [] y v/\(noRow x=true->dD h [] y v):=by
 have le:h.le (FH.all w):=aj.ok.hw;unfold adM at e;split at e
 .split at e
  .rename_i y hy;cases e;obtain⟨h1,h2⟩:=RI aj hG hy c.1;exact⟨⟨h1,c.2⟩,λhh=>⟨h2 (by simpa[noRow]using hh),c.2⟩⟩
  .cases e
 .split at e
  .rename_i ys hy;cases e;obtain⟨vs,e1,e2⟩:=c;obtain⟨h1,h2⟩:=RJ aj hG hy e2;exact⟨⟨vs,e1,h1⟩,λhh=>⟨vs,e1,h2 hh⟩⟩
  .cases e
 .cases e;obtain⟨g,cs,e1,r⟩:=c;exact⟨⟨g,cs,e1,r.mono le _⟩,λ_=>⟨g,cs,e1,r⟩⟩
 .cases e
theorem yR(aj:Sat N B h0 s h β w a) (hG:gv s.gl G=true):∀{xs ys:List SV}{vs:List Value},G6 s G xs=some ys->aO (dD h β) xs vs ->
 aO (dD (FH.all w) []) ys vs/\(allL noRow xs=true->aO (dD h []) ys vs)
 | [],ys,[],e,_=>by simp[G6]at e;subst e;exact⟨trivial,λ_=>trivial⟩
 | x :: l,ys,v :: vs,e,⟨c,r⟩=>by
   unfold G6 at e;split at e
   .rename_i y hy;split at e
    .rename_i m hm;cases e;obtain⟨h1,h2⟩:=RN aj hG hy c;obtain⟨h3,h4⟩:=yR aj hG hm r;refine⟨⟨h1,h3⟩,λhh=>?_⟩
     simp only[allL,aB,bY]at hh;exact⟨h2 hh.1,h4 hh.2⟩
    .cases e
   .cases e
theorem EG{lb:Array Value}{suf:List Value} (hct:∀c,ct f=some c->∀(d:cO c.ps) (vs:List Value) (h':FH),h.le h'->(∀b o v,h' b o=some v->vis w b o=some v)->aI cx.gd h'->aO (dD h' []) (fD c.ps d) vs->c.pre d->Calls P f (vs++suf).toArray w (λen w'=>∃h'' β y,en=.returned y/\OK (Base.of w) h' (c.res d).1 h'' β w'/\jS h'' β (c.res d).2 y)) (aj:Sat N B h0 s h β w a) (hg:aI cx.gd h) (hG:vF s.gl.length G=true) (hd:lV N o.dst=true) (ho:o.op=.call c)
 {x:Operand}{xs:List Operand} (cZ:c.callee=.value x) (hx:gv s.gl G=true->a.eval x=.func (.func f) #[] lb) (hxs:c.args.map a.eval++lb=(xs.map a.eval++suf).toArray)
 (hf:∃fn,P.funcs[f]?=some fn/\fn.body.isSome=true/\(fn.name == "runtime.NumGoroutine")=false)
 (k:jq cx ct s G o.dst f xs K):gJ P N B h0 h w a o (gv s.gl G) K:=by
 unfold jq at k;split at k
 .cases k
 rename_i cc hcc;split at k
 .cases k
 rename_i vs hvs;split at k
 .cases k
 rename_i bs hbs;split at k
 .cases k
 rename_i dd hdd;split at k
 .rename_i MB;obtain⟨T',fP⟩:∃T',T'=(cc.res dd).1:=⟨_,rfl⟩;obtain⟨e,he0⟩:∃e,e=(cc.res dd).2:=⟨_,rfl⟩;rw[<-fP,<-he0]at k MB;have gT:∀p∈Me G (aN s.T) s.T T',vF s.gl.length p.1=true:=by
   intro p hp;rw[Di,CX]at hp;rcases hp with hp | hp
   .exact aj.gT p hp
   .simp only[Jl]at hp;obtain⟨r,_,rfl⟩:=hp;exact hG
  have hlen:=lG aj;intro Nx Q next
  cases hgv:gv s.gl G with
  | false=>
    rw[if_neg (by simp)]
    refine next _ h (β++List.replicate T'.length .no) _ _ k.2 (FH.le.refl h) (λ_=>nG.refl w) ?_
    have ok:OK B h0 (eff s.gl (Me G (aN s.T) s.T T')) h (β++List.replicate T'.length .no) w:=by
     rw[Di,oO,wP hgv];exact aj.ok.RH _
    exact(aj.mem ok (FH.le.refl h) (Ext.append _ _) gT).put (dU hd) hG (λhh=>by simp only at hh;rw[hgv]at hh;cases hh) λ_=>rfl
  | true=>
    rw[if_pos rfl];obtain⟨fn,hfn,hbody,hname⟩:=hf;have hav:=qV aj hg hgv hvs;have aG:=fE k.1 hgv;have exec:(execOp a.eval o).run P w=.ok (.enter f (c.args.map a.eval++lb)) w:=by
     simp only[execOp,ho,resolve,cZ,hx hgv,Deferred.ofValue,invoke,Sem.run_bind,Sem.run_pure,Result.andThen_ok,callFunc,run_program,aiz,Array.append_empty,hfn,hname];simp[hbody];cases hb:fn.body with
     | none=>rw[hb]at hbody;cases hbody
     | some _=>simp
    have hargs:=hxs;unfold Oper.wp;rw[exec];simp only[Oper.upon];rw[hargs];obtain⟨b1,b2⟩:=yR aj hgv hbs hav;have fin:∀{hb:FH}{h':FH}{β':List RV}{w':World}{y:Value}{hn:FH},OK (Base.of w) hb T' h' β' w'->h.le hn ->
     (∀(j:Nat) r v,T'[j]?=some r->Holds h' β' w' r v->Holds hn (β++β') w' (r.sh β.length) v)->(∀b o v,hn b o=some v->vis w' b o=some v) ->
     (∀b o v,hn b o=some v->h b o=some v\/(w.heap.size<=b/\h' b o=some v))->jS hn (β++β') (e.sh β.length) y->Nx (a.put o.dst y) w':=by
     intro hb h' β' w' y hn ok' le conv hnw hng he;have ok:=aj.ok.call ok' le conv hnw hng;refine next _ hn (β++β') _ _ k.2 le (λ_=>nG.of_below (Bw.bel ok'.below)) ?_
     have okT:OK B h0 (eff s.gl (Me G (aN s.T) s.T T')) hn (β++β') w':=by
      rw[Di,oO,yP hgv,<-hlen];exact ok
     rw[hlen]at he;exact(aj.mem okT le (Ext.append _ _) gT).put (dU hd) hG (λ_=>he) λhh=>by simp only at hh;rw[hgv]at hh;cases hh
    have keep:∀{hb h':FH}{β':List RV}{w':World},OK (Base.of w) hb T' h' β' w'->∀b o v,h b o=some v->vis w' b o=some v:=by
     intro hb h' β' w' ok' b o v hh;have h1:=aj.ok.hw b o v hh;exact(jT ((Bw.bel ok'.below).block b (oH h1))).trans h1
    cases hnr:allL noRow vs with
    | true=>
      refine(hct cc hcc dd _ h (FH.le.refl h) aj.ok.hw hg (yN hdd (b2 hnr)) aG).mono ?_;rintro en w' ⟨h',β',y,rfl,ok',he⟩;rw[<-fP]at ok';rw[<-he0]at he;refine fin ok' ok'.hle (λj r v _ hh=>hh.shift) ok'.hw (λb o v hh=>?_) he.shift
      rcases ok'.hg b o v hh with h1 | h1
      .exact .inl h1
      .exact .inr ⟨h1,hh⟩
    | false=>
      rw[hnr]at MB;simp only[orB,aB,bY]at MB;refine(hct cc hcc dd _ (FH.all w) aj.ok.hw (λ_ _ _ hh=>hh) (hg.mono aj.ok.hw) (yN hdd b1) aG).mono ?_
      rintro en w' ⟨h',β',y,rfl,ok',he⟩;rw[<-fP]at ok';rw[<-he0]at he;refine fin ok' (FH.le.refl h) (λj r v hj hh=>(hh.flat ?_).shift) (keep ok') (λb o v hh=>.inl hh) (he.flat MB.1).shift
      have:∀{l:List ak}{j:Nat}{r:ak},allL vN l=true->l[j]?=some r->vN r=true:=by
       intro l
       induction l with
       | nil=>intro j r _ e;simp at e
       | cons x l ih=>
         intro j r hh e;simp only[allL,aB,bY]at hh;cases j with
         | zero=>simp at e;subst e;exact hh.1
         | succ j=>exact ih hh.2 (by simpa using e)
      exact this MB.2 hj
 .cases k
theorem xI{suf:List Value} (hct:∀c,ct f=some c->∀(d:cO c.ps) (vs:List Value) (h':FH),h.le h'->(∀b o v,h' b o=some v->vis w b o=some v)->aI cx.gd h'->aO (dD h' []) (fD c.ps d) vs->c.pre d->Calls P f (vs++suf).toArray w (λen w'=>∃h'' β y,en=.returned y/\OK (Base.of w) h' (c.res d).1 h'' β w'/\jS h'' β (c.res d).2 y)) (aj:Sat N B h0 s h β w a) (hg:aI cx.gd h) (hG:vF s.gl.length G=true) (hd:lV N o.dst=true) (ho:o.op=.call c)
 {x:Operand}{xs:List Operand} (cZ:c.callee=.value x) (hx:gv s.gl G=true->a.eval x=.func (.func f) #[] #[]) (hxs:c.args.map a.eval=(xs.map a.eval++suf).toArray)
 (hf:∃fn,P.funcs[f]?=some fn/\fn.body.isSome=true/\(fn.name == "runtime.NumGoroutine")=false)
 (k:jq cx ct s G o.dst f xs K):gJ P N B h0 h w a o (gv s.gl G) K:=
 EG hct aj hg hG hd ho cZ hx (by rw[Array.append_empty];exact hxs) hf k
theorem rX{suf:List Value} (hct:∀f c,ct f=some c->CTX P cx.gd f suf c) (aj:Sat N B h0 s h β w a) (hg:aI cx.gd h) (hG:vF s.gl.length G=true) (hd:lV N o.dst=true) (ho:o.op=.call c)
 {x:Operand}{xs:List Operand} (cZ:c.callee=.value x) (hx:gv s.gl G=true->a.eval x=.func (.func f) #[] #[]) (hxs:c.args.map a.eval=(xs.map a.eval++suf).toArray)
 (hf:∃fn,P.funcs[f]?=some fn/\fn.body.isSome=true/\(fn.name == "runtime.NumGoroutine")=false)
 (k:jq cx ct s G o.dst f xs K):gJ P N B h0 h w a o (gv s.gl G) K:=
 xI (λc e d vs h' _ hw hg' ha hp=>hct f c e d vs h' w hw hg' ha hp) aj hg hG hd ho cZ hx hxs hf k
theorem Vq(hct:∀f c,ct f=some c->Md P cx.gd f c) (aj:Sat N B h0 s h β w a) (hg:aI cx.gd h) (hG:vF s.gl.length G=true) (hd:lV N o.dst=true) (ho:o.op=.call c) (cZ:c.callee=.value (.func f))
 (hf:∃fn,P.funcs[f]?=some fn/\fn.body.isSome=true/\(fn.name == "runtime.NumGoroutine")=false)
 (k:jq cx ct s G o.dst f (tl c.args) K):gJ P N B h0 h w a o (gv s.gl G) K:=
 rX (suf:=[]) (λf c e=>(hct f c e).x) aj hg hG hd ho cZ (λ_=>rfl) (by cases c.args;simp) hf k
end
section
variable {P:Program}{ops:Array Oper}{md:Region.Mode}{sf:Nat->Bool}
abbrev JC:Exit->Act->World->Prop:=λ_ _ _=>False
def Ak(P:Program) (ops:Array Oper) (i:Nat) (K:Act->World->Prop) (a:Act) (w:World):Prop:=
 match ops[i]? with
 | none=>K a w
 | some o=>if Region.wanted o (yielded ops a.tmps)=true then o.wp P a w K JC else K (a.put o.dst undef) w
theorem xJ{Q:Exit->Act->World->Prop} (h:LetsOut JC):LetsOut Q:=by
 unfold LetsOut at *;obtain⟨_,_,hh⟩:=h;exact False.elim hh
theorem MC{K K':Act->World->Prop} (h:∀a w,K a w->K' a w) (hh:Ak P ops i K a w):Ak P ops i K' a w:=by
 unfold Ak at *;split
 .exact h _ _ (by simpa[*]using hh)
 .rename_i o ho;simp only[ho]at hh;split
  .rename_i hw;rw[if_pos hw]at hh;exact Oper.wp_mono h hh
  .rename_i hw;rw[if_neg hw]at hh;exact h _ _ hh
abbrev xK(ops:Array Oper) (i:Nat):Bool:=match ops[i]? with
 | some o=>quietly o.op
 | none=>true
def anyI(P:Program) (md:Region.Mode) (ops:Array Oper) (sf:Nat->Bool) (R:Act->World->Prop):Nat->Array Bool->Act->World->Prop
 | 0,listed,a,w=>Region.ready md ops listed=[]/\R a w
 | fuel+1,listed,a,w=>(Region.ready md ops listed=[]->R a w) /\
   ∀i∈Region.ready md ops listed,Ak P ops i (λa' w'=>(sf i=true->nG w w')/\anyI P md ops sf R fuel (listed.setIfInBounds i true) a' w') a w
def YI(P:Program) (ops:Array Oper) (ld:Bool) (w0:World) (o:Oper) (v:Value) (a:Act):Prop:=
 (Region.wanted o (yielded ops a.tmps)=true/\∀w,(ld=true->nG w0 w)->(execOp a.eval o).run P w=.ok (.value v) w) \/
 (Region.wanted o (yielded ops a.tmps)=false/\v=undef)
theorem YI.of_same{ld:Bool}{w0:World}{a':Act} (hy:YI P ops ld w0 o v a) (he:execOp a'.eval o=execOp a.eval o)
 (hw:Region.wanted o (yielded ops a'.tmps)=Region.wanted o (yielded ops a.tmps)):YI P ops ld w0 o v a':=by
 unfold YI at *;rw[he,hw];exact hy
theorem YI.Ak{ld:Bool}{w0:World}{i:Nat}{o:Oper}{v:Value}{a:Act} (hi:ops[i]?=some o) (hy:YI P ops ld w0 o v a){K:Act->World->Prop}{w:World} (hg:ld=true->nG w0 w)
 (h:K (a.put o.dst v) w):Ak P ops i K a w:=by
 unfold Go.l9.Ak;simp only[hi];rcases hy with⟨hw,hv⟩ | ⟨hw,rfl⟩
 .rw[if_pos hw];unfold Oper.wp;rw[hv w hg];exact h
 .rw[if_neg (by rw[hw];simp)];exact h
theorem adN{ld:Bool}{w0:World}{j:Nat}{oi oj:Oper} (hj:ops[j]?=some oj) (hap:oi.apart ops oj=true)
 (hsi:∀cs b,oi.op≠.select cs b) (hsj:∀cs b,oj.op≠.select cs b){K:Act->World->Prop}
 (hy:YI P ops ld w0 oi v a) (h:Ak P ops j K (a.put oi.dst v) w):
 Ak P ops j (λa' w'=>YI P ops ld w0 oi v a'/\K (a'.put oi.dst v) w') a w:=by
 obtain⟨h1,h2,h3⟩:=Oper.apart_spec hap;have keep:∀(a:Act),YI P ops ld w0 oi v a->∀u,YI P ops ld w0 oi v (a.put oj.dst u):=λa hy u=>
  hy.of_same (execOp_put oi hsi a oj.dst u h3) (wanted_put oi a oj.dst u h3)
 have keepD:∀d,YI P ops ld w0 oi v { a with defers:=d :: a.defers }:=λd=>hy.of_same rfl rfl
 unfold Ak at *;simp only[hj]at *;rw[wanted_put oj a oi.dst v h1]at h;split
 .rename_i hw;rw[if_pos hw]at h;unfold Oper.wp at *;rw[execOp_put oj hsj a oi.dst v h1]at h;generalize (execOp a.eval oj).run P w=r at *;cases r with
  | ok n w'=>
    cases n<;>simp only[Oper.upon]at h ⊢
    case value u=>exact⟨keep a hy u,by rw[<-Act.put_comm a v u h2];exact h⟩
    case skip=>exact⟨keep a hy _,by rw[<-Act.put_comm a v undef h2];exact h⟩
    case defer d=>
     refine⟨(keep _ (keepD d) _),?_⟩;rw[<-Act.put_comm _ v undef h2,<-Act.put_defers];exact h
    case enter f args=>
     refine h.mono λe w'' he=>?_
     cases e with
     | returned u=>exact⟨keep a hy u,by rw[<-Act.put_comm a v u h2];exact he⟩
     | panicked c=>exact he
     | outgrown=>exact he
    case row r args=>
     refine Rows.mono h λu w'' he=>?_
     exact⟨keep a hy u,by rw[<-Act.put_comm a v u h2];exact he⟩
    all_goals exact h
  | halt x w'=>cases x<;>simp only[Oper.upon]at h ⊢<;>exact h
 .rename_i hw;rw[if_neg hw]at h;exact⟨keep a hy _,by rw[<-Act.put_comm a v undef h2];exact h⟩
def Waits(md:Region.Mode) (ops:Array Oper) (listed:Array Bool) (i:Nat) (bl:List Nat):Prop:=
 ∀j∈bl,listed.getD j true=false/\∃o,ops[j]?=some o/\∃e∈o.after,Region.binds md e=true/\(e.on=i\/e.on∈bl)
theorem vO{listed:Array Bool} (h:listed.getD i true=false):listed.getD i false=false:=by
 rcases Xj i listed.size with h' | h'
 .simp[h']at h ⊢;exact h
 .simp[adp h']at h
theorem Ie{listed:Array Bool}{j:Nat}{bl:List Nat} (hi:listed.getD i true=false) (hw:Waits md ops listed i bl) (hj:j∈bl):j∉Region.ready md ops listed:=by
 intro hr;obtain⟨_,oj,hoj,hall⟩:=mem_ready.1 hr;obtain⟨_,o,ho,e,he,hb,hh⟩:=hw j hj;rw[hoj]at ho;cases ho;have h1:=hall e he hb;rcases hh with hh | hh
 .rw[hh,vO hi]at h1;cases h1
 .rw[vO (hw _ hh).1]at h1;cases h1
theorem EH{R:Act->World->Prop}{ld:Bool}{w0:World}{oi:Oper}{bl:List Nat} (hi:ops[i]?=some oi) (hsel:∀(j:Nat) (o:Oper) cs b,ops[j]?=some o->o.op≠.select cs b)
 (hq:sf i=true):
 ∀(fuel:Nat) (listed:Array Bool) (a:Act) (w:World),
   (∀j oj,ops[j]?=some oj->j≠i->listed.getD j true=false->(∀e∈oj.after,Region.binds md e=true->e.on≠i)->oi.apart ops oj=true) ->
   (ld=true->Waits md ops listed i bl/\∀j,j≠i->listed.getD j true=false->sf j=false->j∈bl) ->
   i∈Region.ready md ops listed->YI P ops ld w0 oi v a->(ld=true->nG w0 w) ->
   anyI P md ops sf R fuel (listed.setIfInBounds i true) (a.put oi.dst v) w->anyI P md ops sf R (fuel+1) listed a w:=by
 intro fuel
 induction fuel with
 | zero=>
   intro listed a w _ _ hr hy hg H;refine⟨λh=>(by rw[h]at hr;cases hr),λj hj=>?_⟩
   by_cases hji:j=i
   .subst hji;exact hy.Ak hi hg ⟨λ_=>nG.refl w,H⟩
   .have:=ready_mono hj hji;rw[H.1]at this;cases this
 | succ fuel ih=>
   intro listed a w hfree hbl hr hy hg H;refine⟨λh=>(by rw[h]at hr;cases hr),λj hj=>?_⟩
   by_cases hji:j=i
   .subst hji;exact hy.Ak hi hg ⟨λ_=>nG.refl w,H⟩
   .have h1:=H.2 j (ready_mono hj hji);obtain⟨hjun,oj,hoj,hall⟩:=mem_ready.1 hj;have XQ:=(mem_ready.1 hr).1;have hnot:∀e∈oj.after,Region.binds md e=true->e.on≠i:=λe he hb heq=>by
     have h1:=hall e he hb;rw[heq,vO XQ]at h1;cases h1
    have h2:=adN hoj (hfree j oj hoj hji hjun hnot) (λcs b=>hsel i oi cs b hi) (λcs b=>hsel j oj cs b hoj) hy h1
    have hfree':∀k ok,ops[k]?=some ok->k≠i->(listed.setIfInBounds j true).getD k true=false ->
     (∀e∈ok.after,Region.binds md e=true->e.on≠i)->oi.apart ops ok=true:=λk ok hk hki hun hno=>by
     refine hfree k ok hk hki ?_ hno
     by_cases iY:j=k
     .subst iY;exact hjun
     .rw[getD_set_ne true iY]at hun;exact hun
    have XR:ld=true->j∉bl:=λe hm=>Ie XQ (hbl e).1 hm hj
    have hsj:ld=true->sf j=true:=λe=>by
     cases hs:sf j with
     | true=>rfl
     | false=>exact absurd ((hbl e).2 j hji hjun hs) (XR e)
    have aiN:ld=true->Waits md ops (listed.setIfInBounds j true) i bl/\∀k,k≠i->(listed.setIfInBounds j true).getD k true=false->sf k=false->k∈bl:=λe=>by
     refine⟨λk hk=>?_,λk hki hun hs=>?_⟩
     .obtain⟨g1,g2⟩:=(hbl e).1 k hk;refine⟨?_,g2⟩;rw[getD_set_ne true (λhh=>XR e (by rw[hh];exact hk))];exact g1
     .refine(hbl e).2 k hki ?_ hs
      by_cases iY:j=k
      .subst iY;exact hjun
      .rw[getD_set_ne true iY]at hun;exact hun
    refine MC (λa' w' h3=>⟨h3.2.1,ih (listed.setIfInBounds j true) a' w' hfree' aiN (ready_mono hr (Ne.symm hji)) h3.1 (λe=>(hg e).trans (h3.2.1 (hsj e))) ?_⟩) h2
    rw[Array.setIfInBounds_comm _ _ hji];exact h3.2.2
end
abbrev Ig(i k n:Nat):Nat:=match Nat.beq n i with
 | true=>k
 | false=>match Nat.beq n k with
   | true=>i
   | false=>n
theorem XT(h:¬n=i):Nat.beq n i=false:=by
 cases hb:Nat.beq n i with
 | true=>exact absurd (iC hb) h
 | false=>rfl
theorem Pv(i k n:Nat):Ig i k n=if n=i then k else if n=k then i else n:=by
 unfold Ig
 by_cases h:n=i
 .subst h;simp
 .rw[if_neg h,XT h]
  by_cases h2:n=k
  .subst h2;simp
  .rw[if_neg h2,XT h2]
theorem yS(i k n:Nat):Ig i k (Ig i k n)=n:=by
 simp only[Pv];split<;>split<;>simp_all<;>omega
abbrev SC.sw(i k:Nat):SC->SC
 | .own a o=>.own (Ig i k a) o
 | .row a=>.row (Ig i k a)
 | .jU a j sz o=>.jU (Ig i k a) j sz o
 | .sub a j=>.sub (Ig i k a) j
 | .lX a j m sz o=>.lX (Ig i k a) j m sz o
 | x=>x
abbrev SV.sw(i k:Nat):SV->SV
 | .c x=>.c (x.sw i k)
 | .agg xs=>.agg (eY (SC.sw i k) xs)
 | v=>v
abbrev bg.sw(i k:Nat):bg->bg
 | .one x=>.one (x.sw i k)
 | .iJ xs=>.iJ (eY (SV.sw i k) xs)
abbrev ak.sw(i k:Nat):ak->ak
 | .blk t cs=>.blk t (eY (SC.sw i k) cs)
 | r=>r
def vP(i k:Nat) (β β':List RV):Prop:=∀j,β'[Ig i k j]?=β[j]?
theorem dX.sw{h:FH}{β β':List RV}{i k:Nat} (sb:vP i k β β'):∀{x:SC}{y:Value},dX h β x y->dX h β' (x.sw i k) y
 | .v _,_,e=>e
 | .sl _ _,_,e=>e
 | .fp _ _,_,e=>e
 | .one _ _,_,e=>e
 | .own a o,_,⟨b,e,e'⟩=>⟨b,by rw[sb];exact e,e'⟩
 | .row a,y,⟨v,e,e'⟩=>⟨v,by rw[sb];exact e,e'⟩
 | .sub _ _,_,⟨v,us,e,e'⟩=>⟨v,us,by rw[sb];exact e,e'⟩
 | .lX _ _ _ _ _,_,⟨v,us,g,e,e'⟩=>⟨v,us,g,by rw[sb];exact e,e'⟩
 | .jU _ _ _ _,_,⟨v,g,e,e'⟩=>⟨v,g,by rw[sb];exact e,e'⟩
 | .abs _,_,e=>e
 | .junk,_,_=>trivial
theorem vT{α β:Type}{R R':α->β->Prop}{f:α->α} (hR:∀a b,R a b->R' (f a) b):∀{l:List α}{m:List β},aO R l m->aO R' (eY f l) m
 | [],[],_=>trivial
 | _ :: _,_ :: _,⟨a,b⟩=>⟨hR _ _ a,vT hR b⟩
theorem dD.sw{h:FH}{β β':List RV}{i k:Nat} (sb:vP i k β β'):∀{x:SV}{y:Value},dD h β x y->dD h β' (x.sw i k) y
 | .c _,_,⟨e,o⟩=>⟨e.sw sb,o⟩
 | .agg _,_,⟨ys,e,a⟩=>⟨ys,e,vT (λ_ _ ⟨p,q⟩=>⟨p.sw sb,q⟩) a⟩
 | .dat _ _,_,e=>e
 | .und,_,e=>e
theorem jS.sw{h:FH}{β β':List RV}{i k:Nat} (sb:vP i k β β'):∀{x:bg}{y:Value},jS h β x y->jS h β' (x.sw i k) y
 | .one _,_,e=>dD.sw sb e
 | .iJ _,_,⟨ys,e,a⟩=>⟨ys,e,vT (λ_ _ p=>dD.sw sb p) a⟩
theorem Holds.sw{h:FH}{β β':List RV}{w:World}{i k:Nat} (sb:vP i k β β'):∀{r:ak}{v:RV},Holds h β w r v->Holds h β' w (r.sw i k) v
 | .blk _ _,.blk _,⟨ys,e,a⟩=>⟨ys,e,vT (λ_ _ ⟨p,q⟩=>⟨p.sw sb,q⟩) a⟩
 | .row _ _ _,.row _,e=>e
 | .obj _ _ _,.blk _,e=>e
 | .deep _ _ _ _ _ _ _ _,.deep _ _,e=>e
 | .mp _ _ _,.row _,e=>e
 | .OD _ _ _ _,.deep _ _,e=>e
 | .it _ _ _ _,.blk _,e=>e
 | .LC _ _ _ _,.row _,e=>e
 | .Hz _ _ _ _,.deep _ _,e=>e
 | .gone,_,_=>trivial
theorem ak.JD{k:Nat} (r:ak):(r.sw i k).live=r.live:=by cases r<;>rfl
theorem OK.sw{B:Base}{h0:FH}{T T':List ak}{h:FH}{β β':List RV}{w:World}{i k:Nat} (ok:OK B h0 T h β w) (sb:vP i k β β') (hl:β'.length=T'.length)
 (sT:∀j,T'[Ig i k j]?=(T[j]?).map (ak.sw i k)):OK B h0 T' h β' w:=by
 have gT:∀{j:Nat}{r:ak},T'[j]?=some r->∃r0,T[Ig i k j]?=some r0/\r=r0.sw i k:=by
  intro j r e;have:=sT (Ig i k j);rw[yS,e]at this;cases hT:T[Ig i k j]? with
  | none=>rw[hT]at this;cases this
  | some r0=>rw[hT]at this;exact⟨r0,rfl,by simpa using this⟩
 have gB:∀{j:Nat}{v:RV},β'[j]?=some v->β[Ig i k j]?=some v:=by
  intro j v e;have:=sb (Ig i k j);rw[yS,e]at this;exact this.symm
 refine⟨ok.below,ok.dr,hl,λj r v e1 e2=>?_,λj r v b e1 l1 e2 e3=>?_,λj j' r r' u v b e1 l1 e2 l2 e3 e4 e5 e6=>?_,ok.hle,ok.hw,ok.hg,ok.kn⟩
 .obtain⟨r0,f1,rfl⟩:=gT e1;exact(ok.holds _ _ _ f1 (gB e2)).sw sb
 .obtain⟨r0,f1,rfl⟩:=gT e1;exact ok.own _ _ _ _ f1 (by rw[<-ak.JD];exact l1) (gB e2) e3
 .obtain⟨r0,f1,rfl⟩:=gT e1;obtain⟨r1,f2,rfl⟩:=gT e2;have:=ok.inj _ _ _ _ _ _ _ f1 (by rw[<-ak.JD];exact l1) f2 (by rw[<-ak.JD];exact l2) (gB e3) (gB e4) e5 e6
  have h2:=tX (Ig i k) this
  rwa [yS,yS]at h2
abbrev swE(i k:Nat):List (Nat×Gd×bg)->List (Nat×Gd×bg)
 | []=>[]
 | (t,g,e) :: l=>(t,g,e.sw i k) :: swE i k l
abbrev swT(i k:Nat) (T:List (Gd×ak)):List (Gd×ak):=match eX T i with
 | some a=>match eX T k with
   | some b=>eY (λp=>(p.1,p.2.sw i k)) (dF (dF T i b) k a)
   | none=>T
 | none=>T
abbrev swS(i k:Nat) (s:St):St:={ s with T:=swT i k s.T,env:=swE i k s.env }
theorem JE{i k:Nat}:∀{l:List (Nat×Gd×bg)}{t:Nat},iG (swE i k l) t=(iG l t).map λp=>(p.1,p.2.sw i k)
 | [],_=>rfl
 | (u,g,e) :: l,t=>by
   rw[show swE i k ((u,g,e) :: l)=(u,g,e.sw i k) :: swE i k l from rfl,aX,aX]
   split
   .rfl
   .exact JE
theorem EI{α β:Type} (f:α->β):∀l:List α,eY f l=l.map f
 | []=>rfl
 | _ :: l=>by simp[eY,EI f l]
theorem RP{k:Nat}{T:List (Gd×ak)} (hi:i < T.length) (hk:k < T.length) (j:Nat):(swT i k T)[Ig i k j]?=(T[j]?).map λp=>(p.1,p.2.sw i k):=by
 unfold swT;rw[fJ,kQ hi];simp only;rw[fJ,kQ hk];simp only;rw[EI,wJ,gI,gI]
 congr 1
 rw[Pv]
 by_cases h1:j=i
 .subst h1;rw[if_pos rfl,pq (by simpa using hk),kQ hi]
 .rw[if_neg h1]
  by_cases h2:j=k
  .subst h2;rw[if_pos rfl,lW (by omega),pq hi,kQ hk]
  .rw[if_neg h2,lW (by omega),lW (by omega)]
theorem adO{k:Nat}{T:List (Gd×ak)}:(swT i k T).length=T.length:=by
 unfold swT;split
 .split
  .rw[EI,gI,gI];simp
  .rfl
 .rfl
theorem Px{k:Nat} (hi:i < β.length) (hk:k < β.length):∃β',β'.length=β.length/\vP i k β β':=by
 refine⟨(β.set i β[k]).set k β[i],by simp,λj=>?_⟩
 rw[Pv]
 by_cases h1:j=i
 .subst h1;rw[if_pos rfl,pq (by simpa using hk),kQ hi]
 .rw[if_neg h1]
  by_cases h2:j=k
  .subst h2;rw[if_pos rfl,lW (by omega),pq hi,kQ hk]
  .rw[if_neg h2,lW (by omega),lW (by omega)]
theorem Sat.sw{N:Nat}{B:Base}{h0:FH}{s:St}{h:FH}{β:List RV}{w:World}{a:Act} (aj:Sat N B h0 s h β w a){i k:Nat} (hi:i < s.T.length) (hk:k < s.T.length):
 ∃β',Sat N B h0 (swS i k s) h β' w a:=by
 have hlen:β.length=s.T.length:=by rw[aj.ok.len,jh]
 obtain⟨β',hl,sb⟩:=Px (β:=β) (i:=i) (k:=k) (by omega) (by omega)
 refine⟨β',?_,?_,?_,aj.defers,aj.sz,?_,?_⟩
 .refine aj.ok.sw sb (by rw[hl,jh,adO,hlen]) λj=>?_
  rw[jD,jD,RP hi hk];cases s.T[j]? with
  | none=>rfl
  | some p=>
    simp only[WQ];cases gv s.gl p.1<;>rfl
 .intro t G e ht;rw[show(swS i k s).env=swE i k s.env from rfl,JE]at ht
  cases hl:iG s.env t with
  | none=>rw[hl]at ht;cases ht
  | some p=>
    rw[hl]at ht;cases ht;obtain⟨z,q1,q2,q3⟩:=aj.env t p.1 p.2 hl;exact⟨z,q1,λhh=>(q2 hh).sw sb,q3⟩
 .intro d j hd;obtain⟨G,b,q1,q2⟩:=aj.gs d j hd;exact⟨G,b,by rw[show(swS i k s).env=swE i k s.env from rfl,JE,q1];rfl,q2⟩
 .intro t G e ht;rw[show(swS i k s).env=swE i k s.env from rfl,JE]at ht
  cases hl:iG s.env t with
  | none=>rw[hl]at ht;cases ht
  | some p=>
    rw[hl]at ht;cases ht;exact aj.gb t p.1 p.2 hl
 .intro p hp;obtain⟨j,hj⟩:=Ai hp;have h1:=RP hi hk (Ig i k j);rw[yS]at h1;rw[show(swS i k s).T=swT i k s.T from rfl,h1]at hj
  cases hT:s.T[Ig i k j]? with
  | none=>rw[hT]at hj;cases hj
  | some q=>
    rw[hT]at hj;cases hj;exact aj.gT q (gZ hT)
abbrev nR:List (Nat×Nat)->St->St
 | [],s=>s
 | (i,k) :: l,s=>match dG (Nat.ble (i+1) (aN s.T)) (Nat.ble (k+1) (aN s.T)) with
   | true=>nR l (swS i k s)
   | false=>s
theorem Sat.nR{N:Nat}{B:Base}{h0 h:FH}{w:World}{a:Act}:∀(l:List (Nat×Nat)){s:St}{β:List RV},Sat N B h0 s h β w a->∃β',Sat N B h0 (nR l s) h β' w a
 | [],s,β,aj=>⟨β,aj⟩
 | (i,k) :: l,s,β,aj=>by
   unfold Go.l9.nR;split
   .rename_i hc;rw[aB,bY,bF]at hc;have h1:=qo hc.1;have h2:=qo hc.2;obtain⟨β',aT⟩:=aj.sw (i:=i) (k:=k) (by omega) (by omega)
    exact Sat.nR l aT
   .exact⟨β,aj⟩
inductive Loc where
 | slot (t:Nat)
 | cell (i c:Nat)
abbrev ahP:SC->Option Nat
 | .own i _=>some i
 | .row i=>some i
 | _=>none
abbrev apz(s:St):Loc->Option Nat
 | .slot t=>match iG s.env t with
   | some ([],.one (.c x))=>ahP x
   | _=>none
 | .cell i c=>match eX s.T i with
   | some ([],.blk _ cs)=>match eX cs c with
     | some x=>ahP x
     | none=>none
   | _=>none
abbrev tZ:List (Nat×Loc)->St->St
 | [],s=>s
 | (k,loc) :: l,s=>match apz s loc with
   | none=>tZ l s
   | some i=>match dG (Nat.ble (i+1) (aN s.T)) (Nat.ble (k+1) (aN s.T)) with
     | true=>tZ l (swS i k s)
     | false=>s
theorem Sat.tZ{N:Nat}{B:Base}{h0 h:FH}{w:World}{a:Act}:∀(l:List (Nat×Loc)){s:St}{β:List RV},Sat N B h0 s h β w a->∃β',Sat N B h0 (tZ l s) h β' w a
 | [],s,β,aj=>⟨β,aj⟩
 | (k,loc) :: l,s,β,aj=>by
   unfold Go.l9.tZ;split
   .exact Sat.tZ l aj
   .rename_i i _;split
    .rename_i hc;rw[aB,bY,bF]at hc;have h1:=qo hc.1;have h2:=qo hc.2;obtain⟨β',aT⟩:=aj.sw (i:=i) (k:=k) (by omega) (by omega)
     exact Sat.tZ l aT
    .exact⟨β,aj⟩
structure IP where
 sh:Sh
 ps:List Sh
 pre:List sh.den->cO ps->Prop
 res:List sh.den->cO ps->List sh.den
 back:Bool
def Vr(P:Program) (gd:Nat->Option (Sigma Sh.den)) (f:FuncId) (ip:IP):Prop:=
 ∀(t:TypeId) (l:List ip.sh.den) (d:cO ip.ps) (v:Value) (vs:List Value) (h:FH) (w:World),(∀b o u,h b o=some u->vis w b o=some u)->aI gd h ->
   Holds h [] w (.row t ip.sh l) (.row v)->(∀b,aA v=some b->∀o,h b o=none)->aO (dD h []) (fD ip.ps d) vs->ip.pre l d ->
   Calls P f (v :: vs).toArray w (λen w'=>∃v' y,en=.returned y/\Gb w w' (aA v)/\(∀b,aA v'=some b->aA v=some b\/(w.heap.size<=b/\b < w'.heap.size)) /\
    Holds h [] w' (.row t ip.sh (ip.res l d)) (.row v')/\(ip.back=true->y=v')/\(ip.back=false->y=.tuple #[]/\v'=v))
abbrev ipK(cx:Cx) (ip:IP) (s:St) (d:Option Nat) (args:List Operand) (K:St->Prop):Prop:=match args with
 | []=>False
 | x :: r=>match bT cx s [] x with
   | some (.one (.c (.row i)))=>match eX s.T i with
     | some ([],.row t sh l)=>match jE (.sl sh) l (.sl ip.sh) with
       | none=>False
       | some l=>match uK cx s [] r with
         | none=>False
         | some vs=>match allL noRow vs with
           | false=>False
           | true=>match G6 s [] vs with
             | none=>False
             | some bs=>match yM ip.ps bs with
               | none=>False
               | some dd=>ip.pre l dd/\(match ip.back with
                 | false=>K ({ s with T:=dF s.T i ([],.row t ip.sh (ip.res l dd)) }.put d [] (.iJ []))
                 | true=>K ({ s with T:=dF (L9 i s.T) i ([],.row t ip.sh (ip.res l dd)),env:=tC i s.env }.put d [] (.one (.c (.row i)))))
     | _=>False
   | _=>False
def BU(P:Program) (N:Nat) (B:Base) (h0 h:FH) (w:World) (a:Act) (o:Oper) (wanted:Bool) (K:St->Prop):Prop:=
 ∀(Nx:Act->World->Prop) (Q:Exit->Act->World->Prop),
   (∀s' h' β' w' v,K s'->h.le h'->Sat N B h0 s' h' β' w' (a.put o.dst v)->Nx (a.put o.dst v) w') ->
   if wanted=true then o.wp P a w Nx Q else Nx (a.put o.dst undef) w
theorem gJ.weak{N:Nat}{b:Bool}{K:St->Prop} (k:gJ P N B h0 h w a o b K):BU P N B h0 h w a o b K:=
 λNx Q next=>k Nx Q λs' h' β' w' v k' le _ aj=>next s' h' β' w' v k' le aj
section
variable {cx:Cx}{P:Program}{N:Nat}{B:Base}{h0:FH}{s:St}{h:FH}{β:List RV}{w:World}{a:Act}{o:Oper}{K:St->Prop}
theorem XU(aj:Sat N B h0 s h β w a){x x':ak}{v:RV} (hT:eX s.T r=some ([],x)) (hl:x.live=true) (hu:β[r]?=some u)
 (hg:Gb w w' u.block) (hv:∀b,v.block=some b->u.block=some b\/(w.heap.size<=b/\b < w'.heap.size)) (hvs:∀b,¬v.sub b:=by exact λ_ h=>h) (hold:Holds h (β.set r v) w' x' v):
 Sat N B h0 { s with T:=dF (L9 r s.T) r ([],x'),env:=tC r s.env } h (β.set r v) w' a:=by
 have tr:gv s.gl []=true:=rfl;have fP:=bG hT tr;have okj:=aj.ok.jk r;have hTj:((eff s.gl s.T).map (jkR r))[r]?=some (jkR r x):=by rw[wJ,fP];rfl
 have ok:OK B h0 (eff s.gl (dF (L9 r s.T) r ([],x'))) h (β.set r v) w':=by
  rw[fV,Pm];refine okj.upd hTj (by rw[uI];exact hl) hu hg (λk e=>.inl e) (λb hb=>hb.elim (λq=>(hv b q).imp .inl id) λq=>(hvs b q).elim) (.inr λj rj _ ej=>?_) hold
  rw[wJ]at ej;cases hj:(eff s.gl s.T)[j]? with
  | none=>rw[hj]at ej;cases ej
  | some q=>rw[hj]at ej;cases ej;exact Mc r q
 refine⟨ok,?_,?_,aj.defers,aj.sz,?_,?_⟩
 .intro t G e ht;obtain⟨e0,h1,rfl⟩:=Ez r ht;obtain⟨z,q1,q2,q3⟩:=aj.env t G e0 h1;exact⟨z,q1,λhG=>(q2 hG).jk v,q3⟩
 .intro d i hi;obtain⟨G,b,q1,q2⟩:=aj.gs d i hi;exact⟨G,b,Jz r q1,q2⟩
 .intro t G e ht;obtain⟨e0,h1,rfl⟩:=Ez r ht;exact aj.gb t G e0 h1
 .intro p hp;simp only at hp;rw[gI]at hp;rcases Jg hp with hp | hp
  .have:∀{l:List (Gd×ak)},p∈L9 r l->∃q∈l,q.1=p.1:=by
    intro l
    induction l with
    | nil=>intro hh;simp[L9]at hh
    | cons q l ih=>
      obtain⟨g,q⟩:=q;intro hh;simp only[L9,lU]at hh;rcases hh with rfl | hh
      .exact⟨(g,q),by simp,rfl⟩
      .obtain⟨q',h1,h2⟩:=ih hh;exact⟨q',by simp[h1],h2⟩
   obtain⟨q,h1,h2⟩:=this hp;rw[<-h2];exact aj.gT q h1
  .subst hp;rfl
theorem Holds.aiP{s:Sh}{l:List s.den}{v:RV} (x:Holds h β w (.row t s l) v):Holds h β' w (.row t s l) v:=by
 cases v<;>exact x
theorem adP{ip:IP} (RQ:Vr P cx.gd f ip) (hf:∃fn,P.funcs[f]?=some fn/\fn.body.isSome=true/\(fn.name == "runtime.NumGoroutine")=false)
 (aj:Sat N B h0 s h β w a) (hg:aI cx.gd h) (hd:lV N o.dst=true) (ho:o.op=.call c) (cZ:c.callee=.value (.func f))
 (k:ipK cx ip s o.dst (tl c.args) K):BU P N B h0 h w a o true K:=by
 have tr:gv s.gl []=true:=rfl;unfold ipK at k;split at k
 .cases k
 rename_i x r hargs0;split at k
 .rename_i i hx;split at k
  .rename_i t sh l0 hT;split at k
   .cases k
   rename_i l hl;split at k
   .cases k
   rename_i vs hvs;split at k
   .cases k
   rename_i hnr;split at k
   .cases k
   rename_i bs hbs;split at k
   .cases k
   rename_i dd hdd;obtain⟨aG,k⟩:=k;obtain⟨e1,e2⟩:=oM hl;subst e1;simp only at e2;subst e2;have cr:dD h β (.c (.row i)) (a.eval x):=aK aj hg tr hx;have hu:β[i]?=some (.row (a.eval x)):=aj.ok.row_of (bG hT tr) cr.1;have hold:=aj.ok.holds i _ _ (bG hT tr) hu;have hav:=qV aj hg tr hvs;obtain⟨_,b2⟩:=yR aj tr hbs hav;intro Nx Q next
   rw[if_pos rfl];obtain⟨fn,hfn,hbody,hname⟩:=hf;have exec:(execOp a.eval o).run P w=.ok (.enter f (c.args.map a.eval)) w:=by
    simp only[execOp,ho,resolve,cZ,Act.eval,Deferred.ofValue,invoke,Sem.run_bind,Sem.run_pure,Result.andThen_ok,callFunc,run_program,hfn,hname];simp[hbody];cases hb:fn.body with
    | none=>rw[hb]at hbody;cases hbody
    | some _=>simp
   have hargs:(c.args.map a.eval)=(a.eval x :: r.map a.eval).toArray:=by
    have:c.args=(x :: r).toArray:=by
     cases hc:c.args with
     | mk q=>rw[hc]at hargs0;simp only[tl]at hargs0;rw[hargs0]
    rw[this];simp
   unfold Oper.wp;rw[exec];simp only[Oper.upon];rw[hargs];refine(RQ t l0 dd (a.eval x) _ h w aj.ok.hw hg hold.aiP (λb hb=>(aj.ok.own i _ _ b (bG hT tr) rfl hu (aZ.2 hb)).2.2) (yN hdd (b2 hnr)) aG).mono ?_
   rintro en w' ⟨v',y,rfl,hgr,hv,hold',hb1,hb2⟩;have hi:i < β.length:=(A8.1 hu).1;cases hb:ip.back with
   | false=>
     rw[hb]at k;obtain⟨rfl,rfl⟩:=hb2 hb;have fP:=bG hT tr;have ok:OK B h0 (eff s.gl (dF s.T i ([],.row t ip.sh (ip.res l0 dd)))) h β w':=by
      rw[xH];have:=aj.ok.upd (r':=.row t ip.sh (ip.res l0 dd)) (v:=.row (a.eval x)) fP rfl hu hgr (λk e=>aZ.2 e) (λb hb=>.inl hb) (.inl rfl) hold'.aiP
      rwa [ig hu]at this
     exact next _ _ _ _ _ k (FH.le.refl h) ((aj.mem ok (FH.le.refl h) (Ext.refl β) (qw aj)).put (dU hd) rfl (λ_=>⟨[],rfl,trivial⟩) λhh=>by cases hh)
   | true=>
     rw[hb]at k;obtain rfl:=hb1 hb;refine next _ _ _ _ _ k (FH.le.refl h) ((XU aj hT rfl hu hgr hv (x':=.row t ip.sh (ip.res l0 dd)) (v:=.row y) (hold:=hold'.aiP)).put (dU hd) rfl (λ_=>?_) λhh=>by cases hh)
     refine⟨?_,?_⟩
     .refine⟨.row y,?_,rfl⟩;rw[pq hi]
     .rcases hold' with⟨rfl,_⟩ | ⟨_,rfl,_⟩ | ⟨g,cap,cur,rfl,_⟩<;>exact⟨rfl,rfl⟩
  .cases k
 .cases k
end
def aiQ:Int->Bool
 | .ofNat 0=>true
 | _=>false
theorem adQ{n:Int} (h:aiQ n=true):n=0:=by
 unfold aiQ at h;split at h
 .rfl
 .cases h
abbrev G7:Operand->Bool
 | .const v=>match v with
   | .int _ n=>aiQ n
   | _=>false
 | _=>false
theorem yT{x:Operand} (h:G7 x=true):∃k,x=.const (.int k 0):=by
 unfold G7 at h;split at h
 .split at h
  .rename_i k n;rw[adQ h];exact⟨k,rfl⟩
  .cases h
 .cases h
abbrev aiR:Option Operand->Bool
 | none=>true
 | some x=>G7 x
abbrev ang:Option Operand->Bool
 | none=>false
 | some x=>G7 x
abbrev XV:SC->Bool
 | .sl _ _=>true
 | .v v=>match v with
   | .slice none 0 0=>true
   | _=>false
 | _=>false
abbrev aiS(cx:Cx) (s:St) (d:Option Nat) (t:TypeId) (x:Operand) (lo hi:Option Operand) (K:St->Prop):Prop:=match descOf cx t with
 | .slice el=>match pR cx.ti el with
   | none=>False
   | some ie=>match ie.iO with
     | none=>False
     | some sh=>match bT cx s [] x with
       | some (.one (.c y))=>match dG (XV y) (dG (aiR lo) (ang hi)) with
         | true=>K ({ s with T:=snoc s.T ([],.row el sh []) }.put d [] (.one (.c (.row (aN s.T)))))
         | false=>False
       | _=>False
 | _=>False
abbrev Py(cx:Cx) (s:St) (d:Option Nat) (t:TypeId) (i:Nat) (lo hi:Option Operand) (K:St->Prop):Prop:=match descOf cx t with
 | .slice el=>match pR cx.ti el with
   | none=>False
   | some _=>match aiR lo with
     | false=>False
     | true=>match hi with
       | none=>False
       | some h=>match bT cx s [] h with
         | some (.one (.c (.v (.int _ n))))=>match eX s.T i with
           | some ([],.row el' sh l)=>(0<=n/\n<=l.length)/\K ({ s with T:=dF (L9 i s.T) i ([],.row el' sh (l.take n.toNat)),env:=tC i s.env }.put d [] (.one (.c (.row i))))
           | _=>False
         | _=>False
 | _=>False
abbrev aiT(cx:Cx) (s:St) (d:Option Nat) (t:TypeId) (lo hi:Option Operand) (K:St->Prop):Prop:=match descOf cx t with
 | .slice el=>match pR cx.ti el with
   | none=>False
   | some _=>match G5 cx s [] lo 0 with
     | none=>False
     | some a=>match G5 cx s [] hi 0 with
       | none=>False
       | some b=>(0<=a/\a<=b/\b<=0)/\K (s.put d [] (.one (.c (.v (.slice none 0 0)))))
 | _=>False
def fM(a b:Int):Int:=if b > a then b else a
abbrev Pz(cx:Cx) (s:St) (d:Option Nat) (x y:Operand) (K:St->Prop):Prop:=match bT cx s [] x with
 | some (.one (.c (.v (.int .i64 a))))=>match bT cx s [] y with
   | some (.one (.c (.v (.int .i64 b))))=>K (s.put d [] (vI .i64 (fM a b)))
   | _=>False
 | _=>False
abbrev aiU(cx:Cx) (s:St) (d:Option Nat) (t:TypeId) (x:Operand) (K:St->Prop):Prop:=match descOf cx t with
 | .slice _=>match bT cx s [] x with
   | some (.one (.c (.v (.slice none 0 0))))=>K (s.put d [] (vI .i64 0))
   | _=>False
 | _=>False
abbrev aiV(cx:Cx) (s:St) (d:Option Nat) (t:TypeId) (x:Operand) (lo hi:Option Operand) (m:Operand) (K:St->Prop):Prop:=match descOf cx t with
 | .slice el=>match pR cx.ti el with
   | none=>False
   | some ie=>match aiR lo with
     | false=>False
     | true=>match hi with
       | none=>False
       | some h=>match bT cx s [] h with
         | some (.one (.c (.v (.int _ n))))=>match bT cx s [] m with
           | some (.one (.c (.v (.int _ n'))))=>match bT cx s [] x with
             | some (.one (.c (.sl sh l)))=>match Nat.beq ie.size sh.size with
               | true=>(0<=n/\n<=l.length/\n=n')/\K (s.put d [] (.one (.c (.abs (.U6 sh (l.take n.toNat))))))
               | false=>False
             | _=>False
           | _=>False
         | _=>False
 | _=>False
abbrev PE(s:St) (d:Option Nat) (eq:Bool) (x:SC) (K:St->Prop):Prop:=match x with
 | .v _=>K (s.put d [] (vB eq))
 | .sl _ l=>∀b:Bool,(b=true->l=[])->K (s.put d [] (vB (cnd eq b (!b))))
 | .row i=>match eX s.T i with
   | some ([],.row _ _ l)=>∀b:Bool,(b=true->l=[])->K (s.put d [] (vB (cnd eq b (!b))))
   | _=>False
 | _=>False
abbrev JF:BinOp->Option Bool
 | .eql=>some true
 | .neq=>some false
 | _=>none
abbrev XW(cx:Cx) (t:TypeId):Bool:=match descOf cx t with
 | .slice _=>true
 | _=>false
abbrev PG:SC->Bool
 | .sl _ _=>true
 | .row _=>true
 | .v v=>match v with
   | .slice none 0 0=>true
   | _=>false
 | _=>false
abbrev XY(cx:Cx) (s:St) (d:Option Nat) (t t':TypeId) (y:Operand) (K:St->Prop):Prop:=match descOf cx t' with
 | .int .i64=>match descOf cx t with
   | .slice el=>match pR cx.ti el with
     | none=>False
     | some ie=>match ie.iO with
       | none=>False
       | some sh=>match dG (Nat.beq sh.size ie.size) (dG (Nat.ble 1 ie.bytes) (Nat.ble 1 ie.size)) with
         | true=>match bT cx s [] y with
           | some (.one (.c (.v (.int .i64 n))))=>(0<=n/\oz n.toNat ie.bytes)/\K ({ s with T:=snoc s.T ([],.row el sh (List.replicate n.toNat (qO sh))) }.put d [] (.one (.c (.row (aN s.T)))))
           | _=>False
         | false=>False
   | _=>False
 | _=>False
abbrev Vs(i:Nat) (z x:SC):SC:=match x with
 | .row j=>match Nat.beq i j with
   | true=>z
   | false=>.row j
 | .jU j k sz off=>match Nat.beq i j with
   | true=>.junk
   | false=>.jU j k sz off
 | .own j off=>match Nat.beq i j with
   | true=>.junk
   | false=>.own j off
 | .sub j k=>match Nat.beq i j with
   | true=>.junk
   | false=>.sub j k
 | .lX j k m sz off=>match Nat.beq i j with
   | true=>.junk
   | false=>.lX j k m sz off
 | x=>x
abbrev adR(i:Nat) (z:SC):SV->SV
 | .c x=>.c (Vs i z x)
 | .agg xs=>.agg (eY (Vs i z) xs)
 | v=>v
abbrev adS(i:Nat) (z:SC):bg->bg
 | .one v=>.one (adR i z v)
 | .iJ vs=>.iJ (eY (adR i z) vs)
abbrev Vt(i:Nat) (z:SC):ak->ak
 | .blk t cs=>.blk t (eY (Vs i z) cs)
 | r=>r
abbrev oP(i:Nat) (z:SC):List (Nat×Gd×bg)->List (Nat×Gd×bg)
 | []=>[]
 | (k,g,e) :: r=>(k,g,adS i z e) :: oP i z r
abbrev rY(i:Nat) (z:SC):List (Gd×ak)->List (Gd×ak)
 | []=>[]
 | (g,r) :: t=>(g,Vt i z r) :: rY i z t
abbrev MF(s:St) (i:Nat):St:=match eX s.T i with
 | some ([],.row _ sh l)=>{ s with T:=dF (rY i (.sl sh l) s.T) i ([],.gone),env:=oP i (.sl sh l) s.env }
 | some ([],.deep _ sh l _ _ _ _ [])=>{ s with T:=dF (rY i (.sl sh l) s.T) i ([],.gone),env:=oP i (.sl sh l) s.env }
 | some ([],.mp k sh l)=>{ s with T:=dF (rY i (.one (.mp k sh) l) s.T) i ([],.gone),env:=oP i (.one (.mp k sh) l) s.env }
 | _=>s
abbrev nJ(s:St):List Nat->St
 | []=>s
 | i :: r=>nJ (MF s i) r
abbrev RS:List SC->List Nat->List Nat
 | [],r=>r
 | x :: xs,r=>match x with
   | .row i=>i :: RS xs r
   | _=>RS xs r
abbrev rowsOf(cx:Cx) (s:St):List (Nat×Operand)->List Nat
 | []=>[]
 | (_,x) :: r=>match bT cx s [] x with
   | some (.one (.c (.row i)))=>i :: rowsOf cx s r
   | some (.one (.agg xs))=>RS xs (rowsOf cx s r)
   | _=>rowsOf cx s r
abbrev JG(cx:Cx) (s:St) (d:Option Nat) (t:TypeId) (x y:Operand) (K:St->Prop):Prop:=iP cx t λel ie sh=>
 match bT cx s [] x with
 | some (.one (.c (.abs (.U6 fA l1))))=>match jE (.sl fA) l1 (.sl sh) with
   | some l=>match bT cx s [] y with
     | some (.one v2)=>match Pn s sh v2 with
       | some l2=>oz (l.length+l2.length) ie.bytes/\K ({ s with T:=snoc (rY (aN s.T) (.sl sh (l++l2)) s.T) ([],.gone),env:=oP (aN s.T) (.sl sh (l++l2)) s.env }.put d [] (.one (.c (.sl sh (l++l2)))))
       | none=>False
     | _=>False
   | none=>False
 | _=>False
abbrev PI:List Value->Bool
 | []=>false
 | v :: l=>match l with
   | []=>match v with
     | .slice none 0 0=>true
     | _=>false
   | _ :: _=>false
theorem Vu{l:List Value} (h:PI l=true):l=[nH]:=by
 unfold PI at h;split at h
 .cases h
 .split at h
  .split at h
   .rfl
   .cases h
  .cases h
abbrev aiW:Nat->Bool:=λ_=>true
abbrev PK(cx:Cx) (s:St) (d:Option Nat) (t:TypeId) (ln cp:Operand) (K:St->Prop):Option Prop:=match descOf cx t with
 | .slice el=>match pR cx.ti el with
   | none=>none
   | some ie=>match ie.iO with
     | some (.sl e)=>match descOf cx el with
       | .slice tt=>match dG (Nat.beq 1 ie.size) (dG (Nat.ble 1 ie.bytes) (PI ie.zero)) with
         | true=>match bT cx s [] ln with
           | some (.one (.c (.v (.int _ n))))=>match bT cx s [] cp with
             | some (.one (.c (.v (.int _ c))))=>some ((0<=n/\n<=c/\oz c.toNat ie.bytes)/\K ({ s with T:=snoc s.T ([],.deep el (.sl e) (List.replicate n.toNat []) tt e 0 aiW []) }.put d [] (.one (.c (.row (aN s.T))))))
             | _=>none
           | _=>none
         | false=>none
       | _=>none
     | _=>none
 | _=>none
abbrev aiX(cx:Cx) (s:St) (o:Oper) (K:St->Prop):Option Prop:=match o.guard with
 | some _=>none
 | none=>match o.op with
   | .slice t x lo hi mx=>match mx with
     | some m=>match G7 m with
       | true=>some (aiS cx s o.dst t x lo hi K)
       | false=>some (aiV cx s o.dst t x lo hi m K)
     | none=>match bT cx s [] x with
       | some (.one (.c (.row i)))=>some (Py cx s o.dst t i lo hi K)
       | some (.one (.c (.v (.slice none 0 0))))=>some (aiT cx s o.dst t lo hi K)
       | _=>none
   | .binOp op t x y t'=>match JF op with
     | none=>none
     | some eq=>match bT cx s [] y with
       | some (.one (.c (.v (.slice none 0 0))))=>match bT cx s [] x with
         | some (.one (.c z))=>match dG (PG z) (XW cx t) with
           | true=>some (PE s o.dst eq z K)
           | false=>none
         | _=>none
       | _=>none
   | .call c=>match c.callee with
     | .builtin .append=>match tl c.args with
       | [x,y]=>match tl c.argTypes with
         | [t,t']=>match Nat.beq t t' with
           | true=>match bT cx s [] x with
             | some (.one (.c (.abs (.U6 _ _))))=>some (JG cx s o.dst t x y K)
             | _=>none
           | false=>match bT cx s [] x with
             | some (.one (.c (.v (.slice none 0 0))))=>some (XY cx s o.dst t t' y K)
             | _=>none
         | _=>none
       | _=>none
     | .builtin .cap=>match tl c.args with
       | [x]=>match tl c.argTypes with
         | [t]=>some (aiU cx s o.dst t x K)
         | _=>none
       | _=>none
     | .builtin .max=>match tl c.args with
       | [x,y]=>some (Pz cx s o.dst x y K)
       | _=>none
     | _=>none
   | .makeSlice t ln cp=>match cx.dm with
     | true=>PK cx s o.dst t ln cp K
     | false=>none
   | .buildSlice t n ps=>match rowsOf cx s (tl ps) with
     | []=>none
     | i :: r=>some (mZ cx (nJ s (i :: r)) [] o.dst t n (tl ps) K)
   | _=>none
section
variable {cx:Cx}{P:Program}{N:Nat}{B:Base}{h0:FH}{s:St}{h:FH}{β:List RV}{w:World}{a:Act}{o:Oper}{K:St->Prop}
theorem RU(le:h.le h') (hu:∃u,β[i]?=some u/\u.sl=some v) (sl:dX h' β z v){x:SC}{y:Value} (c:dX h β x y):dX h' β (Vs i z x) y:=by
 unfold Vs;split
 .rename_i j;split
  .rename_i hj;have:=iC hj;subst this;obtain⟨u,e,es⟩:=c;obtain⟨u',e',es'⟩:=hu;rw[e']at e;cases e;rw[es']at es;cases es;exact sl
  .exact dX.mono (x:=.row j) le (Ext.refl β) c
 .split
  .trivial
  .exact c.mono le (Ext.refl β)
 .split
  .trivial
  .exact c.mono le (Ext.refl β)
 .split
  .trivial
  .exact c.mono le (Ext.refl β)
 .split
  .trivial
  .exact c.mono le (Ext.refl β)
 .exact c.mono le (Ext.refl β)
theorem JH{h h':FH}{β:List RV}{i:Nat}{z:SC}{v:Value} (le:h.le h') (hu:∃u,β[i]?=some u/\u.sl=some v) (sl:dX h' β z v):∀{xs:List SC}{ys:List Value},
 aO (λx y=>dX h β x y/\dH y) xs ys->aO (λx y=>dX h' β x y/\dH y) (eY (Vs i z) xs) ys
 | [],[],_=>trivial
 | _ :: _,_ :: _,⟨a,b⟩=>⟨⟨RU le hu sl a.1,a.2⟩,JH le hu sl b⟩
theorem ahQ(le:h.le h') (hu:∃u,β[i]?=some u/\u.sl=some v) (sl:dX h' β z v):∀{x:SV}{y:Value},dD h β x y->dD h' β (adR i z x) y
 | .c _,_,c=>⟨RU le hu sl c.1,c.2⟩
 | .agg _,_,⟨ys,e,a⟩=>⟨ys,e,JH le hu sl a⟩
 | .dat s _,_,⟨g,cs,e,r⟩=>⟨g,cs,e,r.mono le s⟩
 | .und,_,c=>c
theorem anh(le:h.le h') (hu:∃u,β[i]?=some u/\u.sl=some v) (sl:dX h' β z v):∀{x:bg}{y:Value},jS h β x y->jS h' β (adS i z x) y
 | .one _,_,c=>ahQ le hu sl c
 | .iJ _,_,⟨ys,e,a⟩=>⟨ys,e,go a⟩
where
 go:∀{xs:List SV}{ys:List Value},aO (dD h β) xs ys->aO (dD h' β) (eY (adR i z) xs) ys
  | [],[],_=>trivial
  | _ :: _,_ :: _,⟨a,b⟩=>⟨ahQ le hu sl a,go b⟩
theorem Vw(le:h.le h') (hu:∃u,β[i]?=some u/\u.sl=some v) (sl:dX h' β z v):∀{r:ak}{u:RV},Holds h β w r u->Holds h' β w (Vt i z r) u
 | .blk _ _,.blk _,⟨ys,e,a⟩=>⟨ys,e,JH le hu sl a⟩
 | .row _ s _,.row _,x=>mF.move le x λ_ _=>rfl
 | .deep _ _ _ _ _ _ _ _,.deep _ _,x=>eF.move le x λ_ _=>rfl
 | .mp k s l,.row v,x=>Holds.move (r:=.mp k s l) (v:=.row v) le (Ext.refl β) x λ_ _ _=>rfl
 | .OD k s l n,.deep v us,x=>Holds.move (r:=.OD k s l n) (v:=.deep v us) le (Ext.refl β) x λ_ _ _=>rfl
 | .LC _ _ _ _,.row _,x=>x
 | .Hz _ _ _ _,.deep _ _,x=>D8.move le x λ_ _=>rfl
 | .it k s l dn,.blk v,x=>Holds.move (r:=.it k s l dn) (v:=.blk v) le (Ext.refl β) x λ_ _ _=>rfl
 | .obj _ s _,.blk _,⟨ys,e,r⟩=>⟨ys,e,r.mono le s⟩
 | .gone,_,_=>trivial
theorem Ba(i:Nat) (z:SC) (r:ak):(Vt i z r).live=r.live:=by cases r<;>rfl
theorem JI{i:Nat}{z:SC}:∀{env:List (Nat×Gd×bg)}{t:Nat}{G:Gd}{e:bg},iG (oP i z env) t=some (G,e)->∃e0,iG env t=some (G,e0)/\e=adS i z e0
 | [],_,_,_,h=>by simp[oP,iG]at h
 | (k,g,e0) :: r,t,G,e,h=>by
   simp only[oP]at h;rw[aX]at h ⊢
   split at h
   .rename_i hk;cases h;exact⟨e0,by rw[if_pos hk],rfl⟩
   .rename_i hk;rw[if_neg hk];exact JI h
theorem MG{i:Nat}{z:SC}:∀{env:List (Nat×Gd×bg)}{t:Nat}{G:Gd}{e:bg},iG env t=some (G,e)->iG (oP i z env) t=some (G,adS i z e)
 | [],_,_,_,h=>by simp[iG]at h
 | (k,g,e0) :: r,t,G,e,h=>by
   simp only[oP];rw[aX]at h ⊢
   split at h
   .rename_i hk;cases h;rw[if_pos hk]
   .rename_i hk;rw[if_neg hk];exact MG h
theorem RX(gl:List Bool) (i:Nat) (z:SC):∀{T:List (Gd×ak)},eff gl (rY i z T)=(eff gl T).map (Vt i z)
 | []=>rfl
 | (g,r) :: t=>by
   simp only[rY,eff,UO,RX gl i z (T:=t)]
   congr 1
   cases gv gl g<;>rfl
theorem RY{i:Nat}{z:SC}{p:Gd×ak}:∀{T:List (Gd×ak)},p∈rY i z T->∃q∈T,q.1=p.1
 | [],h=>by simp[rY]at h
 | (g,r) :: t,h=>by
   simp only[rY,lU]at h;rcases h with rfl | h
   .exact⟨(g,r),by simp,rfl⟩
   .obtain⟨q,h1,h2⟩:=RY h;exact⟨q,by simp[h1],h2⟩
theorem Sat.JJ(aj:Sat N B h0 s h β w a){r:ak} (fP:(eff s.gl s.T)[i]?=some r) (hu:β[i]?=some u) (hus:u.sl=some v) (le:h.le h') (ok':OK B h0 ((eff s.gl s.T).set i .gone) h' β w) (sl:dX h' β z v):
 Sat N B h0 { s with T:=dF (rY i z s.T) i ([],.gone),env:=oP i z s.env } h' β w a:=by
 have hu:∃u,β[i]?=some u/\u.sl=some v:=⟨u,hu,hus⟩;refine⟨?_,?_,?_,aj.defers,aj.sz,?_,?_⟩
 .show OK B h0 (eff s.gl (dF (rY i z s.T) i ([],.gone))) h' β w;rw[fV,RX];have key:∀{j:Nat}{r:ak},(((eff s.gl s.T).map (Vt i z)).set i .gone)[j]?=some r->∃r0,((eff s.gl s.T).set i .gone)[j]?=some r0/\r=Vt i z r0:=by
   intro j r e
   by_cases hj:j=i
   .subst hj;have gX:j < (eff s.gl s.T).length:=(A8.1 fP).1;rw[pq (by simpa using gX)]at e
    cases e;exact⟨.gone,by rw[pq gX],rfl⟩
   .rw[lW (Ne.symm hj),wJ]at e;cases hj':(eff s.gl s.T)[j]? with
    | none=>rw[hj']at e;cases e
    | some r0=>rw[hj']at e;cases e;exact⟨r0,by rw[lW (Ne.symm hj)];exact hj',rfl⟩
  exact {
   below:=ok'.below
   dr:=ok'.dr
   len:=by have:=ok'.len;simpa using this
   holds:=λj r v' e e'=>by
    obtain⟨r0,e0,rfl⟩:=key e
    by_cases hj:j=i
    .subst hj;have gX:j < (eff s.gl s.T).length:=(A8.1 fP).1;rw[pq gX]at e0;cases e0;cases v'<;>trivial
    .rw[lW (Ne.symm hj)]at e0;exact Vw le hu sl (aj.ok.holds j r0 v' e0 e')
   own:=λj r v' b e hl e' hb=>by
    obtain⟨r0,e0,rfl⟩:=key e;exact ok'.own j r0 v' b e0 (by rw[<-Ba i z];exact hl) e' hb
   inj:=λj k r1 r2 u v' b e1 l1 e2 l2 e3 e4 b1 b2=>by
    obtain⟨r0,f1,rfl⟩:=key e1;obtain⟨r0',f2,rfl⟩:=key e2;exact ok'.inj j k r0 r0' u v' b f1 (by rw[<-Ba i z];exact l1) f2 (by rw[<-Ba i z];exact l2) e3 e4 b1 b2
   hle:=ok'.hle
   hw:=ok'.hw
   hg:=ok'.hg
   kn:=ok'.kn }
 .intro t' G e ht;obtain⟨e0,h1,rfl⟩:=JI ht;obtain⟨z,q1,q2,q3⟩:=aj.env t' G e0 h1;exact⟨z,q1,λhG=>anh le hu sl (q2 hG),q3⟩
 .intro d j hj;obtain⟨G,b,q1,q2⟩:=aj.gs d j hj;exact⟨G,b,MG q1,q2⟩
 .intro t' G e ht;obtain⟨e0,h1,rfl⟩:=JI ht;exact aj.gb t' G e0 h1
 .intro p hp;simp only at hp;rw[gI]at hp;rcases Jg hp with hp | hp
  .obtain⟨q,h1,h2⟩:=RY hp;rw[<-h2];exact aj.gT q h1
  .subst hp;rfl
theorem RZ{k:IntKind}{sh:Sh}{l:List (Int×sh.den)} (x:Holds h β w (.mp k sh l) (.row v)) (le:h.le h') (hb:∀b,(RV.row v).has b->∀o z,vis w b o=some z->h' b o=some z):Rd h' (.mp k sh) [v] l:=by
 obtain⟨b,es,c,e,e1,m⟩:=x;exact⟨v,rfl,.inr ⟨b,es,c,e,hb b (aZ.2 (by rw[e];rfl)) _ _ (Rh e1),m.mono λ_ _=>DW.mono le⟩⟩
theorem Sat.aiY(aj:Sat N B h0 s h β w a) (i:Nat):∃h',h.le h'/\Sat N B h0 (MF s i) h' β w a:=by
 unfold MF;split
 .rename_i t sh l hT;have fP:(eff s.gl s.T)[i]?=some (.row t sh l):=by rw[jD,<-fJ,hT];rfl
  have gX:i < β.length:=by rw[aj.ok.len];exact(A8.1 fP).1
  have hu:=kQ gX;have hold:=aj.ok.holds i _ _ fP hu;cases hb:β[i]with
  | blk b=>rw[hb]at hold;cases hold
  | no=>rw[hb]at hold;cases hold
  | deep _ _=>rw[hb]at hold;cases hold
  | row v=>
    rw[hb]at hold hu;obtain⟨h',le,ok',sl⟩:=aj.ok.freeze fP hu;exact⟨h',le,aj.JJ (z:=.sl sh l) fP hu rfl le ok' sl⟩
 .rename_i t sh l t2 e so own hT;have fP:(eff s.gl s.T)[i]?=some (.deep t sh l t2 e so own []):=by rw[jD,<-fJ,hT];rfl
  have gX:i < β.length:=by rw[aj.ok.len];exact(A8.1 fP).1
  have hu:=kQ gX;have hold:=aj.ok.holds i _ _ fP hu;cases hb:β[i]with
  | blk b=>rw[hb]at hold;cases hold
  | no=>rw[hb]at hold;cases hold
  | row _=>rw[hb]at hold;cases hold
  | deep v us=>
    rw[hb]at hold hu;obtain⟨le,ok',vis⟩:=aj.ok.vC fP rfl hu;exact⟨_,le,aj.JJ (z:=.sl sh l) fP hu rfl le ok' (eF.data hold le λb hb o z hz=>vis b hb o z hz)⟩
 .rename_i k sh l hT;have fP:(eff s.gl s.T)[i]?=some (.mp k sh l):=by rw[jD,<-fJ,hT];rfl
  have gX:i < β.length:=by rw[aj.ok.len];exact(A8.1 fP).1
  have hu:=kQ gX;have hold:=aj.ok.holds i _ _ fP hu;cases hb:β[i]with
  | blk b=>rw[hb]at hold;cases hold
  | no=>rw[hb]at hold;cases hold
  | deep _ _=>rw[hb]at hold;cases hold
  | row v=>
    rw[hb]at hold hu;obtain⟨le,ok',vs⟩:=aj.ok.vC fP rfl hu;exact⟨_,le,aj.JJ (z:=.one (.mp k sh) l) fP hu rfl le ok' (RZ hold le λb hb o z hz=>vs b hb o z hz)⟩
 .exact⟨h,FH.le.refl h,aj⟩
theorem Sat.GH:∀{l:List Nat}{s:St}{h:FH},Sat N B h0 s h β w a->∃h',h.le h'/\Sat N B h0 (nJ s l) h' β w a
 | [],s,h,aj=>⟨h,FH.le.refl h,aj⟩
 | i :: r,s,h,aj=>by
   obtain⟨h1,le1,jr⟩:=aj.aiY i;obtain⟨h2,iD,bH⟩:=Sat.GH (l:=r) jr;exact⟨h2,le1.trans iD,bH⟩
theorem BU.le{h h':FH}{b:Bool} (le:h.le h') (k:BU P N B h0 h' w a o b K):BU P N B h0 h w a o b K:=λNx Q next=>k Nx Q λs' h2 β' w' v k' le' aj=>next s' h2 β' w' v k' (le.trans le') aj
theorem XZ{y:SC} (hy:XV y=true) (c:dX h β y v):∃ad len cap,v=.slice ad len cap/\len<=cap/\(ad=none->len=0/\cap=0):=by
 unfold XV at hy;split at hy
 .rcases c with⟨rfl,_⟩ | ⟨ad,cap,rfl,_⟩ | ⟨b,off,cap,rfl,h1,_⟩
  .exact⟨none,0,0,rfl,o9 _,λ_=>⟨rfl,rfl⟩⟩
  .exact⟨some ad,0,cap,rfl,Ji _,λh=>by cases h⟩
  .exact⟨_,_,cap,rfl,h1,λh=>by cases h⟩
 .split at hy
  .obtain⟨rfl,_⟩:=c;exact⟨none,0,0,rfl,o9 _,λ_=>⟨rfl,rfl⟩⟩
  .cases hy
 .cases hy
theorem X0(hc:bV P cx.ti) (aj:Sat N B h0 s h β w a) (hg:aI cx.gd h) (hd:lV N o.dst=true){x m:Operand} (ho:o.op=.slice t x lo hi (some m)) (hm:G7 m=true)
 (k:aiS cx s o.dst t x lo hi K):BU P N B h0 h w a o true K:=by
 have tr:gv s.gl []=true:=rfl;unfold aiS at k;split at k
 .rename_i el hde;have hu:=bI hc hde (by simp)
  split at k
  .cases k
  rename_i ie hie;have tie:=hc.get hie;split at k
  .cases k
  rename_i sh hsh;split at k
  .rename_i y hy;split at k
   .rename_i hz;rw[aB,aB,bY,bY]at hz;obtain⟨hz1,hz2,hz3⟩:=hz;have cy:=(aK aj hg tr hy:dD h β (.c y) (a.eval x));obtain⟨ad,len,cap,ev,hle,hnil⟩:=XZ hz1 cy.1;obtain⟨km,rfl⟩:=yT hm;obtain⟨hx,rfl⟩:∃x,hi=some x:=by cases hi with | none=>simp[ang]at hz3 | some x=>exact⟨x,rfl⟩
    obtain⟨kh,rfl⟩:=yT (show G7 hx=true from hz3)
    have run:(Instr.sliceAt t (a.eval x) (lo.map a.eval) ((some (Operand.const (.int kh 0))).map a.eval) ((some (Operand.const (.int km 0))).map a.eval)).run P w=.ok (.slice ad 0 0) w:=by
     rw[ev];have e1:(Instr.sliceBounds true len cap (lo.map a.eval) (some (.int kh 0)) (some (.int km 0))).run P w=.ok (0,0,0) w:=by
      cases lo with
      | none=>simp[Instr.sliceBounds,Instr.sliceBound,asIntOf]
      | some z=>
        obtain⟨kz,rfl⟩:=yT (show G7 z=true from hz2)
        simp[Instr.sliceBounds,Instr.sliceBound,asIntOf,Act.eval]
     simp only[Instr.sliceAt,Instr.slice,Sem.run_bind,run_underlying hu,Result.andThen_ok,WQ,Act.eval,e1,run_sizeOf tie,Sem.run_pure];simp
    have nw:=lF (P:=P) aj (o:=o) (G:=[]) rfl hd (r:=.row el sh []) (e:=.one (.c (.row (aN s.T)))) (K:=K) k λ_=>
     ⟨.slice ad 0 0,w,.row (.slice ad 0 0),by simp only[execOp,ho,Sem.run_bind];rw[run];rfl,dh _ _,λb hb=>by rw[aZ]at hb;cases ad<;>simp[aA]at hb,by
      cases ad with
      | none=>exact .inl ⟨rfl,rfl⟩
      | some ad=>exact .inr (.inl ⟨ad,rfl,rfl⟩),by
      refine⟨⟨_,kL (lG aj) _,rfl⟩,rfl,rfl⟩⟩
    exact nw.weak
   .cases k
  .cases k
 .cases k
theorem oQ(aj:Sat N B h0 s h β w a) (hd:lV N o.dst=true){e:bg} (run:(execOp a.eval o).run P w=.ok (.value v) w) (c:jS h β e v) (k:K (s.put o.dst [] e)):BU P N B h0 h w a o true K:=by
 intro Nx Q next
 rw[if_pos rfl];exact kK run (next _ _ _ _ _ k (FH.le.refl h) (aj.put (dU hd) rfl (λ_=>c) λhh=>by cases hh))
theorem PL(hc:bV P cx.ti) (aj:Sat N B h0 s h β w a) (hg:aI cx.gd h) (hd:lV N o.dst=true){x:Operand} (ho:o.op=.slice t x lo hi none)
 (hx:bT cx s [] x=some (.one (.c (.row i)))) (k:Py cx s o.dst t i lo hi K):BU P N B h0 h w a o true K:=by
 have tr:gv s.gl []=true:=rfl;unfold Py at k;split at k
 .rename_i el hde;have hu:=bI hc hde (by simp)
  split at k
  .cases k
  rename_i ie hie;have tie:=hc.get hie;split at k
  .cases k
  rename_i hlo;split at k
  .cases k
  rename_i hh;split at k
  .rename_i ik n hn;split at k
   .rename_i el' sh l hT;obtain⟨hb,k⟩:=k;have ch:=(aK aj hg tr hn:dD h β (.c (.v (.int ik n))) (a.eval hh));have eh:a.eval hh=.int ik n:=ch.1.1;have cr:=(aK aj hg tr hx:dD h β (.c (.row i)) (a.eval x));have hβ:β[i]?=some (.row (a.eval x)):=aj.ok.row_of (bG hT tr) cr.1;have hold:=aj.ok.holds i _ _ (bG hT tr) hβ;have hi':i < β.length:=(A8.1 hβ).1;have aiZ:(lo.map a.eval=none/\(0:Int)=0)\/∃k,lo.map a.eval=some (.int k 0):=by
     cases lo with
     | none=>exact .inl ⟨rfl,rfl⟩
     | some z=>
       obtain⟨kz,rfl⟩:=yT (show G7 z=true from hlo)
       exact .inr ⟨kz,rfl⟩
    have run:∀(ad:Option Addr) (cap:Nat),a.eval x=.slice ad l.length cap->l.length<=cap->(execOp a.eval o).run P w=.ok (.value (.slice ad n.toNat cap)) w:=by
     intro ad cap ev hle;have:=oK (P:=P) (w:=w) (isS:=true) (len:=l.length) (cap:=cap) (lo:=lo.map a.eval) (hi:=some (.int ik n)) (a:=0) (b:=n) aiZ (.inr ⟨ik,rfl⟩) (by omega) hle
     have r2:(Instr.sliceAt t (a.eval x) (lo.map a.eval) ((some hh).map a.eval) none).run P w=.ok (.slice ad n.toNat cap) w:=by
      rw[ev];simp only[Instr.sliceAt,Instr.slice,Sem.run_bind,run_underlying hu,Result.andThen_ok,WQ,eh,this,run_sizeOf tie,Sem.run_pure];cases ad<;>simp[Addr.add]
     simp only[execOp,ho,Sem.run_bind,adv];rw[r2];rfl
    have fin:∀(v':Value),(execOp a.eval o).run P w=.ok (.value v') w->(∀b,aA v'=some b->aA (a.eval x)=some b)->Holds h (β.set i (.row v')) w (.row el' sh (l.take n.toNat)) (.row v')->dH v'->BU P N B h0 h w a o true K:=by
     intro v' r hv hold' h1;intro Nx Q next
     rw[if_pos rfl];refine kK r (next _ _ _ _ _ k (FH.le.refl h) ((XU aj hT rfl hβ (dh _ _) (v:=.row v') (λb hb=>.inl (hv b hb)) (hold:=hold')).put (dU hd) rfl (λ_=>⟨?_,h1⟩) λhh=>by cases hh))
     refine⟨.row v',?_,rfl⟩;rw[pq hi']
    rcases hold with⟨ev,hl⟩ | ⟨ra,ev,hl⟩ | ⟨g,cap,cur,ev,q1,q2,q3,q4,q5⟩
    .have hn0:n.toNat=0:=by rw[hl]at hb;simp at hb;omega
     refine fin _ (run none 0 (by rw[ev,hl];rfl) (by rw[hl];exact o9 _)) (λb hb=>by simp[aA]at hb) (.inl ⟨by rw[hn0],by rw[hl];simp⟩) ⟨rfl,rfl⟩
    .have hn0:n.toNat=0:=by rw[hl]at hb;simp at hb;omega
     refine fin _ (run (some ra) 0 (by rw[ev,hl];rfl) (by rw[hl];exact o9 _)) (λb hb=>by simp[aA]at hb) (.inr (.inl ⟨ra,by rw[hn0],by rw[hl];simp⟩)) ⟨rfl,rfl⟩
    .have hlen:(l.take n.toNat).length=n.toNat:=by rw[lu];omega
     refine fin _ (run (some ⟨g,0,none⟩) cap ev q2) (λb hb=>by rw[ev,aW q3.1];rw[aW q3.1]at hb;exact hb) (.inr (.inr ⟨g,cap,cur,by rw[hlen],q1,by rw[hlen];omega,q3,q4,?_⟩)) ⟨rfl,rfl⟩
     have:=gG.uy (λ_ _=>Rd.size sh) q5 (a:=0) (b:=n.toNat) (Ji _) (by omega)
     simp only[OW,OM]at this;rw[hlen];rw[List.take_take,Jj (yh _ (by omega))]at this
     exact this
   .cases k
  .cases k
 .cases k
theorem X3(hc:bV P cx.ti) (aj:Sat N B h0 s h β w a) (hg:aI cx.gd h) (hd:lV N o.dst=true){x:Operand} (ho:o.op=.slice t x lo hi none)
 (hx:bT cx s [] x=some (.one (.c (.v (.slice none 0 0))))) (k:aiT cx s o.dst t lo hi K):BU P N B h0 h w a o true K:=by
 have tr:gv s.gl []=true:=rfl;unfold aiT at k;split at k
 .rename_i el hde;have hu:=bI hc hde (by simp)
  split at k
  .cases k
  rename_i ie hie;have tie:=hc.get hie;split at k
  .cases k
  rename_i p hp;split at k
  .cases k
  rename_i q hq;obtain⟨hb,k⟩:=k;have Ib:=(aK aj hg tr hx:dD h β (.c (.v (.slice none 0 0))) (a.eval x));have ev:a.eval x=.slice none 0 0:=Ib.1.1;have bnd:∀{o:Option Operand}{n:Int},G5 cx s [] o 0=some n->(o.map a.eval=none/\n=0)\/∃k,o.map a.eval=some (.int k n):=by
   intro o n e;rcases Ry aj hg tr e with⟨rfl,rfl⟩ | ⟨x,ik,rfl,e'⟩
   .exact .inl ⟨rfl,rfl⟩
   .exact .inr ⟨ik,by simp[e']⟩
  have:=oK (P:=P) (w:=w) (isS:=true) (len:=0) (cap:=0) (bnd hp) (bnd hq) (by simpa using hb) (o9 _)
  refine oQ aj hd (v:=.slice none 0 0) (e:=.one (.c (.v (.slice none 0 0)))) ?_ ⟨⟨rfl,rfl,rfl⟩,rfl,rfl⟩ k;have h1:p.toNat=0:=by omega
  have h2:q.toNat=0:=by omega
  have r2:(Instr.sliceAt t (a.eval x) (lo.map a.eval) (hi.map a.eval) none).run P w=.ok (.slice none 0 0) w:=by
   rw[ev];simp only[Instr.sliceAt,Instr.slice,Sem.run_bind,run_underlying hu,Result.andThen_ok,this,run_sizeOf tie,Sem.run_pure,h1,h2];simp
  simp only[execOp,ho,Sem.run_bind,adv];rw[r2];rfl
 .cases k
theorem X4(hc:bV P cx.ti) (aj:Sat N B h0 s h β w a) (hg:aI cx.gd h) (hd:lV N o.dst=true){x:Operand} (ho:o.op=.call c) (cZ:c.callee=.builtin .cap) (ha:c.args=#[x]) (ht:c.argTypes=#[t])
 (k:aiU cx s o.dst t x K):BU P N B h0 h w a o true K:=by
 have tr:gv s.gl []=true:=rfl;unfold aiU at k;split at k
 .rename_i el hde;have hu:=bI hc hde (by simp)
  split at k
  .rename_i hx;have Ib:=(aK aj hg tr hx:dD h β (.c (.v (.slice none 0 0))) (a.eval x));have ev:a.eval x=.slice none 0 0:=Ib.1.1;refine oQ aj hd (v:=goInt 0) (e:=vI .i64 0) ?_ ⟨⟨rfl,bM _ _⟩,bM _ _⟩ k;simp[execOp,ho,resolve,cZ,ha,ht,invoke,builtin,ev,Builtin.cap_,run_underlying hu]
  .cases k
 .cases k
theorem X5(aj:Sat N B h0 s h β w a) (hg:aI cx.gd h) (hd:lV N o.dst=true){x:Operand} (ho:o.op=.call c) (cZ:c.callee=.builtin .max) (ha:c.args=#[x,y])
 (k:Pz cx s o.dst x y K):BU P N B h0 h w a o true K:=by
 have tr:gv s.gl []=true:=rfl;unfold Pz at k;split at k
 .rename_i n hx;have ex:a.eval x=.int .i64 n:=(aK aj hg tr hx:dD h β (.c (.v (.int .i64 n))) (a.eval x)).1.1;split at k
  .rename_i m hy;have ey:a.eval y=.int .i64 m:=(aK aj hg tr hy:dD h β (.c (.v (.int .i64 m))) (a.eval y)).1.1;refine oQ aj hd (v:=.int .i64 (fM n m)) (e:=vI .i64 (fM n m)) ?_ ⟨⟨rfl,bM _ _⟩,bM _ _⟩ k;simp[execOp,ho,resolve,cZ,ha,invoke,builtin,ex,ey,Builtin.max_,Builtin.max2,fM]
  .cases k
 .cases k
theorem Vx(hu:P.underlying t=some (.slice el)) (ad:Option Addr) (n c:Nat) (op:BinOp) (eq:Bool) (he:JF op=some eq) (x y:Operand):
 (eqGuard op t x y (.slice ad n c) (.slice none 0 0)).run P w=.ok () w/\(binOp op t (.slice ad n c) (.slice none 0 0)).run P w=.ok (.bool (cnd eq ad.isNone (!ad.isNone))) w:=by
 refine⟨rW P op t x y (by rfl) w,?_⟩
 have key:∀d,(Op.equalIn (d+1) t (.slice ad n c) (.slice none 0 0)).run P w=.ok ad.isNone w:=by
  intro d;cases ad<;>simp[Op.equalIn,run_underlying hu]
 have k2:=key 9999;have hq2:Op.equal t (.slice ad n c) (.slice none 0 0)=Op.equalIn (9999+1) t (.slice ad n c) (.slice none 0 0):=rfl;unfold JF at he;split at he
 .cases he;have e:(binOp .eql t (.slice ad n c) (.slice none 0 0)).run P w=((Op.equal t (.slice ad n c) (.slice none 0 0)).run P w).andThen λb w=>.ok (.bool b) w:=by
   simp only[binOp];generalize Op.equal t (.slice ad n c) (.slice none 0 0)=q;simp
  rw[e,hq2,k2];rfl
 .cases he;have e:(binOp .neq t (.slice ad n c) (.slice none 0 0)).run P w=((Op.equal t (.slice ad n c) (.slice none 0 0)).run P w).andThen λb w=>.ok (.bool (!b)) w:=by
   simp only[binOp];generalize Op.equal t (.slice ad n c) (.slice none 0 0)=q;simp
  rw[e,hq2,k2];rfl
 .cases he
theorem PN(hc:bV P cx.ti) (aj:Sat N B h0 s h β w a) (hg:aI cx.gd h) (hd:lV N o.dst=true){t':TypeId}{x:Operand}{op:BinOp}{eq:Bool} (ho:o.op=.binOp op t x y t') (he:JF op=some eq)
 (hy:bT cx s [] y=some (.one (.c (.v (.slice none 0 0))))) (hx:bT cx s [] x=some (.one (.c z))) (hz:PG z=true) (ht:XW cx t=true) (k:PE s o.dst eq z K):BU P N B h0 h w a o true K:=by
 have tr:gv s.gl []=true:=rfl;obtain⟨el,hu⟩:∃el,P.underlying t=some (.slice el):=by
  unfold XW at ht;split at ht
  .rename_i el hde;exact⟨el,bI hc hde (by simp)⟩
  .cases ht
 have cy:=(aK aj hg tr hy:dD h β (.c (.v (.slice none 0 0))) (a.eval y));have ey:a.eval y=.slice none 0 0:=cy.1.1;have cz:=(aK aj hg tr hx:dD h β (.c z) (a.eval x));have exec:∀ad n c,a.eval x=.slice ad n c->(execOp a.eval o).run P w=.ok (.value (.bool (cnd eq ad.isNone (!ad.isNone)))) w:=by
  intro ad n c e;obtain⟨g1,g2⟩:=Vx (P:=P) (w:=w) hu ad n c op eq he x y;simp only[execOp,ho,Sem.run_bind,e,ey,g1,g2,Result.andThen_ok,Sem.run_pure]
 have fin:∀ad n c (b:Bool),a.eval x=.slice ad n c->K (s.put o.dst [] (vB (cnd eq ad.isNone (!ad.isNone))))->BU P N B h0 h w a o true K:=λad n c b e k=>
  oQ aj hd (e:=vB (cnd eq ad.isNone (!ad.isNone))) (exec ad n c e) ⟨⟨rfl,dA _⟩,dA _⟩ k
 unfold PE at k;split at k
 .rename_i v;unfold PG at hz;have ev:a.eval x=.slice none 0 0:=by
   simp only at hz;split at hz
   .exact cz.1.1
   .cases hz
  refine fin none 0 0 true ev ?_;cases eq<;>exact k
 .rename_i sh l;rcases cz.1 with⟨e,hl⟩ | ⟨ad,cap,e,hl,_⟩ | ⟨b,off,cap,e,_⟩
  .exact fin _ _ _ true e (k true λ_=>hl)
  .exact fin _ _ _ true e (k false λhh=>by cases hh)
  .exact fin _ _ _ true e (k false λhh=>by cases hh)
 .rename_i i;split at k
  .rename_i t2 sh l hT;have hβ:β[i]?=some (.row (a.eval x)):=aj.ok.row_of (bG hT tr) cz.1;rcases aj.ok.holds i _ _ (bG hT tr) hβ with⟨e,hl⟩ | ⟨ra,e,hl⟩ | ⟨g,cap,cur,e,_⟩
   .exact fin _ _ _ true e (k true λ_=>hl)
   .exact fin _ _ _ true e (k false λhh=>by cases hh)
   .exact fin _ _ _ true e (k false λhh=>by cases hh)
  .cases k
 .cases k
theorem X6{t' ty:TypeId}{i:TypeInfo}{z:Value} (ht:P.underlying t=some (.slice el)) (ht':P.underlying t'=some (.int .i64)) (hi:P.info? el=some i) (hz:i.zero=some z) (hs:1<=i.size) (n:Nat) (h0:0 < n) (h48:n * i.bytes<=140737488355328) (hb:1<=i.bytes):
 (Builtin.append_ #[t,t'] ty #[.slice none 0 0,.int .i64 n]).run P w =
  .ok (.slice (some ⟨w.heap.size,0,none⟩) n (grownCap w n 0 el)) (w.drew.alloc (.cells (Builtin.zeroCells z.cells n++Builtin.zeroCells z.cells (grownCap w n 0 el - n)) el)):=by
 have hn63:n<=140737488355328:=pI (A83 _ hb) h48;have hn:n≠0:=by omega
 have hw:IntKind.i64.wrap (n:Int)=n:=by simp[IntKind.wrap,IntKind.bits,IntKind.signed];omega
 have hneg:¬((n:Int) < 0):=by omega
 have h48i:¬((281474976710656:Int) < (n:Int) * (i.bytes:Int)):=by
  have:((n * i.bytes:Nat):Int)<=140737488355328:=by omega
  rw[Int.natCast_mul]at this;omega
 have h63':¬(9223372036854775807 < (n:Int)):=by omega
 have h48':¬(281474976710656 < Builtin.nextslicecap n 0 * i.bytes):=by rw[nextslicecap_zero h0];omega
 have hns:¬(n * i.size=0):=by
  intro hh;rcases Nat.mul_eq_zero.1 hh with h | h<;>omega
 have apC:¬(i.size=0):=by omega
 simp[Builtin.append_,run_underlying ht,run_underlying ht',sizeOf,typeInfo,zeroValue,hi,hz,Builtin.lenOf,hn,hw,hneg,h48i,h63',h48',Question.forced,run_firstCells_none,newRow,grownCap,asInt,asIntOf,hns,apC]
theorem Vy(hc:bV P cx.ti) (aj:Sat N B h0 s h β w a) (hg:aI cx.gd h) (hd:lV N o.dst=true){t':TypeId}{x:Operand} (ho:o.op=.call c) (cZ:c.callee=.builtin .append) (ha:c.args=#[x,y]) (ht:c.argTypes=#[t,t'])
 (hx:bT cx s [] x=some (.one (.c (.v (.slice none 0 0))))) (k:XY cx s o.dst t t' y K):BU P N B h0 h w a o true K:=by
 have tr:gv s.gl []=true:=rfl;unfold XY at k;split at k
 .rename_i hdi;have hui:=bI hc hdi (by simp)
  split at k
  .rename_i el hde;have hu:=bI hc hde (by simp)
   split at k
   .cases k
   rename_i ie hie;have tie:=hc.get hie;split at k
   .cases k
   rename_i sh hsh;split at k
   .rename_i hz;rw[aB,aB,bY,bY]at hz;have hz1:sh.size=ie.size:=iC hz.1;have hz2:1<=ie.bytes:=qo hz.2.1;have hz3:1<=ie.size:=qo hz.2.2;split at k
    .rename_i n hn;obtain⟨⟨hn0,hroom⟩,k⟩:=k;have ex:a.eval x=.slice none 0 0:=(aK aj hg tr hx:dD h β (.c (.v (.slice none 0 0))) (a.eval x)).1.1;have ey:a.eval y=.int .i64 n:=(aK aj hg tr hn:dD h β (.c (.v (.int .i64 n))) (a.eval y)).1.1;obtain⟨inf,z,i1,i2,i3,i4,i5⟩:=tie.info;obtain⟨m,rfl⟩:∃m:Nat,n=m:=⟨n.toNat,by omega⟩
     rw[W9]at hroom k;unfold oz at hroom;refine gJ.weak (lF (P:=P) aj (o:=o) (G:=[]) rfl hd (r:=.row el sh (List.replicate m (qO sh))) (e:=.one (.c (.row (aN s.T)))) (K:=K) k λ_=>?_)
     by_cases hm:m=0
     .subst hm;refine⟨.slice none 0 0,w,.row (.slice none 0 0),?_,dh _ _,λb hb=>by rw[aZ]at hb;simp[aA]at hb,.inl ⟨rfl,rfl⟩,⟨_,kL (lG aj) _,rfl⟩,rfl,rfl⟩
      simp[execOp,ho,resolve,cZ,ha,ht,invoke,builtin,ex,ey,Builtin.append_,run_underlying hu,run_underlying hui,sizeOf,typeInfo,i1,asInt,asIntOf,IntKind.wrap,IntKind.bits,IntKind.signed]
     .have r:=X6 (P:=P) (w:=w) (ty:=o.type) hu hui i1 i4 (by omega) m (by omega) (by rw[i3];exact hroom) (by omega)
      have hge:=grownCap_ge w m 0 el;have hle:m<=140737488355328:=pI (A83 _ hz2) hroom;refine⟨.slice (some ⟨w.heap.size,0,none⟩) m (grownCap w m 0 el),w.drew.alloc (.cells (Builtin.zeroCells z.cells m++Builtin.zeroCells z.cells (grownCap w m 0 el - m)) el),.row (.slice (some ⟨w.heap.size,0,none⟩) m (grownCap w m 0 el)),?_,⟨⟨rfl,rfl,rfl,by simp,λk hk _=>(World.grownBy_alloc w.drew _ none).block k hk (by simp)⟩,AA _⟩,?_,?_,⟨_,kL (lG aj) _,rfl⟩,rfl,rfl⟩
      .simp only[execOp,ho,resolve,cZ,ha,ht,invoke,builtin,Sem.run_bind,Sem.run_pure,Result.andThen_ok];simp[ex,ey,r]
      .intro b hb;rw[aZ]at hb;simp[aA]at hb;obtain⟨_,rfl⟩:=hb;simp
      .have XM:z.cells.size=ie.size:=by rw[i5];simpa using tie.pz
       have hzz:∀q,Builtin.zeroCells z.cells q=(iK q ie.zero).toArray:=by
        intro q;unfold Builtin.zeroCells;rw[i5];have:=qR (zero:=ie.zero) (n:=q) (by rw[tie.pz];omega)
        simpa using this
       refine .inr (.inr ⟨w.heap.size,_,_,by rw[Lj],heap_alloc_new w.drew _,by rw[Lj];omega,⟨by omega,grownCap_le_maxLen w m 0 el (by simp only[maxLen];omega)⟩,?_,?_⟩)
       .simp only[A88,size_zeroCells,XM,hz1,<-Lm];congr 1;omega
       .rw[Lj,hzz,hzz];simp only[A98,List.toList_toArray];rw[A86 (by rw[uH,tie.pz,hz1];exact o9 _),hz1,<-tie.pz,AZ (o9 _)]
        exact JA (yK (tie.Xw sh hsh).1) _
    .cases k
   .cases k
  .cases k
 .cases k
theorem Si{l:List Value}:∀{m j:Nat},j < m->((iK m l).drop (j * l.length)).take l.length=l
 | m+1,0,_=>by simp[iK,fU]
 | m+1,j+1,h=>by
   simp only[iK,fU];rw[xw,Xl,A80];exact Si (by omega)
theorem PO(hc:bV P cx.ti) (aj:Sat N B h0 s h β w a) (hg:aI cx.gd h) (hd:lV N o.dst=true){x:Operand} (ho:o.op=.makeSlice t x y){p:Prop}
 (hp:PK cx s o.dst t x y K=some p) (k:p):BU P N B h0 h w a o true K:=by
 have tr:gv s.gl []=true:=rfl;unfold PK at hp;split at hp
 .rename_i el hde;have hu:=bI hc hde (by simp)
  split at hp
  .cases hp
  rename_i ie hie;have tie:=hc.get hie;split at hp
  .rename_i e hsh;split at hp
   .rename_i tt hte;split at hp
    .rename_i hz;rw[aB,aB,bY,bY]at hz;have hz1:1=ie.size:=iC hz.1;have hz2:1<=ie.bytes:=qo hz.2.1;have hz3:ie.zero=[nH]:=Vu hz.2.2;split at hp
     .rename_i ik n hn;split at hp
      .rename_i ik' c hcp;cases hp;refine(lF (G:=[]) aj rfl hd k.2 λhgv=>?_).weak
       obtain⟨s1,s2,s3⟩:=k.1;have e1:a.eval x=.int ik n:=(aK aj hg hgv hn).1.1;have e2:a.eval y=.int ik' c:=(aK aj hg hgv hcp).1.1;obtain⟨inf,z,i1,i2,i3,i4,i5⟩:=tie.info;unfold oz at s3;have hcb:c.toNat<=140737488355328:=pI (A83 _ hz2) s3;have hb:(inf.bytes:Int) * c<=281474976710656:=by
        rw[i3];have:((c.toNat * ie.bytes:Nat):Int)<=140737488355328:=by omega
        rw[Int.natCast_mul,Int.toNat_of_nonneg (by omega),Int.mul_comm]at this
        omega
       have r:=run_make (P:=P) w t el inf z hu i1 i4 ik ik' n c s1 s2 hb (by omega)
       have XN:madeCells z.cells (c.toNat * inf.size)=(iK c.toNat ie.zero).toArray:=by
        unfold madeCells;rw[i5,i2,<-tie.pz];exact qR (by rw[tie.pz];omega)
       rw[XN]at r;have hbn:∀{b:Nat},¬aA nH=some b:=by intro b hb';simp[nH,aA]at hb'
       refine⟨.slice (some ⟨w.heap.size,0,none⟩) n.toNat c.toNat,w.alloc (.cells (iK c.toNat ie.zero).toArray el),.deep (.slice (some ⟨w.heap.size,0,none⟩) n.toNat c.toNat) (λ_=>nH),?_,oI _ _ _,?_,?_,?_⟩
       .simp only[execOp,ho,e1,e2,Sem.run_bind,r,Result.andThen_ok,Sem.run_pure]
       .intro b hb';rw[aV]at hb';rcases hb' with hb' | ⟨j,hb'⟩
        .simp[aA]at hb';obtain⟨_,rfl⟩:=hb';simp
        .exact absurd hb' hbn
       .refine⟨λj k b hb'=>absurd hb' hbn,λj b hb'=>absurd hb' hbn,?_⟩
        by_cases hc0:c.toNat=0
        .have hn0:n.toNat=0:=by omega
         exact .inr (.inl ⟨⟨w.heap.size,0,none⟩,by rw[hc0,hn0],by rw[hn0];rfl⟩)
        refine .inr (.inr ⟨w.heap.size,c.toNat,_,by rw[Lj],mY _ _,by rw[Lj];omega,⟨by omega,by simp only[maxLen];omega⟩,?_,λj=>hbn,λj dd hj=>?_⟩)
        .simp only[GL,uH,hz3];rfl
        .have hj':=(A8.1 hj).1;rw[Lj]at hj';have ed:dd=[]:=by
          have:=gZ hj;exact List.eq_of_mem_replicate this
         subst ed;have ecs:((iK c.toNat ie.zero).drop (j * 1)).take 1=[nH]:=by
          have:=Si (l:=ie.zero) (m:=c.toNat) (j:=j) (by omega)
          rw[hz3]at this ⊢;exact this
         show AB h _ (.sl e) tt e 0 true false nH (((iK c.toNat ie.zero).drop (j * 1)).take 1) [];rw[ecs];exact⟨[],[],⟨nH,rfl,.inl ⟨rfl,rfl⟩⟩,⟨rfl,rfl,rfl⟩,rfl,.inl ⟨rfl,rfl⟩⟩
       .exact⟨⟨_,kL (lG aj) _,rfl⟩,rfl,rfl⟩
      .cases hp
     .cases hp
    .cases hp
   .cases hp
  .cases hp
 .cases hp
theorem OK.X7(ok:OK B h0 T h β w) (v:RV):OK B h0 (T++[.gone]) h (β++[v]) w where
 below:=ok.below
 dr:=ok.dr
 len:=by simp[ok.len]
 holds:=by
  intro i r' v' e e';rcases aF e with⟨hi,e⟩ | ⟨hi,rfl⟩
  .rcases aF e' with⟨_,e'⟩ | ⟨hj,_⟩
   .exact(ok.holds i r' v' e e').move (FH.le.refl h) (Ext.append _ _) λhl b hb=>rfl
   .have:=ok.len;omega
  .cases v'<;>trivial
 own:=by
  intro i r' v' b e hl e' hb;rcases aF e with⟨hi,e⟩ | ⟨hi,rfl⟩
  .rcases aF e' with⟨_,e'⟩ | ⟨hj,_⟩
   .exact ok.own i r' v' b e hl e' hb
   .have:=ok.len;omega
  .cases hl
 inj:=by
  intro i j r1 r2 u v' b ei hl1 ej hl2 eu ev hu hv';have L:=ok.len;rcases aF ei with⟨hi,ei⟩ | ⟨hi,rfl⟩
  .rcases aF ej with⟨hj,ej⟩ | ⟨hj,rfl⟩
   .rcases aF eu with⟨_,eu⟩ | ⟨hi',_⟩
    .rcases aF ev with⟨_,ev⟩ | ⟨hj',_⟩
     .exact ok.inj i j r1 r2 u v' b ei hl1 ej hl2 eu ev hu hv'
     .omega
    .omega
   .cases hl2
  .cases hl1
 hle:=ok.hle
 hw:=ok.hw
 hg:=ok.hg
 kn:=ok.kn
theorem wQ{i:Nat}{z:SC}{g g':Gd×ak}:∀{T:List (Gd×ak)},dF (rY i z (snoc T g)) (aN T) g'=snoc (rY i z T) g'
 | []=>rfl
 | x :: T=>by
   show dF (_ :: rY i z (snoc T g)) (aN T+1) g'=_ :: snoc (rY i z T) g';show _ :: dF (rY i z (snoc T g)) (aN T) g'=_;rw[wQ]
theorem X8(hc:bV P cx.ti) (aj:Sat N B h0 s h β w a) (hg:aI cx.gd h) (hd:lV N o.dst=true){x m:Operand} (ho:o.op=.slice t x lo hi (some m))
 (k:aiV cx s o.dst t x lo hi m K):BU P N B h0 h w a o true K:=by
 have tr:gv s.gl []=true:=rfl;unfold aiV at k;split at k
 .rename_i el hde;have hu:=bI hc hde (by simp)
  split at k
  .cases k
  rename_i ie hie;have tie:=hc.get hie;split at k
  .cases k
  rename_i hlo;split at k
  .cases k
  rename_i hh;split at k
  .rename_i ik n hn;split at k
   .rename_i ik' n' hn';split at k
    .rename_i sh l hx;split at k
     .rename_i hz;have hz:ie.size=sh.size:=iC hz;obtain⟨⟨b1,b2,b3⟩,k⟩:=k;subst b3;have eh:a.eval hh=.int ik n:=(aK aj hg tr hn:dD h β (.c (.v (.int ik n))) (a.eval hh)).1.1;have em:a.eval m=.int ik' n:=(aK aj hg tr hn':dD h β (.c (.v (.int ik' n))) (a.eval m)).1.1;have Ib:=(aK aj hg tr hx:dD h β (.c (.sl sh l)) (a.eval x));have aiZ:lo.map a.eval=none\/∃k,lo.map a.eval=some (.int k 0):=by
       cases lo with
       | none=>exact .inl rfl
       | some z=>
         obtain⟨kz,rfl⟩:=yT (show G7 z=true from hlo)
         exact .inr ⟨kz,rfl⟩
      have run:∀(ad:Option Addr) (len cap:Nat),a.eval x=.slice ad len cap->n<=len->len<=cap->(execOp a.eval o).run P w=.ok (.value (.slice ad n.toNat n.toNat)) w:=by
       intro ad len cap ev h1 h2;have hb:(0:Int)<=n/\n<=cap:=by omega
       have apD:(Instr.sliceBounds true len cap (lo.map a.eval) (some (.int ik n)) (some (.int ik' n))).run P w=.ok (0,n.toNat,n.toNat) w:=by
        unfold Instr.sliceBounds;rcases aiZ with e | ⟨k,e⟩
        .rw[e];simp[Instr.sliceBound,asIntOf,hb];omega
        .rw[e];simp[Instr.sliceBound,asIntOf,hb];omega
       have r2:(Instr.sliceAt t (a.eval x) (lo.map a.eval) ((some hh).map a.eval) ((some m).map a.eval)).run P w=.ok (.slice ad n.toNat n.toNat) w:=by
        rw[ev];simp only[Instr.sliceAt,Instr.slice,Sem.run_bind,run_underlying hu,Result.andThen_ok,WQ,eh,em,apD,run_sizeOf tie,Sem.run_pure];cases ad<;>simp[Addr.add]
       simp only[execOp,ho,Sem.run_bind];rw[r2];rfl
      rcases Ib.1 with⟨ev,hl⟩ | ⟨ra,cap,ev,hl,hc'⟩ | ⟨b,off,cap,ev,q1,q2,cs,rd,at_⟩
      .have hn0:n.toNat=0:=by rw[hl]at b2;simp at b2;omega
       refine oQ aj hd (e:=.one (.c (.abs (.U6 sh (l.take n.toNat))))) (run none 0 0 ev (by rw[hl]at b2;simpa using b2) (o9 _)) ⟨⟨?_,none,_,rfl⟩,rfl,rfl⟩ k
       rw[hn0,hl];exact .inl ⟨rfl,rfl⟩
      .have hn0:n.toNat=0:=by rw[hl]at b2;simp at b2;omega
       refine oQ aj hd (e:=.one (.c (.abs (.U6 sh (l.take n.toNat))))) (run (some ra) 0 cap ev (by rw[hl]at b2;simpa using b2) (Ji _)) ⟨⟨?_,some ra,_,rfl⟩,rfl,rfl⟩ k
       rw[hn0,hl];exact .inr (.inl ⟨ra,0,rfl,rfl,Ji _⟩)
      .have hlen:(l.take n.toNat).length=n.toNat:=by rw[lu];omega
       refine oQ aj hd (e:=.one (.c (.abs (.U6 sh (l.take n.toNat))))) (run (some ⟨b,off,none⟩) l.length cap ev b2 q1) ⟨⟨.inr (.inr ⟨b,off,n.toNat,by rw[hlen],by rw[hlen];exact o9 _,by omega,cs.take (n.toNat * sh.size),?_,?_⟩),_,_,rfl⟩,rfl,rfl⟩ k
       .have:=gG.uy (λ_ _=>Rd.size sh) rd (a:=0) (b:=n.toNat) (Ji _) (by omega)
        simpa using this
       .have:=at_.shift (n.toNat * sh.size) 0;simpa using this
     .cases k
    .cases k
   .cases k
  .cases k
 .cases k
theorem EJ{ty:TypeId}{i:TI}{sh:Sh}{sv:Value}{l l2:List sh.den} (hu:P.underlying t=some (.slice el)) (k:aJ P el i) (hs:sh.size=i.size)
 (hb1:1<=i.bytes) (hs1:1<=i.size) (row:qH h (Rd h sh) v l/\∃a n,v=.slice a n n) (src:XL h w sh sv l2) (room:oz (l.length+l2.length) i.bytes)
 (hw:∀b o u,h b o=some u->vis w b o=some u):
 ∃v' w',(Builtin.append_ #[t,t] ty #[v,sv]).run P w=.ok v' w'/\((l2=[]/\v'=v/\w'=w)\/(Gb w w' none/\(∀b,aA v'=some b->w.heap.size<=b/\b < w'.heap.size)/\RF h w' el sh v' (l++l2))):=by
 obtain⟨inf,z,i1,i2,i3,i4,i5⟩:=k.info;unfold oz at room;obtain⟨row,va,vn,ve⟩:=row;have hn:l.length+l2.length<=140737488355328:=pI (A83 _ hb1) room;have XM:z.cells.size=i.size:=by rw[i5];simpa using k.pz
 rcases src with⟨rfl,rfl⟩ | ⟨sa,sc,rfl,rfl⟩ | ⟨b,o,c,cs,rfl,rd,at_⟩
 .refine⟨v,w,?_,.inl ⟨rfl,rfl,rfl⟩⟩;rcases row with⟨rfl,rfl⟩ | ⟨_,cp,rfl,rfl,_⟩ | ⟨g,off,cap,rfl,q1,q2,q3⟩
  .simp[Builtin.append_,run_underlying hu,sizeOf,typeInfo,i1,Builtin.lenOf,Builtin.firstCells]
  .simp[Builtin.append_,run_underlying hu,sizeOf,typeInfo,i1,Builtin.lenOf,Builtin.firstCells,storeCells]
  .simp[Builtin.append_,run_underlying hu,sizeOf,typeInfo,i1,Builtin.lenOf,Builtin.firstCells,q1,storeCells]
 .refine⟨v,w,?_,.inl ⟨rfl,rfl,rfl⟩⟩;rcases row with⟨rfl,rfl⟩ | ⟨_,cp,rfl,rfl,_⟩ | ⟨g,off,cap,rfl,q1,q2,q3⟩
  .simp[Builtin.append_,run_underlying hu,sizeOf,typeInfo,i1,Builtin.lenOf,Builtin.firstCells,loadCells,loadCellsFrom]
  .simp[Builtin.append_,run_underlying hu,sizeOf,typeInfo,i1,Builtin.lenOf,Builtin.firstCells,storeCells,loadCells,loadCellsFrom]
  .simp[Builtin.append_,run_underlying hu,sizeOf,typeInfo,i1,Builtin.lenOf,Builtin.firstCells,q1,storeCells,loadCells,loadCellsFrom]
 .have hcs:cs.length=l2.length * inf.size:=by rw[gG.size (λ_ _=>Rd.size sh) rd,i2,hs]
  have hnews:∀j u,cs[j]?=some u->w.cell? ((⟨b,o,none⟩:Addr).add j)=some u:=λj u e=>by rw[add_lit];exact at_ j u e
  by_cases hm:l2.length=0
  .have:l2=[]:=WH hm;subst this;refine⟨v,w,?_,.inl ⟨rfl,rfl,rfl⟩⟩;rcases row with⟨rfl,rfl⟩ | ⟨_,cp,rfl,rfl,_⟩ | ⟨g,off,cap,rfl,q1,q2,q3⟩
   .simp[Builtin.append_,run_underlying hu,sizeOf,typeInfo,i1,Builtin.lenOf,Builtin.firstCells,loadCells,loadCellsFrom]
   .simp[Builtin.append_,run_underlying hu,sizeOf,typeInfo,i1,Builtin.lenOf,Builtin.firstCells,storeCells,loadCells,loadCellsFrom]
   .simp[Builtin.append_,run_underlying hu,sizeOf,typeInfo,i1,Builtin.lenOf,Builtin.firstCells,q1,storeCells,loadCells,loadCellsFrom]
  .rcases row with⟨rfl,rfl⟩ | ⟨ra,cp,rfl,rfl,hcp⟩ | ⟨g,off,cap,rfl,q1,q2,c0,q3,q4⟩
   .have r:=run_append_nil (P:=P) w t ty el inf z hu i1 i4 ⟨b,o,none⟩ l2.length c cs hcs hnews (by omega) (by simp at hn;omega) (by rw[i3];simp at room;omega)
    have hge:=grownCap_ge w l2.length 0 el;refine⟨_,_,r,.inr ⟨⟨⟨rfl,rfl,rfl,by simp,λk hk _=>(World.grownBy_alloc w.drew _ none).block k hk (by simp)⟩,AA _⟩,?_,?_⟩⟩
    .intro b' hb';simp[aA]at hb';obtain⟨_,rfl⟩:=hb';simp
    .refine .inr (.inr ⟨w.heap.size,_,_,rfl,heap_alloc_new w.drew _,by simpa using hge,⟨by omega,grownCap_le_maxLen w l2.length 0 el (by simp only[maxLen];simp at hn;omega)⟩,?_,?_⟩)
     .simp only[A88,GL,size_zeroCells,XM,hcs,i2,hs,<-Lm]
      congr 1;omega
     .simp only[A98,UN];rw[show l2.length * sh.size=cs.length by rw[hcs,i2,hs],Xa]
      exact rd
   .have apE:cp=0:=by cases ve;rfl
    subst apE;have r:=run_append_grow (P:=P) w t ty el inf z hu i1 i4 ra 0 0 [] (by simp) (λj u e=>by simp at e) ⟨b,o,none⟩ l2.length c cs hcs hnews (by omega) (by simp at hn;omega) (growslice_fits (by omega) (by rw[i3];simpa using room))
    rw[D6]at r;have hge:=grownCap_ge w l2.length 0 el;refine⟨_,_,r,.inr ⟨⟨⟨rfl,rfl,rfl,by simp,λk hk _=>(World.grownBy_alloc w.drew _ none).block k hk (by simp)⟩,AA _⟩,?_,?_⟩⟩
    .intro b' hb';simp[aA]at hb';obtain⟨_,rfl⟩:=hb';simp
    .refine .inr (.inr ⟨w.heap.size,_,_,rfl,heap_alloc_new w.drew _,by simpa using hge,⟨by omega,grownCap_le_maxLen w l2.length 0 el (by simp only[maxLen];simp at hn;omega)⟩,?_,?_⟩)
     .simp only[A88,GL,size_zeroCells,XM,UN,hcs,i2,hs,D6,Lp,<-Lm]
      congr 1;omega
     .simp only[A98,UN];rw[show l2.length * sh.size=cs.length by rw[hcs,i2,hs],Xa]
      exact rd
   .have hcap:cap=l.length:=by injection ve with e1 e2 e3;omega
    subst hcap;have lsz:=gG.size (λ_ _=>Rd.size sh) q3
    have hol:c0.length=l.length * inf.size:=by rw[lsz,i2,hs]
    have holds:∀j u,c0[j]?=some u->w.cell? ((⟨g,off,none⟩:Addr).add j)=some u:=by
     intro j u e;rw[add_lit];exact D7 (hw _ _ _ (q4 j u e)) (gG.all (λ_ _=>Rd.one _) q3 u (gZ e)).2
    have r:=run_append_grow (P:=P) w t ty el inf z hu i1 i4 ⟨g,off,none⟩ l.length l.length _ hol holds ⟨b,o,none⟩ l2.length c cs hcs hnews (by omega) (by omega) (growslice_fits (by omega) (by rw[i3];exact room))
    have hge:=grownCap_ge w (l.length+l2.length) l.length el;refine⟨_,_,r,.inr ⟨⟨⟨rfl,rfl,rfl,by simp,λk hk _=>(World.grownBy_alloc w.drew _ none).block k hk (by simp)⟩,AA _⟩,?_,?_⟩⟩
    .intro b' hb';simp[aA]at hb';obtain⟨_,rfl⟩:=hb';simp
    .refine .inr (.inr ⟨w.heap.size,_,_,by rw[kH],heap_alloc_new w.drew _,by rw[kH];exact hge,⟨by omega,grownCap_le_maxLen w _ l.length el (by simp only[maxLen];omega)⟩,?_,?_⟩)
     .have aiK:c0.length=l.length * i.size:=by rw[<-hs];exact lsz
      simp only[A88,GL,size_zeroCells,XM,hcs,i2,hs,aiK,<-Lm]
      congr 1
      omega
     .simp only[A98,Au];rw[<-Au,show(l++l2).length * sh.size=(c0++cs).length by rw[kH,kH,Lm,hcs,lsz,i2,hs],Xa]
      exact q3.append rd
theorem MH(hc:bV P cx.ti) (aj:Sat N B h0 s h β w a) (hg:aI cx.gd h) (hd:lV N o.dst=true){x:Operand} (ho:o.op=.call c) (cZ:c.callee=.builtin .append) (ha:c.args=#[x,y]) (ht:c.argTypes=#[t,t])
 (k:JG cx s o.dst t x y K):BU P N B h0 h w a o true K:=by
 have tr:gv s.gl []=true:=rfl;unfold JG iP at k;split at k
 .rename_i el hde;have hu:=bI hc hde (by simp)
  split at k
  .cases k
  rename_i ie hie;have tie:=hc.get hie;split at k
  .cases k
  rename_i sh hsh;split at k
  .rename_i hz;rw[aB,aB,bY,bY]at hz;have hz1:sh.size=ie.size:=iC hz.1;have hz2:1<=ie.bytes:=qo hz.2.1;have hz3:1<=ie.size:=qo hz.2.2;split at k
   .rename_i fA l1 hx;split at k
    .rename_i l hl;obtain⟨e1,e2⟩:=oM hl;subst e1;simp only at e2;subst e2;split at k
     .rename_i v2 hv2;have c2:=aK aj hg tr hv2;split at k
      .rename_i l2 hl2;obtain⟨k1,k⟩:=k;have src:=Dh aj hl2 c2;have Ib:=(aK aj hg tr hx:dD h β (.c (.abs (.U6 fA l1))) (a.eval x));obtain⟨v',w',r1,r2⟩:=EJ (P:=P) (ty:=o.type) hu tie hz1 hz2 hz3 Ib.1 src k1 aj.ok.hw;have exec:(execOp a.eval o).run P w=.ok (.value v') w':=by
        have r1':=r1;simp[execOp,ho,resolve,cZ,ha,ht,invoke,builtin,r1']
       have hlen:aN s.T=β.length:=by rw[aj.ok.len,jh,bF]
       have gT:∀(r:ak),∀p∈snoc s.T (([]:Gd),r),vF s.gl.length p.1=true:=by
        intro r p hp;rw[iM,CX]at hp;rcases hp with hp | hp
        .exact aj.gT p hp
        .simp at hp;subst hp;rfl
       have fin:∀(r:ak) (h':FH) (s1:Sat N B h0 { s with T:=snoc s.T ([],r) } h (β++[.row v']) w' a),h.le h'->OK B h0 ((eff s.gl (snoc s.T ([],r))).set (aN s.T) .gone) h' (β++[.row v']) w'->qH h' (Rd h' fA) v' (l1++l2)->BU P N B h0 h w a o true K:=by
        intro r h' s1 le ok' sl;have fP:(eff s.gl (snoc s.T (([]:Gd),r)))[aN s.T]?=some r:=by
         rw[iU,hlen,aj.ok.len,OH (o9 _),Xk];rfl
        have bH:=s1.JJ (z:=.sl fA (l1++l2)) (i:=aN s.T) (u:=.row v') (v:=v') fP (by rw[hlen];simp) rfl le ok' sl
        rw[show dF (rY (aN s.T) (.sl fA (l1++l2)) (snoc s.T (([]:Gd),r))) (aN s.T) (([]:Gd),ak.gone)=snoc (rY (aN s.T) (.sl fA (l1++l2)) s.T) (([]:Gd),ak.gone) from wQ]at bH
        intro Nx Q next
        rw[if_pos rfl];exact kK exec (next _ _ _ _ _ k le (bH.put (dU hd) rfl (λ_=>⟨sl,sl.dH⟩) λhh=>by cases hh))
       rcases r2 with⟨e1,e2,e3⟩ | ⟨r2,r3,r4⟩
       .have hw':w=w':=e3.symm;subst hw';subst e2;subst e1;have ok:OK B h0 (eff s.gl (snoc s.T (([]:Gd),ak.gone))) h (β++[.row (a.eval x)]) w:=by rw[iU];exact aj.ok.X7 _
        have s1:=aj.mem ok (FH.le.refl h) (Ext.append _ _) (gT .gone);refine fin .gone h s1 (FH.le.refl h) ?_ (by rw[Rf];exact Ib.1.1)
        rw[ig]
        .exact ok
        .rw[iU,hlen,aj.ok.len,OH (o9 _),Xk];rfl
       .have ok:OK B h0 (eff s.gl (snoc s.T (([]:Gd),ak.row el fA (l1++l2)))) h (β++[.row v']) w':=by
         rw[iU];exact aj.ok.add r2 (λb hb=>r3 b (aZ.1 hb)) r4
        have s1:=aj.mem ok (FH.le.refl h) (Ext.append _ _) (gT _);have fP:(eff s.gl (snoc s.T (([]:Gd),ak.row el fA (l1++l2))))[aN s.T]?=some (.row el fA (l1++l2)):=by
         rw[iU,hlen,aj.ok.len,OH (o9 _),Xk];rfl
        obtain⟨h',le,ok',sl⟩:=ok.freeze fP (show(β++[.row v'])[aN s.T]?=some (.row v') by rw[hlen];simp)
        exact fin _ h' s1 le ok' sl
      .cases k
     .cases k
    .cases k
   .cases k
  .cases k
 .cases k
theorem adT(hc:bV P cx.ti) (aj:Sat N B h0 s h β w a) (hg:aI cx.gd h) (hd:lV N o.dst=true){ops:Array Oper}{p:Prop} (e:aiX cx s o K=some p) (k:p):BU P N B h0 h w a o (Region.wanted o (yielded ops a.tmps)) K:=by
 unfold aiX at e;split at e
 .cases e
 rename_i hgd;rw[show Region.wanted o (yielded ops a.tmps)=true by simp[Region.wanted,hgd]]
 split at e
 .rename_i t x lo hi mx ho;split at e
  .rename_i m;split at e
   .rename_i hm;cases e;exact X0 hc aj hg hd ho hm k
   .cases e;exact X8 hc aj hg hd ho k
  .split at e
   .rename_i i hx;cases e;exact PL hc aj hg hd ho hx k
   .rename_i hx;cases e;exact X3 hc aj hg hd ho hx k
   .cases e
 .rename_i op t x y t' ho;split at e
  .cases e
  .rename_i eq he;split at e
   .rename_i hy;split at e
    .rename_i z hx;split at e
     .rename_i hz;rw[aB,bY]at hz;cases e;exact PN hc aj hg hd ho he hy hx hz.1 hz.2 k
     .cases e
    .cases e
   .cases e
 .rename_i c ho;split at e
  .rename_i cZ;split at e
   .rename_i x y ha;split at e
    .rename_i t t' ht;split at e
     .rename_i hb;have hb:t=t':=iC hb;subst hb;split at e
      .cases e;exact MH hc aj hg hd ho cZ (iI ha) (iI ht) k
      .cases e
     .split at e
      .rename_i hx;cases e;exact Vy hc aj hg hd ho cZ (iI ha) (iI ht) hx k
      .cases e
    .cases e
   .cases e
  .rename_i cZ;split at e
   .rename_i x ha;split at e
    .rename_i t ht;cases e;exact X4 hc aj hg hd ho cZ (iI ha) (iI ht) k
    .cases e
   .cases e
  .rename_i cZ;split at e
   .rename_i x y ha;cases e;exact X5 aj hg hd ho cZ (iI ha) k
   .cases e
  .cases e
 .rename_i t ln cp ho;split at e
  .exact PO hc aj hg hd ho e k
  .cases e
 .rename_i t n ps ho;split at e
  .cases e
  .rename_i i r hr;cases e;obtain⟨h',le,aT⟩:=aj.GH (l:=i :: r);have:=tu hc aT (hg.mono le) (G:=[]) rfl hd ho k;exact BU.le le this.weak
 .cases e
end
end Go.l9
