/- Texts of this claim, part 2: EngK, EngL, EngM, EngN, EngW, EngS, EngR, EngT. Conditions: those of the given rows. -/
import Derived.Test.YtjhenjhcbcalpaaGreatDoorB1
import Derived.Still
set_option linter.unusedSimpArgs false
set_option linter.unusedVariables false
set_option maxRecDepth 1000000
set_option maxHeartbeats 8000000
namespace Go.mQ
open Go Go.RowKit
variable {w w':World}{P:Program}{o:Oper}{a:Act}{v:Value}{n r i:Nat}{h' h h0:FH}{β' β:List RV}{t el:TypeId}{y:Operand}{u:RV}{T:List au}{c:Call}{f:FuncId}{B:Base}{z:SC}{lo hi:Option Operand}
theorem nU.NJ(h:Gb w w' none):nU w w':=⟨h.size,λk hk=>h.block k hk (by simp)⟩
theorem nU.of_below(h:Below w.heap.size w w'):nU w w':=⟨h.size,h.block⟩
def quietly:Op->Bool
 | .store ..=>false
 | .call c=>match c.callee with
   | .builtin .len=>true
   | .builtin _=>false
   | .value (.tmp _)=>false
   | _=>true
 | _=>true
def gV(P:Program) (N:Nat) (B:Base) (h0 h:FH) (w:World) (a:Act) (o:Oper) (wanted:Bool) (K:St->Prop):Prop:=
 ∀(Nx:Act->World->Prop) (Q:Exit->Act->World->Prop),
   (∀s' h' β' w' v,K s'->h.le h'->(quietly o.op=true->nU w w')->Sat N B h0 s' h' β' w' (a.put o.dst v)->Nx (a.put o.dst v) w') ->
   if wanted=true then o.wp P a w Nx Q else Nx (a.put o.dst undef) w
theorem kR{Nx:Act->World->Prop}{Q:Exit->Act->World->Prop} (h:(execOp a.eval o).run P w=.ok (.value v) w') (k:Nx (a.put o.dst v) w'):o.wp P a w Nx Q:=by
 unfold Oper.wp;rw[h];exact k
theorem Y0{Nx:Act->World->Prop}{Q:Exit->Act->World->Prop} (h:(execOp a.eval o).run P w=.ok .skip w') (k:Nx (a.put o.dst undef) w'):o.wp P a w Nx Q:=by
 unfold Oper.wp;rw[h];exact k
abbrev mF(n:Nat):Option Nat->Bool
 | none=>true
 | some d=>Nat.ble (d+1) n
theorem dS{d:Option Nat} (h:mF n d=true):∀k,d=some k->k < n:=by
 intro k hk;subst hk;have:=qX h;omega
section
variable {cx:Cx}{P:Program}{N:Nat}{B:Base}{h0:FH}{s:St}{h:FH}{β:List RV}{w:World}{a:Act}{G:Gd}{o:Oper}{K:St->Prop}
theorem Js(hc:bQ P cx.ti) (aj:Sat N B h0 s h β w a) (hg:aK cx.gd h) (hG:xq s.gl.length G=true) (hd:mF N o.dst=true) (k:oD cx s G o λe=>K (s.put o.dst G e)):
 gV P N B h0 h w a o (gv s.gl G) K:=by
 intro Nx Q next
 obtain⟨e,k1,k2⟩:=FZ hc aj hg k;cases hgv:gv s.gl G with
 | true=>
   obtain⟨v,r,c⟩:=k2 hgv;rw[if_pos rfl];exact kR r (next _ _ _ _ _ k1 (FH.le.refl h) (λ_=>nU.refl w) (aj.put (dS hd) hG (λ_=>c) λhh=>by rw[hgv]at hh;cases hh))
 | false=>
   rw[if_neg (by simp)]
   exact next _ _ _ _ _ k1 (FH.le.refl h) (λ_=>nU.refl w) (aj.put (dS hd) hG (λhh=>by rw[hgv]at hh;cases hh) λ_=>rfl)
theorem cO(w:World) (r:Option Nat):Gb w w r:=⟨⟨rfl,rfl,rfl,qy _,λ_ _ _=>rfl⟩,qy _⟩
theorem lT(aj:Sat N B h0 s h β w a) (hG:xq s.gl.length G=true) (hd:mF N o.dst=true){r:au}{e:bg} (k:K ({ s with T:=snoc s.T (G,r) }.put o.dst G e))
 (run:gv s.gl G=true->∃v w' rv,(execOp a.eval o).run P w=.ok (.value v) w'/\Gb w w' none/\(∀b,rv.has b->w.heap.size<=b/\b < w'.heap.size) /\
  Holds h (β++[rv]) w' r rv/\kC h (β++[rv]) e v):
 gV P N B h0 h w a o (gv s.gl G) K:=by
 intro Nx Q next
 have gT:∀p∈snoc s.T (G,r),xq s.gl.length p.1=true:=by
  intro p hp;rw[iT,Et]at hp;rcases hp with hp | hp
  .exact aj.gT p hp
  .simp at hp;subst hp;exact hG
 cases hgv:gv s.gl G with
 | true=>
   obtain⟨v,w',rv,h1,h2,h3,h4,h5⟩:=run hgv;rw[if_pos rfl];refine kR h1 (next _ h (β++[rv]) _ _ k (FH.le.refl h) (λ_=>nU.NJ h2) ?_)
   have ok:OK B h0 (eff s.gl (snoc s.T (G,r))) h (β++[rv]) w':=by
    rw[iW,hgv];exact aj.ok.add h2 h3 h4
   exact(aj.mem ok (FH.le.refl h) (Ext.append _ _) gT).put (dS hd) hG (λ_=>h5) λhh=>by simp only at hh;rw[hgv]at hh;cases hh
 | false=>
   rw[if_neg (by simp)]
   refine next _ h (β++[.no]) _ _ k (FH.le.refl h) (λ_=>nU.refl w) ?_
   have ok:OK B h0 (eff s.gl (snoc s.T (G,r))) h (β++[.no]) w:=by
    rw[iW,hgv];exact aj.ok.add (cO w none) (λb hb=>(Qp hb).elim) trivial
   exact(aj.mem ok (FH.le.refl h) (Ext.append _ _) gT).put (dS hd) hG (λhh=>by simp only at hh;rw[hgv]at hh;cases hh) λ_=>rfl
theorem nK(aj:Sat N B h0 s h β w a){s':St} (k:K s') (hgv:gv s.gl G=true) (hq:quietly o.op=false)
 (run:(execOp a.eval o).run P w=.ok (.value v) w'\/((execOp a.eval o).run P w=.ok .skip w'/\v=undef)) (le:h.le h') (aT:Sat N B h0 s' h' β' w' (a.put o.dst v)):
 gV P N B h0 h w a o (gv s.gl G) K:=by
 intro Nx Q next
 rw[if_pos hgv];rcases run with run | ⟨run,rfl⟩
 .exact kR run (next _ _ _ _ _ k le (λhh=>by rw[hq]at hh;cases hh) aT)
 .exact Y0 run (next _ _ _ _ _ k le (λhh=>by rw[hq]at hh;cases hh) aT)
end
abbrev Qz:Sh->Bool
 | .arr _ _=>true
 | .pair a b=>match Qz a with
   | true=>true
   | false=>Qz b
 | _=>false
abbrev TQ(t:TypeId) (i:TI):au:=match i.iU with
 | some s=>match Qz s with
   | true=>.obj t s (sG s)
   | false=>.blk t (eY SC.v i.zero)
 | none=>.blk t (eY SC.v i.zero)
abbrev KE(cx:Cx) (s:St) (G:Gd) (d:Option Nat) (t:TypeId) (K:St->Prop):Prop:=match qG cx.ti t with
 | none=>False
 | some i=>K ({ s with T:=snoc s.T (G,TQ t i) }.put d G (.one (.c (.own (aP s.T) 0))))
abbrev QA(t:TypeId) (v:SV):Option au:=match v with
 | .dat sh d=>some (.obj t sh d)
 | v=>match oK v with
   | some xs=>some (.blk t xs)
   | none=>none
abbrev ae5(cx:Cx) (s:St) (G:Gd) (d:Option Nat) (t:TypeId) (x:Operand) (K:St->Prop):Prop:=match bM cx s G x with
 | some (.one v)=>match QA t v with
   | some r=>K ({ s with T:=snoc s.T (G,r) }.put d G (.one (.c (.own (aP s.T) 0))))
   | none=>False
 | _=>False
theorem nM(w:World) (o:Obj):(w.alloc o).heap[w.heap.size]?=some o:=heap_alloc_new w o
theorem WQ{v:SV}{r:au}{y:Value}{b:Nat} (e:QA t v=some r) (c:dA h β v y) (eb:Ext β β')
 (hw:w.heap[b]?=some (.cells y.cells t (0,0))):Holds h β' w r (.blk b):=by
 unfold QA at e;split at e
 .cases e;obtain⟨_,cs,rfl,rd⟩:=c;exact⟨cs,hw,rd⟩
 .split at e
  .rename_i xs hx;cases e;refine⟨y.cells.toList,by simpa using hw,(yV hx c).mono λ_ _ ⟨p,q⟩=>⟨p.mono (FH.le.refl h) eb,q⟩⟩
  .cases e
section
variable {cx:Cx}{P:Program}{N:Nat}{B:Base}{h0:FH}{s:St}{h:FH}{β:List RV}{w:World}{a:Act}{G:Gd}{o:Oper}{K:St->Prop}
theorem kS(hn:β.length=n) (v:RV):(β++[v])[n]?=some v:=by
 subst hn;simp
theorem lU(aj:Sat N B h0 s h β w a):β.length=aP s.T:=by
 rw[aj.ok.len,jm,bD]
theorem Ac{s:Sh}{cs:List Value}{d:s.den} (r:Rd (λ_ _=>none) s cs d):Rd h s cs d:=r.mono (λ_ _ _ e=>by cases e) s
theorem QB(hc:bQ P cx.ti) (aj:Sat N B h0 s h β w a) (hG:xq s.gl.length G=true) (hd:mF N o.dst=true) (ho:o.op=.alloc t) (k:KE cx s G o.dst t K):
 gV P N B h0 h w a o (gv s.gl G) K:=by
 unfold KE at k;split at k
 .cases k
 rename_i i hi;have ti:=hc.get hi;refine lT aj hG hd k λhgv=>?_
 obtain⟨z,hz1,hz2⟩:=wo ti w;refine⟨.pointer (some ⟨w.heap.size,0,none⟩),w.alloc (.cells z.cells t),.blk w.heap.size,?_,pq _ _ _,?_,?_,?_⟩
 .simp only[execOp,ho,Instr.alloc,newVar,newRow,Sem.run_bind,hz1,Result.andThen_ok,run_newObj,Sem.run_pure];rfl
 .intro b hb;rw[lQ]at hb;subst hb;simp
 .have hn:=nM w (.cells z.cells t);unfold TQ;split
  .rename_i sh hs;split
   .exact⟨i.zero,by rw[hn,hz2],Ac (ti.YM _ hs).1⟩
   .exact⟨i.zero,by rw[hn,hz2],iy ti.zone⟩
  .exact⟨i.zero,by rw[hn,hz2],iy ti.zone⟩
 .exact⟨⟨_,kS (lU aj) _,rfl⟩,iY _⟩
theorem Za(hc:bQ P cx.ti) (aj:Sat N B h0 s h β w a) (hg:aK cx.gd h) (hG:xq s.gl.length G=true) (hd:mF N o.dst=true){x:Operand} (ho:o.op=.box t x) (k:ae5 cx s G o.dst t x K):
 gV P N B h0 h w a o (gv s.gl G) K:=by
 unfold ae5 at k;split at k
 .rename_i v hv;split at k
  .rename_i r hr;refine lT aj hG hd k λhgv=>?_
   have hx:=aO aj hg hgv hv;refine⟨.pointer (some ⟨w.heap.size,0,none⟩),w.alloc (.cells (a.eval x).cells t),.blk w.heap.size,?_,pq _ _ _,?_,?_,?_⟩
   .simp only[execOp,ho,Instr.box,newVar,newRow,Sem.run_bind,Result.andThen_ok,run_newObj,Sem.run_pure];rfl
   .intro b hb;rw[lQ]at hb;subst hb;simp
   .exact WQ hr hx (Ext.append _ _) (nM _ _)
   .exact⟨⟨_,kS (lU aj) _,rfl⟩,iY _⟩
  .cases k
 .cases k
end
abbrev iO{α:Type}:Nat->List α->List α
 | 0,_=>[]
 | n+1,l=>eF l (iO n l)
abbrev nN(cx:Cx) (s:St) (G:Gd) (d:Option Nat) (t:TypeId) (n:Nat) (parts:List (Nat×Operand)) (K:St->Prop):Prop:=match descOf cx t with
 | .slice el=>match qG cx.ti el with
   | none=>False
   | some ie=>match ie.iU with
     | none=>False
     | some sh=>match yX cx s G parts with
       | none=>False
       | some ps=>match dD (Nat.ble (n * ie.size) 16777216) (Nat.ble 1 ie.size) with
         | false=>False
         | true=>match vZ (λj=>some (j * ie.size,ie.size)) (iO n (eY SC.v ie.zero)) ps with
           | none=>False
           | some xs=>match dD (Nat.beq sh.size ie.size) (Nat.beq (aP xs) (n * ie.size)) with
             | false=>False
             | true=>match takeN sh n xs with
               | some (l,[])=>K ({ s with T:=snoc s.T (G,.row el sh l) }.put d G (.one (.c (.row (aP s.T)))))
               | _=>False
 | _=>False
theorem F5{α β:Type} (f:α->β):∀(n:Nat) (l:List α),iO n (eY f l)=eY f (iO n l)
 | 0,_=>rfl
 | n+1,l=>by
   simp only[iO];rw[F5 f n l];simp[fV,Ew]
theorem Ad{α:Type}{x:α}{l:List α}:∀{n:Nat},x∈iO n l->x∈l
 | 0,h=>by simp[iO]at h
 | n+1,h=>by
   simp only[iO,fV,Et]at h;exact h.elim id Ad
theorem wB{α:Type}{l:List α}:∀{n:Nat},(iO n l).length=n * l.length
 | 0=>by simp[iO]
 | n+1=>by simp only[iO,fV,kZ,wB,yQ];omega
theorem NK{l:List Value}:∀{n j:Nat},j < n * l.length->(iO n l)[j]?=l[j % l.length]?
 | 0,j,h=>by omega
 | n+1,j,h=>by
   simp only[iO,fV];rw[yQ]at h
   by_cases hj:j < l.length
   .rw[XZ hj,Nat.mod_eq_of_lt hj]
   .rw[Qd (by omega),NK (by omega)]
    congr 1
    exact(Nat.mod_eq_sub_mod (by omega)).symm
theorem sK{zero:List Value} (hz:0 < zero.length):((Array.range (n * zero.length)).map (λi=>zero.toArray[i % zero.toArray.size]!))=(iO n zero).toArray:=by
 apply Array.ext';apply Ed;intro j;simp only[Array.toList_map,Array.toList_range,IJ]
 by_cases hj:j < n * zero.length
 .rw[Ec,List.getElem?_range hj,NK hj];have hm:j % zero.length < zero.length:=Nat.mod_lt _ hz;simp[hm]
 .rw[wY (by simp;omega),wY (by simp[wB];omega)]
section
variable {cx:Cx}{P:Program}{N:Nat}{B:Base}{h0:FH}{s:St}{h:FH}{β:List RV}{w:World}{a:Act}{G:Gd}{o:Oper}{K:St->Prop}
theorem vw(hc:bQ P cx.ti) (aj:Sat N B h0 s h β w a) (hg:aK cx.gd h) (hG:xq s.gl.length G=true) (hd:mF N o.dst=true){parts:Array (Nat×Operand)} (ho:o.op=.buildSlice t n parts)
 (k:nN cx s G o.dst t n (tl parts) K):gV P N B h0 h w a o (gv s.gl G) K:=by
 unfold nN at k;split at k
 .rename_i el hde;have hu:=bH hc hde (by simp)
  split at k
  .cases k
  rename_i ie hie;have tie:=hc.get hie;split at k
  .cases k
  rename_i sh hsh;split at k
  .cases k
  rename_i ps hps;split at k
  .cases k
  rename_i hsz;rw[aC,A8]at hsz;have hsz1:n * ie.size<=16777216:=qX hsz.1;have hsz2:1<=ie.size:=qX hsz.2;split at k
  .cases k
  rename_i xs hxs;split at k
  .cases k
  rename_i hlen;rw[aC,A8]at hlen;have hl1:sh.size=ie.size:=iE hlen.1;have hl2:xs.length=n * ie.size:=by have:=iE hlen.2;rwa [bD]at this
  split at k
  .rename_i l hl;refine lT aj hG hd k λhgv=>?_
   have htl:(parts.map λ(p:Nat×Operand)=>(p.1,a.eval p.2)).toList=(tl parts).map λp=>(p.1,a.eval p.2):=by cases parts;simp
   rw[F5]at hxs;obtain⟨zs,g1,g2⟩:=sH (sJ aj hg hgv hps) (iy λv hv=>tie.zone v (Ad hv)) hxs
   obtain⟨c1,c2,rfl,q1,q2,q3⟩:=FW hl g2;have hc2:c2=[]:=by cases c2 with | nil=>rfl | cons _ _=>exact q3.elim
   subst hc2;rw[Tj]at g1 g2;have hz0:0 < ie.zero.length:=by rw[tie.qo];omega
   obtain⟨z,hz1,hz2⟩:=wo tie w;have hc0:n * ie.size=0->(iO n ie.zero).toArray=#[]:=by
    intro h0;have:n=0:=by rcases Nat.mul_eq_zero.1 h0 with h0 | h0<;>omega
    subst this;simp[iO]
   have hc1:((Array.range (n * ie.size)).map (λi=>z.cells[i % z.cells.size]!))=(iO n ie.zero).toArray:=by
    rw[hz2,<-tie.qo];exact sK hz0
   refine⟨.slice (some ⟨w.heap.size,0,none⟩) n n,w.alloc (.cells c1.toArray el),.row (.slice (some ⟨w.heap.size,0,none⟩) n n),?_,pq _ _ _,?_,?_,?_⟩
   .have hbig:¬(n * ie.size > 2 ^ 24):=by omega
    by_cases h0:n * ie.size=0
    .have e0:=hc0 h0;rw[e0]at g1;simp only[execOp,ho,Instr.buildSlice,Sem.run_bind,run_underlying hu,Result.andThen_ok,run_sizeOf tie,hbig,Qo,Sem.run_ite,Sem.run_pure,h0,if_true];rw[htl];rw[show(Array.map (λx=>(#[]:Array Value)[x % (#[]:Array Value).size]!) (Array.range 0))=#[] from by simp]
     rw[g1];simp only[Sem.run_bind,newRow,run_newObj,Result.andThen_ok,Sem.run_pure];rfl
    .simp only[execOp,ho,Instr.buildSlice,Sem.run_bind,run_underlying hu,Result.andThen_ok,run_sizeOf tie,hbig,Qo,Sem.run_ite,Sem.run_pure,h0,hz1];rw[htl,hc1,g1];simp only[Sem.run_bind,newRow,run_newObj,Result.andThen_ok,Sem.run_pure];rfl
   .intro b hb;rw[aZ]at hb;simp[aB]at hb;obtain⟨_,rfl⟩:=hb;simp
   .by_cases hn0:n=0
    .exact .inr (.inl ⟨⟨w.heap.size,0,none⟩,by rw[hn0],XY (by rw[q1,hn0])⟩)
    refine .inr (.inr ⟨w.heap.size,n,c1.toArray,by rw[q1],nM _ _,by omega,⟨by omega,?_⟩,?_,?_⟩)
    .have:n<=n * ie.size:=A81 n (by omega)
     simp only[maxLen];omega
    .have e:=g2.length;rw[hl2]at e;simp only[IJ];rw[hl1];omega
    .have e:=g2.length;rw[hl2]at e;rw[q1,hl1,zF (by simp;omega)];exact q2
   .exact⟨⟨_,kS (lU aj) _,rfl⟩,rfl,rfl⟩
  .cases k
 .cases k
end
theorem jo(w:World) (g:Nat) (cs:Array Value):Gb w (w.setRow g cs) (some g):=
 ⟨⟨rfl,rfl,rfl,by simp,λk _ hk=>setRow_other w g k cs λe=>hk (by rw[e])⟩,qy _⟩
theorem fD{i:TI} (k:aN P t i){g o:Nat}{tt:TypeId}{cur:Array Value} (hg:w.heap[g]?=some (.cells cur tt (0,0)))
 (hs:v.cells.size=i.size) (hfit:o+i.size<=cur.size) (h1:∀u∈v.cells.toList,dH u):
 (Instr.storeAt t (.pointer (some ⟨g,o,none⟩)) v).run P w=.ok () (w.setRow g (cur.toList.take o++v.cells.toList++cur.toList.drop (o+i.size)).toArray):=by
 have:=run_storeCells_at P g o tt v.cells.toList 0 cur w hg (by simp;omega) (λu hu=>(h1 u hu).2)
 simp only[Wp,VR]at this;simp only[Instr.storeAt,Instr.sureAddr,Sem.run_bind,Sem.run_pure,Result.andThen_ok,storeVar,run_sizeOf k,hs,ne_eq,not_true_eq_false,Qo,Sem.run_ite];rw[<-hs];exact this
theorem aQ.one{xs:List SC}{ys:List Value} (a:aQ (λx y=>dW h β x y/\dH y) xs ys):∀u∈ys,dH u:=by
 induction xs generalizing ys with
 | nil=>cases ys with
   | nil=>intro u hu;simp at hu
   | cons _ _=>exact a.elim
 | cons x xs ih=>cases ys with
   | nil=>exact a.elim
   | cons y ys=>
     intro u hu;rcases mM.1 hu with rfl | hu
     .exact a.1.2
     .exact ih a.2 u hu
abbrev KF(cx:Cx) (s:St) (d:Option Nat) (t:TypeId) (p x:Operand) (K:St->Prop):Prop:=match qG cx.ti t with
 | none=>False
 | some i=>match bM cx s [] p with
   | some (.one (.c (.own r off)))=>match bM cx s [] x with
     | some (.one v)=>match eX s.T r with
       | some ([],.blk tt cs)=>match v with
         | .dat sh dd=>match dD (Nat.beq off 0) (dD (Nat.beq (aP cs) i.size) (Nat.beq sh.size i.size)) with
           | true=>K ({ s with T:=dB s.T r ([],.obj tt sh dd) }.put d [] (.one .und))
           | false=>False
         | v=>match oK v with
           | some xs=>match dD (Nat.beq (aP xs) i.size) (Nat.ble (off+i.size) (aP cs)) with
             | true=>K ({ s with T:=dB s.T r ([],.blk tt (WJ off xs cs)) }.put d [] (.one .und))
             | false=>False
           | none=>False
       | some ([],.obj tt sh d0)=>match zO sh d0 off i.size v with
         | some dd=>K ({ s with T:=dB s.T r ([],.obj tt sh dd) }.put d [] (.one .und))
         | none=>False
       | _=>False
     | _=>False
   | some (.one (.c (.kE r j sz off)))=>match bM cx s [] x with
     | some (.one v)=>match eX s.T r with
       | some ([],.row tt sh l)=>match dD (Nat.beq sz sh.size) (dD (Nat.beq off 0) (Nat.beq sh.size i.size)) with
         | true=>match toDat sh v with
           | some dd=>(j < l.length)/\K ({ s with T:=dB s.T r ([],.row tt sh (l.set j dd)) }.put d [] (.one .und))
           | none=>False
         | false=>match Nat.beq sz sh.size with
           | true=>(j < l.length)/\∀e:sh.den,l[j]?=some e->match zO sh e off i.size v with
             | some dd=>K ({ s with T:=dB s.T r ([],.row tt sh (l.set j dd)) }.put d [] (.one .und))
             | none=>False
           | false=>False
       | some ([],.obj tt sh d0)=>match Cj sh d0 off j sz i.size v with
         | some p=>(j < p.1)/\K ({ s with T:=dB s.T r ([],.obj tt sh p.2) }.put d [] (.one .und))
         | none=>False
       | _=>False
     | _=>False
   | _=>False
section
variable {cx:Cx}{P:Program}{N:Nat}{B:Base}{h0:FH}{s:St}{h:FH}{β:List RV}{w:World}{a:Act}{o:Oper}{K:St->Prop}
theorem yY{s:St}{x:au}:eff s.gl (dB s.T r ([],x))=(eff s.gl s.T).set r x:=by rw[fZ]
theorem ru(aj:Sat N B h0 s h β w a){x:au}:∀p∈dB s.T r ([],x),xq s.gl.length p.1=true:=by
 intro p hp;rw[gU]at hp;rcases Ko hp with hp | hp
 .exact aj.gT p hp
 .subst hp;rfl
theorem sN(aj:Sat N B h0 s h β w a) (hq:quietly o.op=false) (hd:mF N o.dst=true){g:Nat}{x x':au} (hT:eX s.T r=some ([],x)) (hl:x.live=true) (hu:β[r]?=some u) (hub:u.block=some g){cs:Array Value}
 (hold:Holds h β (w.setRow g cs) x' u) (run:(execOp a.eval o).run P w=.ok .skip (w.setRow g cs)) (k:K ({ s with T:=dB s.T r ([],x') }.put o.dst [] (.one .und))):
 gV P N B h0 h w a o (gv s.gl []) K:=by
 have gu:=bF hT (show gv s.gl []=true from rfl)
 have ok:OK B h0 (eff s.gl (dB s.T r ([],x'))) h β (w.setRow g cs):=by
  rw[yY];have:=aj.ok.upd (r':=x') (v:=u) gu hl hu (row:=some g) (jo w g cs) (λk e=>by cases e;exact .inl hub) (λb hb=>.inl hb) (.inl rfl) (by rw[iw hu];exact hold)
  rwa [iw hu]at this
 refine nK aj k rfl hq (.inr ⟨run,rfl⟩) (FH.le.refl h) ((aj.mem ok (FH.le.refl h) (Ext.refl β) (ru aj)).put (dS hd) rfl (λ_=>rfl) λhh=>by cases hh)
theorem QC(hc:bQ P cx.ti) (aj:Sat N B h0 s h β w a) (hg:aK cx.gd h) (hd:mF N o.dst=true){p x:Operand} (ho:o.op=.store t p x) (k:KF cx s o.dst t p x K):
 gV P N B h0 h w a o (gv s.gl []) K:=by
 have tr:gv s.gl []=true:=rfl;unfold KF at k;split at k
 .cases k
 rename_i i hi;have ti:=hc.get hi;have exec:∀{w':World}{v pv:Value},a.eval x=v->a.eval p=pv->(Instr.storeAt t pv v).run P w=.ok () w'->(execOp a.eval o).run P w=.ok .skip w':=by
  intro w' v pv e1 e2 r;simp only[execOp,ho,e1,e2,Sem.run_bind,r,Result.andThen_ok,Sem.run_pure]
 split at k
 .rename_i r off hp;obtain⟨⟨b,hb,ep⟩,_⟩:=aO aj hg tr hp;split at k
  .rename_i v hv;have cv:=aO aj hg tr hv;split at k
   .rename_i tt cs hT;obtain⟨ys,he,hall⟩:=aj.ok.holds r _ _ (bF hT tr) hb;have hlen:=hall.length;split at k
    .rename_i sh dd;split at k
     .rename_i hz;rw[aC,aC,A8,A8]at hz;have hz1:off=0:=iE hz.1;have hz2:cs.length=i.size:=by have:=iE hz.2.1;rwa [bD]at this
      have hz3:sh.size=i.size:=iE hz.2.2;subst hz1;obtain⟨_,cs',ev,rd⟩:=cv;have hsz:=Rd.size sh rd;have r1:=fD (o:=0) (v:=a.eval x) ti he (by rw[ev];simp[Value.cells];omega) (by simp;omega) (by rw[ev];intro u hu;exact Rd.one sh rd u (by simpa[Value.cells]using hu))
      refine sN aj (by rw[ho];rfl) hd hT rfl hb rfl ?_ (exec rfl ep r1) k
      refine⟨_,setRow_heap w b _ _ tt (0,0) he,?_⟩;simp only[Wh,Yc,Iy];rw[VQ (by first | omega | (simp;omega)),Tj,ev]
      exact rd
     .cases k
    .split at k
     .rename_i xs hxs;split at k
      .rename_i hz;rw[aC,A8]at hz;have hz1:xs.length=i.size:=by have:=iE hz.1;rwa [bD]at this
       have hz2:off+i.size<=cs.length:=by have:=qX hz.2;rwa [bD]at this
       have hall':=yV hxs cv;have hl':=hall'.length;simp only[VR]at hl';have r1:=fD (o:=off) (v:=a.eval x) ti he (by omega) (by simp;omega) hall'.one
       refine sN aj (by rw[ho];rfl) hd hT rfl hb rfl ?_ (exec rfl ep r1) k
       refine⟨_,setRow_heap w b _ _ tt (0,0) he,?_⟩;unfold WJ;rw[fV,fV,jS,rX,bD,hz1];simp only[];rw[DJ];exact(hall.take off).cat (hall'.cat (hall.drop _))
      .cases k
     .cases k
   .rename_i tt sh d0 hT;obtain⟨ys,he,rd0⟩:=aj.ok.holds r _ _ (bF hT tr) hb;split at k
    .rename_i dd hdd;obtain⟨cs',ec,e2,e3,e4,e5⟩:=oL sh hdd rd0 cv;have r1:=fD (o:=off) (v:=a.eval x) ti he (by rw[ec];simp;omega) (by simp;omega) (by rw[ec];intro u hu;exact e3 u (by simpa using hu))
     refine sN aj (by rw[ho];rfl) hd hT rfl hb rfl ?_ (exec rfl ep r1) k
     refine⟨_,setRow_heap w b _ _ tt (0,0) he,?_⟩;rw[ec];exact e5
    .cases k
   .cases k
  .cases k
 .rename_i r j sz off hp;obtain⟨⟨v0,g,hb,hgb,ep⟩,_⟩:=aO aj hg tr hp;split at k
  .rename_i v hv;have cv:=aO aj hg tr hv;split at k
   .rename_i tt sh l hT
    -- a store of k cells at a place of the j-th element
    have part:∀{e dd:sh.den},sz=sh.size->l[j]?=some e->(∀{cs:List Value},Rd h sh cs e->Upd h sh cs off i.size (a.eval x) dd) ->
     K ({ s with T:=dB s.T r ([],.row tt sh (l.set j dd)) }.put o.dst [] (.one .und))->gV P N B h0 h w a o (gv s.gl []) K:=by
     intro e dd hz1 hej hu k;have hj:=(eU.1 hej).1;have hold:=aj.ok.holds r _ _ (bF hT tr) hb
     match v0,hold with
     | .row vv,hold=>
       rcases hold with⟨hv0,_⟩ | ⟨_,hv0,_⟩ | ⟨g',cap,cur,hv0,he,q2,q3,q4,q5⟩
       .subst hv0;simp[RV.block,aB]at hgb
       .subst hv0;simp[RV.block,aB]at hgb
       .have hgg:g'=g:=by rw[hv0]at hgb;exact MX ((rV q3.1).symm.trans hgb)
        subst hgg;have hm:(j+1) * sh.size<=l.length * sh.size:=zD _ hj;have hm2:l.length * sh.size<=cap * sh.size:=zD _ q2;rw[yQ]at hm;obtain⟨g1,g2⟩:=q5.get (λ_ _=>Rd.size sh) hej
        have gl:=Rd.size sh g1;obtain⟨cs',ec,e2,e3,e4,e5⟩:=hu g1;rw[gl]at e4;have r1:=fD (o:=j * sz+off) (v:=a.eval x) ti he (by rw[ec];simp;omega) (by rw[hz1];omega) (by rw[ec];intro u hu;exact e3 u (by simpa using hu))
        refine sN aj (by rw[ho];rfl) hd hT rfl hb hgb ?_ (exec rfl ep r1) k
        rw[ec,hz1];refine .inr (.inr ⟨g',cap,_,by rw[hv0,yg],setRow_heap w g' _ _ tt (0,0) he,by rw[yg];exact q2,q3,?_,?_⟩)
        .simp only[IJ,kZ,mD,zH,VR];omega
        .rw[yg];show gQ (Rd h sh) ((List.take (j * sh.size+off) cur.toList++cs'++List.drop (j * sh.size+off+i.size) cur.toList).take (l.length * sh.size)) (l.set j dd);have e:=gQ.set (λ_ _=>Rd.size sh) q5 hj e5
         have lc:cur.toList.length=cap * sh.size:=by simpa using q4
         have key:(List.take (j * sh.size+off) cur.toList++cs'++List.drop (j * sh.size+off+i.size) cur.toList).take (l.length * sh.size) =
          List.take (j * sh.size) (List.take (l.length * sh.size) cur.toList)++(List.take off (List.take sh.size (List.drop (j * sh.size) (List.take (l.length * sh.size) cur.toList)))++cs'++List.drop (off+i.size) (List.take sh.size (List.drop (j * sh.size) (List.take (l.length * sh.size) cur.toList))))++List.drop (j * sh.size+sh.size) (List.take (l.length * sh.size) cur.toList):=by
          apply Ed;intro p;simp only[A94,wZ,MW,kZ,mD,zH,lc,e2]
          repeat' split
          all_goals first | rfl | omega | (congr 1;omega) | (rw[wY (by omega)]) | (exfalso;omega) | skip
         rw[key];exact e
    split at k
    .rename_i hz;rw[aC,aC,A8,A8]at hz;have hz1:sz=sh.size:=iE hz.1;have hz2:off=0:=iE hz.2.1;have hz3:sh.size=i.size:=iE hz.2.2;split at k
     .rename_i dd hdd;obtain⟨hj,k⟩:=k;refine part hz1 (kP hj) (λhr=>?_) k
      subst hz2;exact Ci hz3 hdd hr cv
     .cases k
    .split at k
     .rename_i hz;have hz1:sz=sh.size:=iE hz;obtain⟨hj,k⟩:=k;have k:=k _ (kP hj);split at k
      .rename_i dd hdd;exact part hz1 (kP hj) (λhr=>oL sh hdd hr cv) k
      .cases k
     .cases k
   .rename_i tt sh d0 hT;split at k
    .rename_i p hp0;obtain⟨hj,k⟩:=k;have hold:=aj.ok.holds r _ _ (bF hT tr) hb
     match v0,hold with
     | .blk b,⟨ys,he,rd0⟩=>
       have hgg:b=g:=by simpa[RV.block]using hgb
       subst hgg;obtain⟨cs',ec,e2,e3,e4,e5⟩:=Kw sh hp0 rd0 cv hj;have r1:=fD (o:=j * sz+off) (v:=a.eval x) ti he (by rw[ec];simp;omega) (by simp;omega) (by rw[ec];intro u hu;exact e3 u (by simpa using hu))
       refine sN aj (by rw[ho];rfl) hd hT rfl hb hgb ?_ (exec rfl ep r1) k
       refine⟨_,setRow_heap w b _ _ tt (0,0) he,?_⟩;rw[ec];exact e5
    .cases k
   .cases k
  .cases k
 .cases k
end
def oN(n bytes:Nat):Prop:=n * bytes<=140737488355328
abbrev EC(i:Nat) (x:SC):SC:=match SC.free i x with
 | true=>x
 | false=>.junk
abbrev jkV(i:Nat):SV->SV
 | .c x=>.c (EC i x)
 | .agg xs=>.agg (eY (EC i) xs)
 | v=>v
abbrev jkE(i:Nat):bg->bg
 | .one v=>.one (jkV i v)
 | .iR vs=>.iR (eY (jkV i) vs)
abbrev jkR(i:Nat):au->au
 | .blk t cs=>.blk t (eY (EC i) cs)
 | r=>r
abbrev vC(i:Nat):List (Nat×Gd×bg)->List (Nat×Gd×bg)
 | []=>[]
 | (k,g,e) :: l=>(k,g,jkE i e) :: vC i l
abbrev NM(i:Nat):List (Gd×au)->List (Gd×au)
 | []=>[]
 | (g,r) :: l=>(g,jkR i r) :: NM i l
theorem dW.jk{x:SC}{y:Value} (v:RV) (c:dW h β x y):dW h (β.set i v) (EC i x) y:=by
 unfold EC;split
 .rename_i hf;exact c.set hf
 .trivial
theorem dW.jk0{x:SC}{y:Value} (c:dW h β x y):dW h β (EC i x) y:=by
 unfold EC;split
 .exact c
 .trivial
theorem aQ.jk{h:FH}{β:List RV}{i:Nat} (v:RV):∀{xs:List SC}{ys:List Value},aQ (λx y=>dW h β x y/\dH y) xs ys->aQ (λx y=>dW h (β.set i v) x y/\dH y) (eY (EC i) xs) ys
 | [],[],_=>trivial
 | _ :: _,_ :: _,⟨a,b⟩=>⟨⟨a.1.jk v,a.2⟩,aQ.jk v b⟩
theorem aQ.jk0{h:FH}{β:List RV}{i:Nat}:∀{xs:List SC}{ys:List Value},aQ (λx y=>dW h β x y/\dH y) xs ys->aQ (λx y=>dW h β x y/\dH y) (eY (EC i) xs) ys
 | [],[],_=>trivial
 | _ :: _,_ :: _,⟨a,b⟩=>⟨⟨a.1.jk0,a.2⟩,aQ.jk0 b⟩
theorem dA.jk{h:FH}{β:List RV}{i:Nat} (v:RV):∀{x:SV}{y:Value},dA h β x y->dA h (β.set i v) (jkV i x) y
 | .c _,_,c=>⟨c.1.jk v,c.2⟩
 | .agg _,_,⟨ys,e,a⟩=>⟨ys,e,a.jk v⟩
 | .dat _ _,_,c=>c
 | .und,_,c=>c
theorem kC.jk{h:FH}{β:List RV}{i:Nat} (v:RV):∀{x:bg}{y:Value},kC h β x y->kC h (β.set i v) (jkE i x) y
 | .one _,_,c=>dA.jk v c
 | .iR _,_,⟨ys,e,a⟩=>⟨ys,e,go a⟩
where
 go:∀{xs:List SV}{ys:List Value},aQ (dA h β) xs ys->aQ (dA h (β.set i v)) (eY (jkV i) xs) ys
  | [],[],_=>trivial
  | _ :: _,_ :: _,⟨a,b⟩=>⟨a.jk v,go b⟩
theorem Holds.jk0{h:FH}{β:List RV}{w:World}{i:Nat}:∀{r:au}{v:RV},Holds h β w r v->Holds h β w (jkR i r) v
 | .blk _ _,.blk _,⟨ys,e,a⟩=>⟨ys,e,a.jk0⟩
 | .row _ _ _,.row _,e=>e
 | .obj _ _ _,.blk _,e=>e
 | .deep _ _ _ _ _ _ _ _,.deep _ _,e=>e
 | .mp _ _ _,.row _,e=>e
 | .P5 _ _ _ _,.deep _ _,e=>e
 | .it _ _ _ _,.blk _,e=>e
 | .Nl _ _ _ _,.row _,e=>e
 | .Jl _ _ _ _,.deep _ _,e=>e
 | .gone,_,_=>trivial
theorem Zb(i:Nat) (x:SC):SC.free i (EC i x)=true:=by
 unfold EC;split
 .assumption
 .rfl
theorem F6(i:Nat):∀xs:List SC,xg i (eY (EC i) xs)=true
 | []=>rfl
 | x :: l=>by simp only[eY,xg,Zb,F6 i l,Bool.and_self]
theorem NP(i:Nat) (r:au):au.free i (jkR i r)=true:=by
 cases r with
 | blk t cs=>exact F6 i cs
 | _=>rfl
theorem wC(i:Nat) (r:au):(jkR i r).live=r.live:=by cases r<;>rfl
theorem F7(i:Nat):∀{l:List (Nat×Gd×bg)}{t:Nat}{G:Gd}{e:bg},iK (vC i l) t=some (G,e)->∃e0,iK l t=some (G,e0)/\e=jkE i e0
 | [],_,_,_,h=>by simp[vC,iK]at h
 | (k,g,e0) :: l,t,G,e,h=>by
   simp only[vC]at h;rw[aY]at h ⊢
   split at h
   .rename_i hk;cases h;exact⟨e0,by rw[if_pos hk],rfl⟩
   .rename_i hk;rw[if_neg hk];exact F7 i h
theorem KG(i:Nat):∀{l:List (Nat×Gd×bg)}{t:Nat}{G:Gd}{e:bg},iK l t=some (G,e)->iK (vC i l) t=some (G,jkE i e)
 | [],_,_,_,h=>by simp[iK]at h
 | (k,g,e0) :: l,t,G,e,h=>by
   simp only[vC];rw[aY]at h ⊢
   split at h
   .rename_i hk;cases h;rw[if_pos hk]
   .rename_i hk;rw[if_neg hk];exact KG i h
theorem QD(gl:List Bool) (i:Nat):∀{T:List (Gd×au)},eff gl (NM i T)=(eff gl T).map (jkR i)
 | []=>rfl
 | (g,r) :: l=>by
   simp only[NM,eff,VT,QD gl i (T:=l)]
   congr 1
   cases gv gl g<;>rfl
section
variable {cx:Cx}{P:Program}{N:Nat}{B:Base}{h0:FH}{s:St}{h:FH}{β:List RV}{w:World}{a:Act}{o:Oper}{K:St->Prop}
theorem OK.jk(ok:OK B h0 T h β w) (i:Nat):OK B h0 (T.map (jkR i)) h β w where
 below:=ok.below
 dr:=ok.dr
 len:=by simp[ok.len]
 holds:=by
  intro j r v e e';rw[Ec]at e;cases hj:T[j]? with
  | none=>rw[hj]at e;cases e
  | some r0=>rw[hj]at e;cases e;exact(ok.holds j r0 v hj e').jk0
 own:=by
  intro j r v b e hl e' hb;rw[Ec]at e;cases hj:T[j]? with
  | none=>rw[hj]at e;cases e
  | some r0=>rw[hj]at e;cases e;exact ok.own j r0 v b hj (by rw[<-wC i];exact hl) e' hb
 inj:=by
  intro j k r1 r2 u v b e1 l1 e2 l2 e3 e4 b1 b2;rw[Ec]at e1 e2;cases hj:T[j]? with
  | none=>rw[hj]at e1;cases e1
  | some q1=>
    cases hk:T[k]? with
    | none=>rw[hk]at e2;cases e2
    | some q2=>
      rw[hj]at e1;rw[hk]at e2;cases e1;cases e2;exact ok.inj j k q1 q2 u v b hj (by rw[<-wC i];exact l1) hk (by rw[<-wC i];exact l2) e3 e4 b1 b2
 hle:=ok.hle
 hw:=ok.hw
 hg:=ok.hg
 kn:=ok.kn
theorem WR(aj:Sat N B h0 s h β w a) (hq:quietly o.op=false) (hd:mF N o.dst=true){x x':au}{v:RV} (hT:eX s.T r=some ([],x)) (hl:x.live=true) (hu:β[r]?=some u){y:Value}
 (hg:Gb w w' u.block) (hv:∀b,v.block=some b->u.block=some b\/(w.heap.size<=b/\b < w'.heap.size)) (hvs:∀b,¬v.sub b:=by exact λ_ h=>h) (hold:Holds h (β.set r v) w' x' v)
 (run:(execOp a.eval o).run P w=.ok (.value y) w'){e:bg} (he:kC h (β.set r v) e y)
 (k:K ({ s with T:=dB (NM r s.T) r ([],x'),env:=vC r s.env }.put o.dst [] e)):
 gV P N B h0 h w a o (gv s.gl []) K:=by
 have tr:gv s.gl []=true:=rfl;have gu:=bF hT tr;have okj:=aj.ok.jk r;have hTj:((eff s.gl s.T).map (jkR r))[r]?=some (jkR r x):=by rw[Ec,gu];rfl
 have ok:OK B h0 (eff s.gl (dB (NM r s.T) r ([],x'))) h (β.set r v) w':=by
  rw[fZ,QD];refine okj.upd hTj (by rw[wC];exact hl) hu hg (λk e=>.inl e) (λb hb=>hb.elim (λq=>(hv b q).imp .inl id) λq=>(hvs b q).elim) (.inr λj rj _ ej=>?_) hold
  rw[Ec]at ej;cases hj:(eff s.gl s.T)[j]? with
  | none=>rw[hj]at ej;cases ej
  | some q=>rw[hj]at ej;cases ej;exact NP r q
 have aT:Sat N B h0 { s with T:=dB (NM r s.T) r ([],x'),env:=vC r s.env } h (β.set r v) w' a:=by
  refine⟨ok,?_,?_,aj.defers,aj.sz,?_,?_⟩
  .intro t G e ht;obtain⟨e0,h1,rfl⟩:=F7 r ht;obtain⟨z,q1,q2,q3⟩:=aj.env t G e0 h1;exact⟨z,q1,λhG=>(q2 hG).jk v,q3⟩
  .intro d i hi;obtain⟨G,b,q1,q2⟩:=aj.gs d i hi;exact⟨G,b,KG r q1,q2⟩
  .intro t G e ht;obtain⟨e0,h1,rfl⟩:=F7 r ht;exact aj.gb t G e0 h1
  .intro p hp;simp only at hp;rw[gU]at hp;rcases Ko hp with hp | hp
   .have:∀{l:List (Gd×au)},p∈NM r l->∃q∈l,q.1=p.1:=by
     intro l
     induction l with
     | nil=>intro hh;simp[NM]at hh
     | cons q l ih=>
       obtain⟨g,q⟩:=q;intro hh;simp only[NM,mM]at hh;rcases hh with rfl | hh
       .exact⟨(g,q),by simp,rfl⟩
       .obtain⟨q',h1,h2⟩:=ih hh;exact⟨q',by simp[h1],h2⟩
    obtain⟨q,h1,h2⟩:=this hp;rw[<-h2];exact aj.gT q h1
   .subst hp;rfl
 exact nK aj k tr hq (.inl run) (FH.le.refl h) (aT.put (dS hd) rfl (λ_=>he) λhh=>by cases hh)
end
def Zc(h:FH) (w:World) (sh:Sh) (v:Value) (l:List sh.den):Prop:=
 (v=.slice none 0 0/\l=[])\/(∃a c,v=.slice (some a) 0 c/\l=[])\/∃b o c cs,v=.slice (some ⟨b,o,none⟩) l.length c/\gQ (Rd h sh) cs l/\∀j u,cs[j]?=some u->w.cell? ⟨b,o+j,none⟩=some u
def TR(h:FH) (w:World) (t:TypeId) (sh:Sh) (v:Value) (l:List sh.den):Prop:=Holds h [] w (.row t sh l) (.row v)
theorem wE{ty:TypeId}{i:TI}{sh:Sh}{sv:Value}{l l2:List sh.den} (hu:P.underlying t=some (.slice el)) (k:aN P el i) (hs:sh.size=i.size)
 (hb1:1<=i.bytes) (hs1:1<=i.size) (row:TR h w el sh v l) (src:Zc h w sh sv l2) (room:oN (l.length+l2.length) i.bytes)
 (hw:∀b o u,h b o=some u->vis w b o=some u):
 ∃v' w',(Builtin.append_ #[t,t] ty #[v,sv]).run P w=.ok v' w'/\Gb w w' (aB v)/\(∀b,aB v'=some b->aB v=some b\/(w.heap.size<=b/\b < w'.heap.size))/\TR h w' el sh v' (l++l2):=by
 obtain⟨inf,z,i1,i2,i3,i4,i5⟩:=k.info;unfold oN at room;have hn:l.length+l2.length<=140737488355328:=qY (A81 _ hb1) room;have Zd:z.cells.size=i.size:=by rw[i5];simpa using k.qo
 rcases src with⟨rfl,rfl⟩ | ⟨sa,sc,rfl,rfl⟩ | ⟨b,o,c,cs,rfl,rd,at_⟩
 .refine⟨v,w,?_,cO _ _,λb hb=>.inl hb,by rw[Tj];exact row⟩
  rcases row with⟨rfl,rfl⟩ | ⟨_,rfl,rfl⟩ | ⟨g,cap,cur,rfl,q1,q2,q3,q4,q5⟩
  .simp[Builtin.append_,run_underlying hu,sizeOf,typeInfo,i1,Builtin.lenOf,Builtin.firstCells]
  .simp[Builtin.append_,run_underlying hu,sizeOf,typeInfo,i1,Builtin.lenOf,Builtin.firstCells,storeCells]
  .simp[Builtin.append_,run_underlying hu,sizeOf,typeInfo,i1,Builtin.lenOf,Builtin.firstCells,q2,storeCells]
 .refine⟨v,w,?_,cO _ _,λb hb=>.inl hb,by rw[Tj];exact row⟩
  rcases row with⟨rfl,rfl⟩ | ⟨_,rfl,rfl⟩ | ⟨g,cap,cur,rfl,q1,q2,q3,q4,q5⟩
  .simp[Builtin.append_,run_underlying hu,sizeOf,typeInfo,i1,Builtin.lenOf,Builtin.firstCells,loadCells,loadCellsFrom]
  .simp[Builtin.append_,run_underlying hu,sizeOf,typeInfo,i1,Builtin.lenOf,Builtin.firstCells,storeCells,loadCells,loadCellsFrom]
  .simp[Builtin.append_,run_underlying hu,sizeOf,typeInfo,i1,Builtin.lenOf,Builtin.firstCells,q2,storeCells,loadCells,loadCellsFrom]
 .have hcs:cs.length=l2.length * inf.size:=by rw[gQ.size (λ_ _=>Rd.size sh) rd,i2,hs]
  have hnews:∀j u,cs[j]?=some u->w.cell? ((⟨b,o,none⟩:Addr).add j)=some u:=λj u e=>by rw[add_lit];exact at_ j u e
  have h1:∀u∈cs,u.oneCell'=true:=λu hu'=>(gQ.all (λ_ _ r=>Rd.one sh r) rd u hu').2
  rcases row with⟨rfl,rfl⟩ | ⟨ra,rfl,rfl⟩ | ⟨g,cap,cur,rfl,q1,q2,q3,q4,q5⟩
  .by_cases hm:l2.length=0
   .have:l2=[]:=XY hm;subst this;refine⟨.slice none 0 0,w,?_,cO _ _,λb hb=>.inl hb,.inl ⟨rfl,rfl⟩⟩
    simp[Builtin.append_,run_underlying hu,sizeOf,typeInfo,i1,Builtin.lenOf,Builtin.firstCells,loadCells,loadCellsFrom]
   .have r:=run_append_nil (P:=P) w t ty el inf z hu i1 i4 ⟨b,o,none⟩ l2.length c cs hcs hnews (by omega) (by simp at hn;omega) (by rw[i3];simp at room;omega)
    have hge:=grownCap_ge w l2.length 0 el;refine⟨_,_,r,⟨⟨rfl,rfl,rfl,by simp,λk hk _=>(World.grownBy_alloc w.drew _ none).block k hk (by simp)⟩,BZ _⟩,?_,?_⟩
    .intro b' hb';simp[aB]at hb';obtain⟨_,rfl⟩:=hb';right;simp
    .refine .inr (.inr ⟨w.heap.size,_,_,rfl,heap_alloc_new w.drew _,by simpa using hge,⟨by omega,grownCap_le_maxLen w l2.length 0 el (by simp only[maxLen];simp at hn;omega)⟩,?_,?_⟩)
     .simp only[A86,IJ,size_zeroCells,Zd,hcs,i2,hs,<-Nb]
      congr 1;omega
     .simp only[A99,Yc];rw[show l2.length * sh.size=cs.length by rw[hcs,i2,hs],Yq]
      exact rd
  .by_cases hm:l2.length=0
   .have:l2=[]:=XY hm;subst this;refine⟨.slice (some ra) 0 0,w,?_,cO _ _,λb hb=>.inl hb,.inr (.inl ⟨ra,rfl,rfl⟩)⟩
    simp[Builtin.append_,run_underlying hu,sizeOf,typeInfo,i1,Builtin.lenOf,Builtin.firstCells,storeCells,loadCells,loadCellsFrom]
   .have r:=run_append_grow (P:=P) w t ty el inf z hu i1 i4 ra 0 0 [] (by simp) (λj u e=>by simp at e) ⟨b,o,none⟩ l2.length c cs hcs hnews (by omega) (by simp at hn;omega) (growslice_fits (by omega) (by rw[i3];simpa using room))
    rw[Iy]at r;have hge:=grownCap_ge w l2.length 0 el;refine⟨_,_,r,⟨⟨rfl,rfl,rfl,by simp,λk hk _=>(World.grownBy_alloc w.drew _ none).block k hk (by simp)⟩,BZ _⟩,?_,?_⟩
    .intro b' hb';simp[aB]at hb';obtain⟨_,rfl⟩:=hb';right;simp
    .refine .inr (.inr ⟨w.heap.size,_,_,rfl,heap_alloc_new w.drew _,by simpa using hge,⟨by omega,grownCap_le_maxLen w l2.length 0 el (by simp only[maxLen];simp at hn;omega)⟩,?_,?_⟩)
     .simp only[A86,IJ,size_zeroCells,Zd,Yc,hcs,i2,hs,Iy,Qh,<-Nb]
      congr 1;omega
     .simp only[A99,Yc];rw[show l2.length * sh.size=cs.length by rw[hcs,i2,hs],Yq]
      exact rd
  .by_cases hroom:l.length+l2.length<=cap
   .have hfit:l.length * inf.size+cs.length<=cur.size:=by rw[hcs,q4,i2,hs,<-Nb];exact zD _ hroom
    have r:=run_append_room (P:=P) w t ty el inf hu i1 g l.length cap cur q1 ⟨b,o,none⟩ l2.length c cs hcs hnews h1 hroom hfit;refine⟨_,_,r,by rw[aX q3.1];exact jo w g _,λb' hb'=>.inl (by rw[aX q3.1]at hb' ⊢;exact hb'),.inr (.inr ⟨g,cap,_,by rw[kZ],setRow_heap w g cur _ el _ q1,by rw[kZ];exact hroom,q3,?_,?_⟩)⟩
    .simp only[IJ,kZ,mD,zH,VR];omega
    .have e1:(List.take (l.length * sh.size) cur.toList++cs).length=(l++l2).length * sh.size:=by
      rw[kZ,kZ,Nb,hcs,i2,gQ.size (λ_ _=>Rd.size sh) q5,hs]
     show gQ (Rd h sh) ((List.take (l.length * inf.size) cur.toList++cs++List.drop (l.length * inf.size+cs.length) cur.toList).take ((l++l2).length * sh.size)) (l++l2);rw[i2,<-hs,<-e1,Yq];exact q5.append rd
   .have lsz:=gQ.size (λ_ _=>Rd.size sh) q5
    have hol:(cur.toList.take (l.length * sh.size)).length=l.length * inf.size:=by rw[lsz,i2,hs]
    have holds:∀j u,(cur.toList.take (l.length * sh.size))[j]?=some u->w.cell? ((⟨g,0,none⟩:Addr).add j)=some u:=by
     intro j u e;rw[add_lit,Iy,cell_of_row w g j cur el (0,0) q1];rw[wZ]at e;split at e
     .simpa using e
     .cases e
    have r:=run_append_grow (P:=P) w t ty el inf z hu i1 i4 ⟨g,0,none⟩ l.length cap _ hol holds ⟨b,o,none⟩ l2.length c cs hcs hnews (by omega) (by omega) (growslice_fits (by omega) (by rw[i3];exact room))
    have hge:=grownCap_ge w (l.length+l2.length) cap el;refine⟨_,_,r,⟨⟨rfl,rfl,rfl,by simp,λk hk _=>(World.grownBy_alloc w.drew _ none).block k hk (by simp)⟩,BZ _⟩,?_,?_⟩
    .intro b' hb';simp[aB]at hb';obtain⟨_,rfl⟩:=hb';right;simp
    .refine .inr (.inr ⟨w.heap.size,_,_,by rw[kZ],heap_alloc_new w.drew _,by rw[kZ];exact hge,⟨by omega,grownCap_le_maxLen w _ cap el (by simp only[maxLen];omega)⟩,?_,?_⟩)
     .have aki:(cur.toList.take (l.length * i.size)).length=l.length * i.size:=by rw[<-hs];exact lsz
      simp only[A86,IJ,size_zeroCells,Zd,hcs,i2,hs,aki,<-Nb]
      congr 1
      omega
     .simp only[A99,DJ];rw[<-DJ,show(l++l2).length * sh.size=(List.take (l.length * sh.size) cur.toList++cs).length by rw[kZ,kZ,Nb,hcs,lsz,i2,hs],Yq]
      exact q5.append rd
abbrev iV(cx:Cx) (t:TypeId) (K:TypeId->TI->Sh->Prop):Prop:=match descOf cx t with
 | .slice el=>match qG cx.ti el with
   | none=>False
   | some ie=>match ie.iU with
     | none=>False
     | some sh=>match dD (Nat.beq sh.size ie.size) (dD (Nat.ble 1 ie.bytes) (Nat.ble 1 ie.size)) with
       | true=>K el ie sh
       | false=>False
 | _=>False
abbrev QE(s:St) (sh:Sh) (v:SV):Option (List sh.den):=match v with
 | .c (.sl pG l2)=>jP (.sl pG) l2 (.sl sh)
 | .c (.v (.slice none 0 0))=>some []
 | .c (.row r)=>match eX s.T r with
   | some ([],.row _ pG l2)=>jP (.sl pG) l2 (.sl sh)
   | _=>none
 | _=>none
abbrev xE(cx:Cx) (s:St) (d:Option Nat) (t:TypeId) (x y:Operand) (K:St->Prop):Prop:=iV cx t λel ie sh=>
 match bM cx s [] y with
 | some (.one v2)=>match QE s sh v2 with
   | none=>False
   | some l2=>match bM cx s [] x with
     | some (.one (.c (.row r)))=>match eX s.T r with
       | some ([],.row tt fA l1)=>match Nat.beq tt el with
         | true=>match jP (.sl fA) l1 (.sl sh) with
           | some l=>oN (l.length+l2.length) ie.bytes/\K ({ s with T:=dB (NM r s.T) r ([],.row el sh (l++l2)),env:=vC r s.env }.put d [] (.one (.c (.row r))))
           | none=>False
         | false=>False
       | _=>False
     | some (.one (.c (.v (.slice none 0 0))))=>oN l2.length ie.bytes/\K ({ s with T:=snoc s.T ([],.row el sh l2) }.put d [] (.one (.c (.row (aP s.T)))))
     | _=>False
 | _=>False
section
variable {cx:Cx}{P:Program}{N:Nat}{B:Base}{h0:FH}{s:St}{h:FH}{β:List RV}{w:World}{a:Act}{o:Oper}{K:St->Prop}
theorem pI{fA sh:Sh}{l1:List fA.den}{l:List sh.den} (e:jP (.sl fA) l1 (.sl sh)=some l):∃e':fA=sh,(e'▸l1:List sh.den)=l:=by
 obtain⟨e1,e2⟩:=kQ e;cases e1;exact⟨rfl,e2⟩
theorem EF(aj:Sat N B h0 s h β w a){sh:Sh}{v:SV}{l:List sh.den}{y:Value} (e:QE s sh v=some l) (c:dA h β v y):Zc h w sh y l:=by
 unfold QE at e;split at e
 .rename_i pG l2;obtain⟨e1,e2⟩:=pI e;subst e1;simp only at e2;subst e2;rcases c.1 with⟨e1,e2⟩ | ⟨ad,cap,e1,e2,_⟩ | ⟨b,off,cap,e1,q1,q2,cs,rd,at_⟩
  .exact .inl ⟨e1,e2⟩
  .exact .inr (.inl ⟨ad,cap,e1,e2⟩)
  .exact .inr (.inr ⟨b,off,cap,cs,e1,rd,λj u hj=>Fp (aj.ok.hw _ _ _ (at_ j u hj)) (gQ.all (λ_ _=>Rd.one _) rd u (iJ hj)).2⟩)
 .cases e;exact .inl ⟨c.1.1,rfl⟩
 .rename_i r;split at e
  .rename_i tt pG l2 hT;obtain⟨e1,e2⟩:=pI e;subst e1;simp only at e2;subst e2;rcases aj.ok.holds r _ _ (bF hT rfl) (aj.ok.row_of (bF hT rfl) c.1) with⟨e1,e2⟩ | ⟨ra,e1,e2⟩ | ⟨g,cap,cur,e1,q1,q2,q3,q4,rd⟩
   .exact .inl ⟨e1,e2⟩
   .exact .inr (.inl ⟨ra,0,e1,e2⟩)
   .refine .inr (.inr ⟨g,0,cap,_,e1,rd,λj u hj=>?_⟩)
    rw[Iy,cell_of_row w g j cur tt (0,0) q1];rw[wZ]at hj;split at hj
    .simpa using hj
    .cases hj
  .cases e
 .cases e
theorem DN(hc:bQ P cx.ti) (aj:Sat N B h0 s h β w a) (hg:aK cx.gd h) (hd:mF N o.dst=true){x:Operand} (ho:o.op=.call c) (bW:c.callee=.builtin .append) (ha:c.args=#[x,y]) (ht:c.argTypes=#[t,t])
 (k:xE cx s o.dst t x y K):gV P N B h0 h w a o (gv s.gl []) K:=by
 have tr:gv s.gl []=true:=rfl;unfold xE iV at k;split at k
 .rename_i el hde;have hu:=bH hc hde (by simp)
  split at k
  .cases k
  rename_i ie hie;have tie:=hc.get hie;split at k
  .cases k
  rename_i sh hsh;split at k
  .rename_i hz;rw[aC,aC,A8,A8]at hz;have hz1:sh.size=ie.size:=iE hz.1;have hz2:1<=ie.bytes:=qX hz.2.1;have hz3:1<=ie.size:=qX hz.2.2;split at k
   .rename_i v2 hv2;have c2:=aO aj hg tr hv2;split at k
    .cases k
    rename_i l2 hl2;have src:=EF aj hl2 c2;have exec:∀{u u':Value}{w':World},a.eval x=u->(Builtin.append_ #[t,t] o.type #[u,a.eval y]).run P w=.ok u' w'->(execOp a.eval o).run P w=.ok (.value u') w':=by
     intro u u' w' e r;simp[execOp,ho,resolve,bW,ha,ht,invoke,builtin,e,r]
    split at k
    .rename_i r hr;have cr:=aO aj hg tr hr;split at k
     .rename_i tt fA l1 hT;split at k
      .rename_i htt;have htt:tt=el:=iE htt;subst htt;split at k
       .rename_i l hl;obtain⟨e1,e2⟩:=pI hl;subst e1;simp only at e2;subst e2;have cr1:=aj.ok.row_of (bF hT tr) cr.1;have row:TR h w tt fA (a.eval x) l1:=aj.ok.holds r _ _ (bF hT tr) cr1;obtain⟨v',w',r1,r2,r3,r4⟩:=wE (ty:=o.type) hu tie hz1 hz2 hz3 row src k.1 aj.ok.hw;have iq:r < β.length:=(eU.1 cr1).1;refine WR aj (by rw[ho];simp only[quietly,bW]) hd (v:=.row v') hT rfl cr1 r2 r3 (hold:=show Holds h (β.set r (.row v')) w' (.row tt fA (l1++l2)) (.row v') from r4) (run:=exec rfl r1) (he:=?_) (k:=k.2)
        refine⟨?_,?_⟩
        .refine⟨.row v',?_,rfl⟩;rw[qm iq]
        .rcases r4 with⟨rfl,_⟩ | ⟨_,rfl,_⟩ | ⟨g,cap,cur,rfl,_⟩<;>exact⟨rfl,rfl⟩
       .cases k
      .cases k
     .cases k
    .rename_i hx;have Jt:=aO aj hg tr hx;obtain⟨v',w',r1,r2,r3,r4⟩:=wE (ty:=o.type) (l:=[]) hu tie hz1 hz2 hz3 (.inl ⟨Jt.1.1,rfl⟩) src (by simpa using k.1) aj.ok.hw
     refine lT aj rfl hd k.2 λ_=>⟨v',w',.row v',exec rfl r1,?_,?_,?_,?_⟩
     .rw[Jt.1.1]at r2;exact r2
     .intro b hb;rcases r3 b (aZ.1 hb) with hh | hh
      .rw[Jt.1.1]at hh;cases hh
      .exact hh
     .exact r4
     .refine⟨⟨_,kS (lU aj) _,rfl⟩,?_⟩;rcases r4 with⟨rfl,_⟩ | ⟨_,rfl,_⟩ | ⟨g,cap,cur,rfl,_⟩<;>exact⟨rfl,rfl⟩
    .cases k
   .cases k
  .cases k
 .cases k
end
abbrev TS(cx:Cx) (s:St) (G:Gd) (d:Option Nat) (t:TypeId) (ln cp:Operand) (K:St->Prop):Prop:=iV cx t λel ie sh=>
 match bM cx s G ln with
 | some (.one (.c (.v (.int _ n))))=>match bM cx s G cp with
   | some (.one (.c (.v (.int _ c))))=>side s.gl G (0<=n/\n<=c/\oN c.toNat ie.bytes)/\K ({ s with T:=snoc s.T (G,.row el sh (List.replicate n.toNat (sG sh))) }.put d G (.one (.c (.row (aP s.T)))))
   | _=>False
 | _=>False
theorem KH{α:Type}{R:List Value->α->Prop}{cs:List Value}{d:α} (r:R cs d):∀n:Nat,gQ R (iO n cs) (List.replicate n d)
 | 0=>rfl
 | n+1=>⟨cs,iO n cs,by simp only[iO,fV],r,KH r n⟩
theorem CO{l:List Value}:∀{n m:Nat},n<=m->(iO m l).take (n * l.length)=iO n l
 | 0,m,_=>by simp[iO]
 | n+1,0,h=>by omega
 | n+1,m+1,h=>by
   simp only[iO,fV];rw[yQ,YB,aeI,CO (by omega)]
section
variable {cx:Cx}{P:Program}{N:Nat}{B:Base}{h0:FH}{s:St}{h:FH}{β:List RV}{w:World}{a:Act}{G:Gd}{o:Oper}{K:St->Prop}
theorem WS(hc:bQ P cx.ti) (aj:Sat N B h0 s h β w a) (hg:aK cx.gd h) (hG:xq s.gl.length G=true) (hd:mF N o.dst=true){x:Operand} (ho:o.op=.makeSlice t x y)
 (k:TS cx s G o.dst t x y K):gV P N B h0 h w a o (gv s.gl G) K:=by
 unfold TS iV at k;split at k
 .rename_i el hde;have hu:=bH hc hde (by simp)
  split at k
  .cases k
  rename_i ie hie;have tie:=hc.get hie;split at k
  .cases k
  rename_i sh hsh;split at k
  .rename_i hz;rw[aC,aC,A8,A8]at hz;have hz1:sh.size=ie.size:=iE hz.1;have hz2:1<=ie.bytes:=qX hz.2.1;have hz3:1<=ie.size:=qX hz.2.2;split at k
   .rename_i ik n hn;split at k
    .rename_i ik' c hcp;refine lT aj hG hd k.2 λhgv=>?_
     obtain⟨s1,s2,s3⟩:=fG k.1 hgv;have e1:a.eval x=.int ik n:=(aO aj hg hgv hn).1.1;have e2:a.eval y=.int ik' c:=(aO aj hg hgv hcp).1.1;obtain⟨inf,z,i1,i2,i3,i4,i5⟩:=tie.info;unfold oN at s3;have hcb:c.toNat<=140737488355328:=qY (A81 _ hz2) s3;have hb:(inf.bytes:Int) * c<=281474976710656:=by
      rw[i3];have:((c.toNat * ie.bytes:Nat):Int)<=140737488355328:=by omega
      rw[Int.natCast_mul,Int.toNat_of_nonneg (by omega),Int.mul_comm]at this
      omega
     have r:=run_make (P:=P) w t el inf z hu i1 i4 ik ik' n c s1 s2 hb (by omega)
     have Ze:madeCells z.cells (c.toNat * inf.size)=(iO c.toNat ie.zero).toArray:=by
      unfold madeCells;rw[i5,i2,<-tie.qo];exact sK (by rw[tie.qo];omega)
     rw[Ze]at r;refine⟨.slice (some ⟨w.heap.size,0,none⟩) n.toNat c.toNat,w.alloc (.cells (iO c.toNat ie.zero).toArray el),.row (.slice (some ⟨w.heap.size,0,none⟩) n.toNat c.toNat),?_,pq _ _ _,?_,?_,?_⟩
     .simp only[execOp,ho,e1,e2,Sem.run_bind,r,Result.andThen_ok,Sem.run_pure]
     .intro b hb';rw[aZ]at hb';simp[aB]at hb';obtain⟨_,rfl⟩:=hb';simp
     .by_cases hc0:c.toNat=0
      .have hn0:n.toNat=0:=by omega
       exact .inr (.inl ⟨⟨w.heap.size,0,none⟩,by rw[hc0,hn0],by rw[hn0];rfl⟩)
      refine .inr (.inr ⟨w.heap.size,c.toNat,_,by rw[MV],nM _ _,by rw[MV];omega,⟨by omega,by simp only[maxLen];omega⟩,?_,?_⟩)
      .simp only[IJ,wB,tie.qo,hz1]
      .rw[MV];show gQ (Rd h sh) ((iO c.toNat ie.zero).take (n.toNat * sh.size)) _;rw[hz1,<-tie.qo,CO (by omega)]
       exact KH (Ac (tie.YM sh hsh).1) _
     .exact⟨⟨_,kS (lU aj) _,rfl⟩,rfl,rfl⟩
    .cases k
   .cases k
  .cases k
 .cases k
end
abbrev fE:(ss:List Sh)->bV ss->List SV
 | [],_=>[]
 | s :: l,d=>iL s d.1 :: fE l d.2
abbrev Ae:(ss:List Sh)->List SV->Option (bV ss)
 | [],vs=>match vs with
   | []=>some ()
   | _=>none
 | s :: l,vs=>match vs with
   | v :: r=>match toDat s v with
     | some d=>match Ae l r with
       | some e=>some (d,e)
       | none=>none
     | none=>none
   | _=>none
theorem Af{h:FH}{β:List RV}:∀{ss:List Sh}{vs:List SV}{ys:List Value}{d:bV ss},Ae ss vs=some d->aQ (dA h β) vs ys->aQ (dA h β) (fE ss d) ys
 | [],vs,ys,d,e,a=>by
   unfold Ae at e;split at e
   .cases ys with
    | nil=>trivial
    | cons _ _=>exact a.elim
   .cases e
 | s :: l,vs,ys,d,e,a=>by
   unfold Ae at e;split at e
   .rename_i v r;cases ys with
    | nil=>exact a.elim
    | cons y ys=>
      split at e
      .rename_i d1 hd;split at e
       .rename_i d2 hr;cases e;obtain⟨cs,e1,rd⟩:=toDat_ok hd a.1;rw[e1];exact⟨jT s rd,Af hr a.2⟩
       .cases e
      .cases e
   .cases e
structure CT where
 ps:List Sh
 pre:bV ps->Prop
 res:bV ps->List au×bg
variable {ct:Nat->Option CT}
def NQ(P:Program) (gd:Nat->Option (Sigma Sh.den)) (f:FuncId) (ct:CT):Prop:=
 ∀(d:bV ct.ps) (vs:List Value) (h:FH) (B:World),(∀b o v,h b o=some v->vis B b o=some v)->aK gd h->aQ (dA h []) (fE ct.ps d) vs->ct.pre d ->
   Calls P f vs.toArray B (λen w'=>∃h' β y,en=.returned y/\OK (Base.of B) h (ct.res d).1 h' β w'/\kC h' β (ct.res d).2 y)
def CTX(P:Program) (gd:Nat->Option (Sigma Sh.den)) (f:FuncId) (suf:List Value) (ct:CT):Prop:=
 ∀(d:bV ct.ps) (vs:List Value) (h:FH) (B:World),(∀b o v,h b o=some v->vis B b o=some v)->aK gd h->aQ (dA h []) (fE ct.ps d) vs->ct.pre d ->
   Calls P f (vs++suf).toArray B (λen w'=>∃h' β y,en=.returned y/\OK (Base.of B) h (ct.res d).1 h' β w'/\kC h' β (ct.res d).2 y)
def CTS(P:Program) (gd:Nat->Option (Sigma Sh.den)) (f:FuncId) (sv:List SV) (ct:CT):Prop:=
 ∀(d:bV ct.ps) (vs ys:List Value) (h:FH) (B:World),(∀b o v,h b o=some v->vis B b o=some v)->aK gd h->aQ (dA h []) (fE ct.ps d) vs->aQ (dA h []) sv ys->ct.pre d ->
   Calls P f (vs++ys).toArray B (λen w'=>∃h' β y,en=.returned y/\OK (Base.of B) h (ct.res d).1 h' β w'/\kC h' β (ct.res d).2 y)
theorem NQ.x{gd:Nat->Option (Sigma Sh.den)}{ct:CT} (h:NQ P gd f ct):CTX P gd f [] ct:=by
 intro d vs h' B;simpa using h d vs h' B
theorem CTX.ok{gd:Nat->Option (Sigma Sh.den)}{ct:CT} (h:CTX P gd f [] ct):NQ P gd f ct:=by
 intro d vs h' B;simpa using h d vs h' B
abbrev SC.sh(n:Nat):SC->SC
 | .own i off=>.own (n+i) off
 | .row i=>.row (n+i)
 | .kE i j sz off=>.kE (n+i) j sz off
 | .sub i j=>.sub (n+i) j
 | .mO i j k sz off=>.mO (n+i) j k sz off
 | x=>x
abbrev SV.sh(n:Nat):SV->SV
 | .c x=>.c (x.sh n)
 | .agg xs=>.agg (eY (SC.sh n) xs)
 | v=>v
abbrev bg.sh(n:Nat):bg->bg
 | .one v=>.one (v.sh n)
 | .iR vs=>.iR (eY (SV.sh n) vs)
abbrev au.sh(n:Nat):au->au
 | .blk t cs=>.blk t (eY (SC.sh n) cs)
 | r=>r
abbrev iZ:Sh->Bool
 | .int _=>true
 | .bool=>true
 | .str=>true
 | .unit=>true
 | .pair a b=>dD (iZ a) (iZ b)
 | .arr _ s=>iZ s
 | _=>false
abbrev nY:SC->Bool
 | .v _=>true
 | .own _ _=>true
 | .row _=>true
 | _=>false
abbrev allL{α:Type} (p:α->Bool):List α->Bool
 | []=>true
 | x :: l=>dD (p x) (allL p l)
abbrev QF:SV->Bool
 | .c x=>nY x
 | .agg xs=>allL nY xs
 | .dat s _=>iZ s
 | .und=>true
abbrev KI:bg->Bool
 | .one v=>QF v
 | .iR vs=>allL QF vs
abbrev xG:au->Bool
 | .blk _ cs=>allL nY cs
 | .row _ s _=>iZ s
 | .obj _ s _=>iZ s
 | .deep _ _ _ _ _ _ _ _=>false
 | .mp _ s _=>iZ s
 | .P5 _ _ _ _=>false
 | .it _ _ _ _=>false
 | .Nl _ _ _ _=>true
 | .Jl _ _ _ _=>false
 | .gone=>true
theorem Rd.flat{h h':FH}:∀(s:Sh){cs:List Value}{d:s.den},iZ s=true->Rd h s cs d->Rd h' s cs d
 | .int _,_,_,_,r=>r
 | .bool,_,_,_,r=>r
 | .str,_,_,_,r=>r
 | .unit,_,_,_,r=>r
 | .any,_,_,f,_=>by simp[iZ]at f
 | .sl _,_,_,f,_=>by simp[iZ]at f
 | .pair a b,_,(_,_),f,⟨c1,c2,e,r1,r2⟩=>by
   simp only[iZ,aC,A8]at f;exact⟨c1,c2,e,r1.flat a f.1,r2.flat b f.2⟩
 | .arr _ s,_,_,f,⟨e,r⟩=>⟨e,r.mono λ_ _=>Rd.flat s f⟩
theorem pJ{v:RV} (e:β'[i]?=some v):(β++β')[β.length+i]?=some v:=by
 rw[Qd (by omega)];simpa using e
theorem dW.shift:∀{x:SC}{y:Value},dW h β' x y->dW h (β++β') (x.sh β.length) y
 | .v _,_,c=>c
 | .sl _ _,_,c=>c
 | .fp _ _,_,c=>c
 | .one _ _,_,c=>c
 | .own _ _,_,⟨b,e,e'⟩=>⟨b,pJ e,e'⟩
 | .row _,_,⟨v,e,e'⟩=>⟨v,pJ e,e'⟩
 | .kE _ _ _ _,_,⟨v,g,e,e'⟩=>⟨v,g,pJ e,e'⟩
 | .sub _ _,_,⟨v,us,e,e'⟩=>⟨v,us,pJ e,e'⟩
 | .mO _ _ _ _ _,_,⟨v,us,g,e,e'⟩=>⟨v,us,g,pJ e,e'⟩
 | .abs _,_,c=>c
 | .junk,_,_=>trivial
theorem dW.flat:∀{x:SC}{y:Value},nY x=true->dW h β x y->dW h' β x y
 | .v _,_,_,c=>c
 | .own _ _,_,_,c=>c
 | .row _,_,_,c=>c
 | .sl _ _,_,f,_=>by simp[nY]at f
 | .fp _ _,_,f,_=>by simp[nY]at f
 | .one _ _,_,f,_=>by simp[nY]at f
 | .kE _ _ _ _,_,f,_=>by simp[nY]at f
 | .sub _ _,_,f,_=>by simp[nY]at f
 | .mO _ _ _ _ _,_,f,_=>by simp[nY]at f
 | .abs _,_,f,_=>by simp[nY]at f
 | .junk,_,f,_=>by simp[nY]at f
theorem aQ.eY{α β:Type}{R R':α->β->Prop}{f:α->α} (hR:∀a b,R a b->R' (f a) b):∀{l:List α}{m:List β},aQ R l m->aQ R' (eY f l) m
 | [],[],_=>trivial
 | _ :: _,_ :: _,⟨a,b⟩=>⟨hR _ _ a,aQ.eY hR b⟩
theorem aQ.allL{α β:Type}{R R':α->β->Prop}{p:α->Bool} (hR:∀a b,p a=true->R a b->R' a b):∀{l:List α}{m:List β},allL p l=true->aQ R l m->aQ R' l m
 | [],[],_,_=>trivial
 | _ :: _,_ :: _,f,⟨a,b⟩=>by
   simp only[mQ.allL,aC,A8]at f;exact⟨hR _ _ f.1 a,aQ.allL hR f.2 b⟩
theorem dA.shift{h:FH}{β β':List RV}:∀{x:SV}{y:Value},dA h β' x y->dA h (β++β') (x.sh β.length) y
 | .c _,_,c=>⟨c.1.shift,c.2⟩
 | .agg _,_,⟨ys,e,a⟩=>⟨ys,e,a.eY λ_ _ ⟨p,q⟩=>⟨p.shift,q⟩⟩
 | .dat _ _,_,c=>c
 | .und,_,c=>c
theorem dA.flat{h h':FH}{β:List RV}:∀{x:SV}{y:Value},QF x=true->dA h β x y->dA h' β x y
 | .c _,_,f,c=>⟨c.1.flat f,c.2⟩
 | .agg _,_,f,⟨ys,e,a⟩=>⟨ys,e,a.allL (λ_ _ f ⟨p,q⟩=>⟨p.flat f,q⟩) f⟩
 | .dat s _,_,f,⟨g,cs,e,r⟩=>⟨g,cs,e,r.flat s f⟩
 | .und,_,_,c=>c
theorem kC.shift{h:FH}{β β':List RV}:∀{x:bg}{y:Value},kC h β' x y->kC h (β++β') (x.sh β.length) y
 | .one _,_,c=>dA.shift c
 | .iR _,_,⟨ys,e,a⟩=>⟨ys,e,a.eY (f:=SV.sh β.length) λ_ _ c=>dA.shift c⟩
theorem kC.flat{h h':FH}{β:List RV}:∀{x:bg}{y:Value},KI x=true->kC h β x y->kC h' β x y
 | .one _,_,f,c=>dA.flat f c
 | .iR _,_,f,⟨ys,e,a⟩=>⟨ys,e,a.allL (λ_ _=>dA.flat) f⟩
theorem Holds.shift{h:FH}{β β':List RV}{w:World}:∀{r:au}{v:RV},Holds h β' w r v->Holds h (β++β') w (r.sh β.length) v
 | .blk _ _,.blk _,⟨ys,e,a⟩=>⟨ys,e,a.eY λ_ _ ⟨p,q⟩=>⟨p.shift,q⟩⟩
 | .row _ _ _,.row _,c=>c
 | .obj _ _ _,.blk _,c=>c
 | .deep _ _ _ _ _ _ _ _,.deep _ _,c=>c
 | .mp _ _ _,.row _,c=>c
 | .P5 _ _ _ _,.deep _ _,c=>c
 | .it _ _ _ _,.blk _,c=>c
 | .Nl _ _ _ _,.row _,c=>c
 | .Jl _ _ _ _,.deep _ _,c=>c
 | .gone,_,_=>trivial
theorem Holds.flat{h h':FH}{β:List RV}{w:World}:∀{r:au}{v:RV},xG r=true->Holds h β w r v->Holds h' β w r v
 | .blk _ _,.blk _,f,⟨ys,e,a⟩=>⟨ys,e,a.allL (λ_ _ f ⟨p,q⟩=>⟨p.flat f,q⟩) f⟩
 | .row _ s _,.row _,f,c=>c.elim .inl λc=>c.elim (λc=>.inr (.inl c)) λ⟨g,cap,cur,e,q1,q2,q3,q4,q5⟩=>.inr (.inr ⟨g,cap,cur,e,q1,q2,q3,q4,q5.mono λ_ _=>Rd.flat s f⟩)
 | .obj _ s _,.blk _,f,⟨ys,e,r⟩=>⟨ys,e,r.flat s f⟩
 | .deep _ _ _ _ _ _ _ _,.deep _ _,f,_=>by cases f
 | .mp _ s _,.row _,f,⟨b,es,c,e,e1,m⟩=>⟨b,es,c,e,e1,m.mono λ_ _ ⟨cs,q,r⟩=>⟨cs,q,r.flat s f⟩⟩
 | .P5 _ _ _ _,.deep _ _,f,_=>by cases f
 | .it _ _ _ _,.blk _,f,_=>by cases f
 | .Nl _ _ _ _,.row _,_,c=>c
 | .Jl _ _ _ _,.deep _ _,f,_=>by cases f
 | .gone,_,_,_=>trivial
theorem au.Ag(n:Nat) (r:au):(r.sh n).live=r.live:=by cases r<;>rfl
theorem OK.call(ok:OK B h0 T h β w){hb:FH}{T':List au} (ok':OK (Base.of w) hb T' h' β' w'){hn:FH} (le:h.le hn)
 (conv:∀(j:Nat) r v,T'[j]?=some r->Holds h' β' w' r v->Holds hn (β++β') w' (r.sh β.length) v)
 (hnw:∀b o v,hn b o=some v->vis w' b o=some v) (hng:∀b o v,hn b o=some v->h b o=some v\/(w.heap.size<=b/\h' b o=some v)):
 OK B h0 (T++T'.map (au.sh β.length)) hn (β++β') w':=by
 have L:=ok.len;have L':=ok'.len;have own':∀(i:Nat) r v b,T'[i]?=some r->r.live=true->β'[i]?=some v->v.has b->w.heap.size<=b/\b < w'.heap.size/\∀o,h' b o=none:=ok'.own;have below':Below w.heap.size w w':=Bw.bel ok'.below;have dr':w.drawn<=w'.drawn:=ok'.dr;have split:∀{i:Nat}{r:au}{v:RV},(T++T'.map (au.sh β.length))[i]?=some r->(β++β')[i]?=some v ->
  (T[i]?=some r/\β[i]?=some v)\/∃j r',i=β.length+j/\T'[j]?=some r'/\r=r'.sh β.length/\β'[j]?=some v:=by
  intro i r v e e'
  by_cases hi:i < T.length
  .rw[XZ hi]at e;rw[XZ (by omega)]at e'
   exact .inl ⟨e,e'⟩
  .rw[Qd (by omega),Ec]at e
   rw[Qd (by omega)]at e'
   cases hj:T'[i - T.length]? with
   | none=>rw[hj]at e;cases e
   | some r'=>rw[hj]at e;cases e;exact .inr ⟨i - T.length,r',by omega,hj,rfl,by rw[show i - T.length=i - β.length by omega];exact e'⟩
 have ae7:∀{i:Nat}{r:au}{v:RV}{b:Nat},T[i]?=some r->r.live=true->β[i]?=some v->v.has b->∀o,hn b o=none:=by
  intro i r v b e1 e2 e3 e4 o;obtain⟨a1,a2,a3⟩:=ok.own i r v b e1 e2 e3 e4;cases hh:hn b o with
  | none=>rfl
  | some u=>
    rcases hng b o u hh with h1 | h1
    .rw[a3 o]at h1;cases h1
    .omega
 have ae8:∀{i:Nat}{r:au}{v:RV}{b:Nat},T'[i]?=some r->r.live=true->β'[i]?=some v->v.has b->∀o,hn b o=none:=by
  intro i r v b e1 e2 e3 e4 o;obtain⟨a1,a2,a3⟩:=own' i r v b e1 e2 e3 e4;cases hh:hn b o with
  | none=>rfl
  | some u=>
    rcases hng b o u hh with h1 | h1
    .have:=o9 (ok.hw b o u h1);omega
    .rw[a3 o]at h1;cases h1.2
 exact {
  below:=ok.below.below below'
  dr:=qY ok.dr dr'
  len:=by simp[L,L']
  holds:=by
   intro i r v e e';rcases split e e' with⟨f1,f2⟩ | ⟨j,r',hi,f1,hr,f2⟩
   .exact(ok.holds i r v f1 f2).move le (Ext.append _ _) λhl b hb=>below'.block b (ok.own i r v b f1 hl f2 hb).2.1
   .rw[hr];exact conv j r' v f1 (ok'.holds j r' v f1 f2)
  own:=by
   intro i r v b e hl e' hb';rcases split e e' with⟨f1,f2⟩ | ⟨j,r',hi,f1,hr,f2⟩
   .obtain⟨a1,a2,a3⟩:=ok.own i r v b f1 hl f2 hb';exact⟨a1,Qe a2 below'.size,ae7 f1 hl f2 hb'⟩
   .rw[hr,au.Ag]at hl;obtain⟨a1,a2,a3⟩:=own' j r' v b f1 hl f2 hb';exact⟨B.up _ (qY ok.below.size a1),a2,ae8 f1 hl f2 hb'⟩
  inj:=by
   intro i j r1 r2 u v b e1 l1 e2 l2 e3 e4 b1 b2;rcases split e1 e3 with⟨f1,f3⟩ | ⟨i',r1',hi,f1,hr1,f3⟩<;>rcases split e2 e4 with⟨f2,f4⟩ | ⟨j',r2',hj,f2,hr2,f4⟩
   .exact ok.inj i j r1 r2 u v b f1 l1 f2 l2 f3 f4 b1 b2
   .rw[hr2,au.Ag]at l2;have a1:=ok.own i r1 u b f1 l1 f3 b1;have a2:=own' j' r2' v b f2 l2 f4 b2;omega
   .rw[hr1,au.Ag]at l1;have a1:=ok.own j r2 v b f2 l2 f4 b2;have a2:=own' i' r1' u b f1 l1 f3 b1;omega
   .rw[hr1,au.Ag]at l1;rw[hr2,au.Ag]at l2;rw[hi,hj,ok'.inj i' j' r1' r2' u v b f1 l1 f2 l2 f3 f4 b1 b2]
  hle:=ok.hle.trans le
  hw:=hnw
  hg:=by
   intro b o v hh;rcases hng b o v hh with h1 | h1
   .exact ok.hg b o v h1
   .exact .inr (B.up _ (qY ok.below.size h1.1))
  kn:=λk o hk=>by
   have h1:=ok.kn k o hk;exact(below'.block k (Fj.1 h1).1).trans h1 }
theorem OK.TT{B:Base}{h0 h:FH}{w:World}:∀(m:Nat){T:List au}{β:List RV},OK B h0 T h β w->OK B h0 (T++List.replicate m .gone) h (β++List.replicate m .no) w
 | 0,T,β,ok=>by simpa using ok
 | m+1,T,β,ok=>by
   have:=OK.TT m (ok.add (r:=.gone) (v:=.no) (cO w none) (λb hb=>(Qp hb).elim) trivial)
   simpa[Yv]using this
abbrev NR(G:Gd) (n:Nat):List (Gd×au)->List au->List (Gd×au)
 | T,[]=>T
 | T,r :: l=>NR G n (snoc T (G,r.sh n)) l
theorem EG(G:Gd) (n:Nat):∀(l:List au) (T:List (Gd×au)),NR G n T l=T++l.map λr=>(G,r.sh n)
 | [],T=>by simp[NR]
 | r :: l,T=>by simp[NR,EG G n l,iT]
theorem pK(gl:List Bool):∀(T U:List (Gd×au)),eff gl (T++U)=eff gl T++eff gl U
 | [],_=>rfl
 | (g,r) :: l,U=>by simp[eff,pK gl l U]
theorem Ah{gl:List Bool}{G:Gd}{n:Nat} (hG:gv gl G=true):∀(l:List au),eff gl (l.map λr=>(G,r.sh n))=l.map (au.sh n)
 | []=>rfl
 | r :: l=>by simp[eff,hG,kJ,Ah hG l]
theorem yF{gl:List Bool}{G:Gd}{n:Nat} (hG:gv gl G=false):∀(l:List au),eff gl (l.map λr=>(G,r.sh n))=List.replicate l.length .gone
 | []=>rfl
 | r :: l=>by simp[eff,hG,kJ,yF hG l,Yv]
theorem gQ.QG{α:Type}{R:List Value->α->Prop}{k:Nat}:∀{l:List α}{cs:List Value},cs.length=l.length * k->(∀j d,l[j]?=some d->R ((cs.drop (j * k)).take k) d)->gQ R cs l
 | [],cs,h,_=>XY (by simpa using h)
 | d :: l,cs,h,hR=>by
   rw[yP,yQ]at h;refine⟨cs.take k,cs.drop k,(X0 k cs).symm,?_,gQ.QG (k:=k) (by rw[zH];omega) λj d' hd=>?_⟩
   .have:=hR 0 d rfl;simpa using this
   .have:=hR (j+1) d' (by simpa using hd)
    rw[Wi]
    rwa [show k+j * k=(j+1) * k by rw[yQ];omega]
theorem mX.sl{s:Sh}{l:List s.den} (x:mX h w t s l v) (le:h.le h') (hb:∀b,aB v=some b->∀o u,vis w b o=some u->h' b o=some u):rU h' (Rd h' s) v l:=by
 rcases x with⟨e1,e2⟩ | ⟨ra,e1,e2⟩ | ⟨g,cap,cur,e1,q1,q2,q3,q4,q5⟩
 .exact .inl ⟨e1,e2⟩
 .exact .inr (.inl ⟨ra,0,e1,e2,Iz _⟩)
 .refine .inr (.inr ⟨g,0,cap,e1,q2,q3.2,_,q5.mono λ_ _=>Rd.mono le s,λj u hj=>?_⟩)
  refine hb g (by rw[e1];exact aX q3.1) _ _ ?_
  rw[Iy];have h1:=gQ.all (λ_ _=>Rd.one s) q5 u (iJ hj)
  rw[wZ]at hj;split at hj
  .exact oW q1 (by simpa using hj) h1.2
  .cases hj
theorem Zf{cs:List Value}{o:Nat}{u:Value} (h:cs[o]?=some u) (x:Value):(cs.set o x).set o u=cs:=by
 rw[List.set_set];exact iw h
theorem Cb.rd{h h':FH}{w:World}{s:Sh}{tt:TypeId}{e:Sh}{so:Nat}{own:Bool}{u:Value}{cs:List Value}{d:s.den} (x:Cb h w s tt e so own false u cs d) (le:h.le h') (hb:∀b,aB u=some b->∀o z,vis w b o=some z->h' b o=some z):Rd h' s cs d:=by
 unfold Cb at x;cases own with
 | false=>exact x.1.mono le s
 | true=>
   obtain⟨d0,y,r,p,c,q⟩:=x;have:=p.rd (r.mono le s) (q.sl le hb)
   rwa [Zf c]at this
theorem dZ.data{s:Sh}{l:List s.den}{tt:TypeId}{e:Sh}{so:Nat}{own:Nat->Bool}{us:Nat->Value} (x:dZ h w t s l tt e so own [] v us) (le:h.le h')
 (hb:∀b,(RV.deep v us).has b->∀o z,vis w b o=some z->h' b o=some z):rU h' (Rd h' s) v l:=by
 obtain⟨_,_,x⟩:=x;rcases x with⟨e1,e2⟩ | ⟨ra,e1,e2⟩ | ⟨g,cap,cur,e1,q1,q2,q3,q4,q5,q6⟩
 .exact .inl ⟨e1,e2⟩
 .exact .inr (.inl ⟨ra,0,e1,e2,Iz _⟩)
 .have hm:l.length * s.size<=cap * s.size:=zD _ q2;have lc:cur.toList.length=cap * s.size:=by simpa using q4
  have rdl:gQ (Rd h' s) (cur.toList.take (l.length * s.size)) l:=by
   refine gQ.QG (k:=s.size) (by rw[mD];omega) λj d hd=>?_
   have hj:=(eU.1 hd).1;have hm:(j+1) * s.size<=l.length * s.size:=zD _ hj;rw[yQ]at hm;have e5:List.take s.size (List.drop (j * s.size) (List.take (l.length * s.size) cur.toList))=List.take s.size (List.drop (j * s.size) cur.toList):=by
    apply Ed;intro p;simp only[wZ,MW];split
    .rw[if_pos (by omega)]
    .rfl
   rw[e5];exact(q6 j d hd).rd le λb hu=>hb b (aV.2 (.inr ⟨j,hu⟩))
  refine .inr (.inr ⟨g,0,cap,e1,q2,q3.2,cur.toList.take (l.length * s.size),rdl,λj u hj=>?_⟩)
  .refine hb g (aV.2 (.inl (by rw[e1];exact aX (n:=l.length) q3.1))) _ _ ?_
   rw[Iy];have h1:=gQ.all (λ_ _=>Rd.one s) rdl u (iJ hj)
   rw[wZ]at hj;split at hj
   .exact oW q1 (by simpa using hj) h1.2
   .cases hj
abbrev ae9(s:St) (G:Gd) (x:SC):Option SC:=match x with
 | .v u=>some (.v u)
 | .sl sh l=>some (.sl sh l)
 | .fp sh d=>some (.fp sh d)
 | .one sh d=>some (.one sh d)
 | .row r=>match eX s.T r with
   | some (Gr,.row _ sh l)=>match rY Gr G with
     | true=>some (.sl sh l)
     | false=>none
   | some (Gr,.deep _ sh l _ _ _ _ [])=>match rY Gr G with
     | true=>some (.sl sh l)
     | false=>none
   | some (Gr,.mp k sh l)=>match rY Gr G with
     | true=>some (.one (.mp k sh) l)
     | false=>none
   | _=>none
 | _=>none
abbrev Zg(s:St) (G:Gd):List SC->Option (List SC)
 | []=>some []
 | x :: l=>match ae9 s G x with
   | some y=>match Zg s G l with
     | some m=>some (y :: m)
     | none=>none
   | none=>none
abbrev afa(s:St) (G:Gd) (v:SV):Option SV:=match v with
 | .c x=>match ae9 s G x with
   | some y=>some (.c y)
   | none=>none
 | .agg xs=>match Zg s G xs with
   | some ys=>some (.agg ys)
   | none=>none
 | .dat sh d=>some (.dat sh d)
 | .und=>none
abbrev isRow:SC->Bool
 | .row _=>true
 | _=>false
abbrev noRow:SV->Bool
 | .c x=>!(isRow x)
 | .agg xs=>allL (λx=>!(isRow x)) xs
 | _=>true
abbrev wF(cx:Cx) (s:St) (G:Gd):List Operand->Option (List SV)
 | []=>some []
 | x :: l=>match bM cx s G x with
   | some (.one v)=>match wF cx s G l with
     | some r=>some (v :: r)
     | none=>none
   | _=>none
abbrev IZ(s:St) (G:Gd):List SV->Option (List SV)
 | []=>some []
 | x :: l=>match afa s G x with
   | some v=>match IZ s G l with
     | some r=>some (v :: r)
     | none=>none
   | none=>none
abbrev orB:Bool->Bool->Bool
 | true,_=>true
 | false,b=>b
abbrev jy(cx:Cx) (ct:Nat->Option CT) (s:St) (G:Gd) (d:Option Nat) (f:Nat) (args:List Operand) (K:St->Prop):Prop:=match ct f with
 | none=>False
 | some c=>match wF cx s G args with
   | none=>False
   | some vs=>match IZ s G vs with
     | none=>False
     | some bs=>match Ae c.ps bs with
       | none=>False
       | some dd=>match orB (allL noRow vs) (dD (KI (c.res dd).2) (allL xG (c.res dd).1)) with
         | true=>side s.gl G (c.pre dd)/\K ({ s with T:=NR G (aP s.T) s.T (c.res dd).1 }.put d G ((c.res dd).2.sh (aP s.T)))
         | false=>False
theorem aQ.aji{α β:Type}{R:α->β->Prop}:∀{a c:List α}{l:List β},aQ R (a++c) l->∃b d,l=b++d/\aQ R a b/\aQ R c d
 | [],c,l,h=>⟨[],l,rfl,trivial,h⟩
 | x :: a,c,[],h=>h.elim
 | x :: a,c,y :: l,⟨h1,h2⟩=>by
   obtain⟨b,d,e,p,q⟩:=aQ.aji (a:=a) h2;exact⟨y :: b,d,by rw[e];rfl,⟨h1,p⟩,q⟩
theorem aQ.Ai{α β:Type}{R:α->β->Prop}{x:α}:∀{l:List β},aQ R [x] l->∃y,l=[y]/\R x y
 | [],h=>h.elim
 | [y],h=>⟨y,rfl,h.1⟩
 | _ :: _ :: _,h=>h.2.elim
theorem F8{h:FH}{β:List RV}:∀(s:Sh){d:s.den}{xs:List SC}{ys:List Value},flat s d=some xs->aQ (λx y=>dW h β x y/\dH y) xs ys->Rd h s ys d
 | .int k,n,xs,ys,e,a=>by simp[flat]at e;subst e;obtain⟨y,rfl,r⟩:=a.Ai;rw[r.1.1];rfl
 | .bool,n,xs,ys,e,a=>by simp[flat]at e;subst e;obtain⟨y,rfl,r⟩:=a.Ai;rw[r.1.1];rfl
 | .str,n,xs,ys,e,a=>by simp[flat]at e;subst e;obtain⟨y,rfl,r⟩:=a.Ai;rw[r.1.1];rfl
 | .any,n,xs,ys,e,a=>by simp[flat]at e
 | .sl s,l,xs,ys,e,a=>by simp[flat]at e;subst e;obtain⟨y,rfl,r⟩:=a.Ai;exact⟨y,rfl,r.1⟩
 | .unit,n,xs,ys,e,a=>by
   simp[flat]at e;subst e;cases ys with
   | nil=>rfl
   | cons _ _=>exact a.elim
 | .arr _ _,n,xs,ys,e,a=>by simp[flat]at e
 | .mp k s,l,xs,ys,e,a=>by simp[flat]at e;subst e;obtain⟨y,rfl,r⟩:=a.Ai;exact r.1
 | .pair a b,(x,y),xs,ys,e,al=>by
   unfold flat at e;split at e
   .rename_i p hp;split at e
    .rename_i q hq;cases e;rw[fV]at al;obtain⟨c1,c2,rfl,r1,r2⟩:=al.aji;exact⟨c1,c2,rfl,F8 a hp r1,F8 b hq r2⟩
    .cases e
   .cases e
theorem Ju:∀(s:Sh){d:s.den}{y:Value},dA h β (iL s d) y->DV h s d y
 | .int k,n,y,c=>⟨[y],rfl,by rw[c.1.1];rfl⟩
 | .bool,n,y,c=>⟨[y],rfl,by rw[c.1.1];rfl⟩
 | .str,n,y,c=>⟨[y],rfl,by rw[c.1.1];rfl⟩
 | .any,n,y,c=>⟨[y],rfl,by rw[c.1.1];exact⟨rfl,c.1.2⟩⟩
 | .sl s,l,y,c=>⟨[y],rfl,y,rfl,c.1⟩
 | .unit,n,y,⟨ys,e,a⟩=>by
   cases ys with
   | nil=>exact⟨[],e,rfl⟩
   | cons _ _=>exact a.elim
 | .arr n s,l,y,⟨_,cs,e,r⟩=>⟨cs,e,r⟩
 | .mp k s,l,y,c=>⟨[y],rfl,c.1⟩
 | .pair a b,d,y,c=>by
   have e:iL (.pair a b) d=match flat (.pair a b) d with
    | some xs=>.agg xs
    | none=>.dat (.pair a b) d:=rfl
   rw[e]at c;cases hx:flat (.pair a b) d with
   | some xs=>
     rw[hx]at c;obtain⟨ys,e,al⟩:=c;exact⟨ys,e,F8 (.pair a b) hx al⟩
   | none=>
     rw[hx]at c;obtain⟨_,cs,e,r⟩:=c;exact⟨cs,e,r⟩
theorem F9{h:FH}:∀{ss:List Sh}{d:bV ss}{ys:List Value},aQ (dA h []) (fE ss d) ys->DK h ss d ys
 | [],_,[],_=>trivial
 | [],_,_ :: _,x=>x.elim
 | _ :: _,_,[],x=>x.elim
 | s :: l,d,y :: ys,⟨a,b⟩=>⟨Ju s a,F9 b⟩
section
variable {cx:Cx}{P:Program}{N:Nat}{B:Base}{h0:FH}{s:St}{h:FH}{β:List RV}{w:World}{a:Act}{G:Gd}{o:Oper}{K:St->Prop}
theorem sO(aj:Sat N B h0 s h β w a) (hg:aK cx.gd h) (hG:gv s.gl G=true):∀{l:List Operand}{vs:List SV},wF cx s G l=some vs->aQ (dA h β) vs (l.map a.eval)
 | [],vs,e=>by simp[wF]at e;subst e;trivial
 | x :: l,vs,e=>by
   unfold wF at e;split at e
   .rename_i v hv;split at e
    .rename_i r hr;cases e;exact⟨aO aj hg hG hv,sO aj hg hG hr⟩
    .cases e
   .cases e
def FH.all(w:World):FH:=λb o=>vis w b o
theorem OK.ajj(ok:OK B h0 T h β w){k:IntKind}{s:Sh}{l:List (Int×s.den)}{y:Value} (hT:T[i]?=some (.mp k s l)) (hx:dW h β (.row i) y):β[i]?=some (.row y):=by
 obtain⟨v,e,es⟩:=hx;have hold:=ok.holds i _ _ hT e
 match v,hold,es with
 | .row v,_,es=>cases es;exact e
theorem OK.ajk(ok:OK B h0 T h β w){k:IntKind}{s:Sh}{l:List (Int×s.den)}{y:Value} (hT:T[i]?=some (.mp k s l)) (hx:dW h β (.row i) y):
 ∃b es c,y=.map (some b)/\w.heap[b]?=some (.map es c)/\vM k (DW h s) es c l:=ok.holds i _ _ hT (ok.ajj hT hx)
theorem TU(aj:Sat N B h0 s h β w a) (hG:gv s.gl G=true){x y:SC} (e:ae9 s G x=some y) (c:dW h β x v):
 dW (FH.all w) [] y v/\(isRow x=false->dW h [] y v):=by
 have le:h.le (FH.all w):=aj.ok.hw;unfold ae9 at e;split at e
 .cases e;exact⟨c,λ_=>c⟩
 .cases e;exact⟨rU.mono le (λ_ _=>Rd.mono le _) c,λ_=>c⟩
 .cases e;obtain⟨b,o,cs,e,r,at_⟩:=c;exact⟨⟨b,o,cs,e,r.mono le _,at_.mono le⟩,λ_=>⟨b,o,cs,e,r,at_⟩⟩
 .cases e;exact⟨Rd.mono le _ c,λ_=>c⟩
 .rename_i r;split at e
  .rename_i Gr tt sh l hT;split at e
   .rename_i hs;cases e;refine⟨?_,λhh=>by cases hh⟩
    rcases aj.ok.holds r _ _ (bF hT (fO hs hG)) (aj.ok.row_of (bF hT (fO hs hG)) c) with⟨e1,e2⟩ | ⟨ra,e1,e2⟩ | ⟨g,cap,cur,e1,q1,q2,q3,q4,q5⟩
    .exact .inl ⟨e1,e2⟩
    .exact .inr (.inl ⟨ra,0,e1,e2,Iz _⟩)
    .refine .inr (.inr ⟨g,0,cap,e1,q2,q3.2,_,q5.mono λ_ _=>Rd.mono le sh,λj u hj=>?_⟩)
     show vis w g (0+j)=some u;rw[Iy];have h1:=gQ.all (λ_ _=>Rd.one sh) q5 u (iJ hj)
     rw[wZ]at hj;split at hj
     .exact oW q1 (by simpa using hj) h1.2
     .cases hj
   .cases e
  .rename_i Gr tt sh l t2 e2 so own hT;split at e
   .rename_i hs;cases e;refine⟨?_,λhh=>by cases hh⟩
    obtain⟨us,_,hd⟩:=aj.ok.xB (bF hT (fO hs hG)) c;exact hd.data le λb _ o z hz=>hz
   .cases e
  .rename_i Gr k sh l hT;split at e
   .rename_i hs;cases e;refine⟨?_,λhh=>by cases hh⟩
    obtain⟨b,es,cl,hb,hw,m⟩:=aj.ok.ajk (bF hT (fO hs hG)) c;exact⟨_,rfl,.inr ⟨b,es,cl,hb,Tq hw,m.mono λ_ _=>DW.mono le⟩⟩
   .cases e
  .cases e
 .cases e
theorem TV(aj:Sat N B h0 s h β w a) (hG:gv s.gl G=true):∀{xs ys:List SC}{vs:List Value},Zg s G xs=some ys->aQ (λx y=>dW h β x y/\dH y) xs vs ->
 aQ (λx y=>dW (FH.all w) [] x y/\dH y) ys vs/\(allL (λx=>!(isRow x)) xs=true->aQ (λx y=>dW h [] x y/\dH y) ys vs)
 | [],ys,[],e,_=>by simp[Zg]at e;subst e;exact⟨trivial,λ_=>trivial⟩
 | x :: l,ys,v :: vs,e,⟨c,r⟩=>by
   unfold Zg at e;split at e
   .rename_i y hy;split at e
    .rename_i m hm;cases e;obtain⟨h1,h2⟩:=TU aj hG hy c.1;obtain⟨h3,h4⟩:=TV aj hG hm r;refine⟨⟨⟨h1,c.2⟩,h3⟩,λhh=>?_⟩
     simp only[allL,aC,A8]at hh;exact⟨⟨h2 (by simpa using hh.1),c.2⟩,h4 hh.2⟩
    .cases e
   .cases e
theorem TW(aj:Sat N B h0 s h β w a) (hG:gv s.gl G=true){x y:SV} (e:afa s G x=some y) (c:dA h β x v):
 dA (FH.all w) [] y v/\(noRow x=true->dA h [] y v):=by
 have le:h.le (FH.all w):=aj.ok.hw;unfold afa at e;split at e
 .split at e
  .rename_i y hy;cases e;obtain⟨h1,h2⟩:=TU aj hG hy c.1;exact⟨⟨h1,c.2⟩,λhh=>⟨h2 (by simpa[noRow]using hh),c.2⟩⟩
  .cases e
 .split at e
  .rename_i ys hy;cases e;obtain⟨vs,e1,e2⟩:=c;obtain⟨h1,h2⟩:=TV aj hG hy e2;exact⟨⟨vs,e1,h1⟩,λhh=>⟨vs,e1,h2 hh⟩⟩
  .cases e
 .cases e;obtain⟨g,cs,e1,r⟩:=c;exact⟨⟨g,cs,e1,r.mono le _⟩,λ_=>⟨g,cs,e1,r⟩⟩
 .cases e
theorem Aj(aj:Sat N B h0 s h β w a) (hG:gv s.gl G=true):∀{xs ys:List SV}{vs:List Value},IZ s G xs=some ys->aQ (dA h β) xs vs ->
 aQ (dA (FH.all w) []) ys vs/\(allL noRow xs=true->aQ (dA h []) ys vs)
 | [],ys,[],e,_=>by simp[IZ]at e;subst e;exact⟨trivial,λ_=>trivial⟩
 | x :: l,ys,v :: vs,e,⟨c,r⟩=>by
   unfold IZ at e;split at e
   .rename_i y hy;split at e
    .rename_i m hm;cases e;obtain⟨h1,h2⟩:=TW aj hG hy c;obtain⟨h3,h4⟩:=Aj aj hG hm r;refine⟨⟨h1,h3⟩,λhh=>?_⟩
     simp only[allL,aC,A8]at hh;exact⟨h2 hh.1,h4 hh.2⟩
    .cases e
   .cases e
theorem Gg{lb:Array Value}{suf:List Value} (hct:∀c,ct f=some c->∀(d:bV c.ps) (vs:List Value) (h':FH),h.le h'->(∀b o v,h' b o=some v->vis w b o=some v)->aK cx.gd h'->aQ (dA h' []) (fE c.ps d) vs->c.pre d->Calls P f (vs++suf).toArray w (λen w'=>∃h'' β y,en=.returned y/\OK (Base.of w) h' (c.res d).1 h'' β w'/\kC h'' β (c.res d).2 y)) (aj:Sat N B h0 s h β w a) (hg:aK cx.gd h) (hG:xq s.gl.length G=true) (hd:mF N o.dst=true) (ho:o.op=.call c)
 {x:Operand}{xs:List Operand} (bW:c.callee=.value x) (hx:gv s.gl G=true->a.eval x=.func (.func f) #[] lb) (hxs:c.args.map a.eval++lb=(xs.map a.eval++suf).toArray)
 (hf:∃fn,P.funcs[f]?=some fn/\fn.body.isSome=true/\(fn.name == "runtime.NumGoroutine")=false)
 (k:jy cx ct s G o.dst f xs K):gV P N B h0 h w a o (gv s.gl G) K:=by
 unfold jy at k;split at k
 .cases k
 rename_i cc hcc;split at k
 .cases k
 rename_i vs hvs;split at k
 .cases k
 rename_i bs hbs;split at k
 .cases k
 rename_i dd hdd;split at k
 .rename_i NS;obtain⟨T',gu⟩:∃T',T'=(cc.res dd).1:=⟨_,rfl⟩;obtain⟨e,he0⟩:∃e,e=(cc.res dd).2:=⟨_,rfl⟩;rw[<-gu,<-he0]at k NS;have gT:∀p∈NR G (aP s.T) s.T T',xq s.gl.length p.1=true:=by
   intro p hp;rw[EG,Et]at hp;rcases hp with hp | hp
   .exact aj.gT p hp
   .simp only[Qn]at hp;obtain⟨r,_,rfl⟩:=hp;exact hG
  have hlen:=lU aj;intro Nx Q next
  cases hgv:gv s.gl G with
  | false=>
    rw[if_neg (by simp)]
    refine next _ h (β++List.replicate T'.length .no) _ _ k.2 (FH.le.refl h) (λ_=>nU.refl w) ?_
    have ok:OK B h0 (eff s.gl (NR G (aP s.T) s.T T')) h (β++List.replicate T'.length .no) w:=by
     rw[EG,pK,yF hgv];exact aj.ok.TT _
    exact(aj.mem ok (FH.le.refl h) (Ext.append _ _) gT).put (dS hd) hG (λhh=>by simp only at hh;rw[hgv]at hh;cases hh) λ_=>rfl
  | true=>
    rw[if_pos rfl];obtain⟨fn,hfn,hbody,hname⟩:=hf;have hav:=sO aj hg hgv hvs;have aH:=fG k.1 hgv;have exec:(execOp a.eval o).run P w=.ok (.enter f (c.args.map a.eval++lb)) w:=by
     simp only[execOp,ho,resolve,bW,hx hgv,Deferred.ofValue,invoke,Sem.run_bind,Sem.run_pure,Result.andThen_ok,callFunc,run_program,aj3,Array.append_empty,hfn,hname];simp[hbody];cases hb:fn.body with
     | none=>rw[hb]at hbody;cases hbody
     | some _=>simp
    have hargs:=hxs;unfold Oper.wp;rw[exec];simp only[Oper.upon];rw[hargs];obtain⟨b1,b2⟩:=Aj aj hgv hbs hav;have fin:∀{hb:FH}{h':FH}{β':List RV}{w':World}{y:Value}{hn:FH},OK (Base.of w) hb T' h' β' w'->h.le hn ->
     (∀(j:Nat) r v,T'[j]?=some r->Holds h' β' w' r v->Holds hn (β++β') w' (r.sh β.length) v)->(∀b o v,hn b o=some v->vis w' b o=some v) ->
     (∀b o v,hn b o=some v->h b o=some v\/(w.heap.size<=b/\h' b o=some v))->kC hn (β++β') (e.sh β.length) y->Nx (a.put o.dst y) w':=by
     intro hb h' β' w' y hn ok' le conv hnw hng he;have ok:=aj.ok.call ok' le conv hnw hng;refine next _ hn (β++β') _ _ k.2 le (λ_=>nU.of_below (Bw.bel ok'.below)) ?_
     have okT:OK B h0 (eff s.gl (NR G (aP s.T) s.T T')) hn (β++β') w':=by
      rw[EG,pK,Ah hgv,<-hlen];exact ok
     rw[hlen]at he;exact(aj.mem okT le (Ext.append _ _) gT).put (dS hd) hG (λ_=>he) λhh=>by simp only at hh;rw[hgv]at hh;cases hh
    have keep:∀{hb h':FH}{β':List RV}{w':World},OK (Base.of w) hb T' h' β' w'->∀b o v,h b o=some v->vis w' b o=some v:=by
     intro hb h' β' w' ok' b o v hh;have h1:=aj.ok.hw b o v hh;exact(kD ((Bw.bel ok'.below).block b (o9 h1))).trans h1
    cases hnr:allL noRow vs with
    | true=>
      refine(hct cc hcc dd _ h (FH.le.refl h) aj.ok.hw hg (Af hdd (b2 hnr)) aH).mono ?_;rintro en w' ⟨h',β',y,rfl,ok',he⟩;rw[<-gu]at ok';rw[<-he0]at he;refine fin ok' ok'.hle (λj r v _ hh=>hh.shift) ok'.hw (λb o v hh=>?_) he.shift
      rcases ok'.hg b o v hh with h1 | h1
      .exact .inl h1
      .exact .inr ⟨h1,hh⟩
    | false=>
      rw[hnr]at NS;simp only[orB,aC,A8]at NS;refine(hct cc hcc dd _ (FH.all w) aj.ok.hw (λ_ _ _ hh=>hh) (hg.mono aj.ok.hw) (Af hdd b1) aH).mono ?_
      rintro en w' ⟨h',β',y,rfl,ok',he⟩;rw[<-gu]at ok';rw[<-he0]at he;refine fin ok' (FH.le.refl h) (λj r v hj hh=>(hh.flat ?_).shift) (keep ok') (λb o v hh=>.inl hh) (he.flat NS.1).shift
      have:∀{l:List au}{j:Nat}{r:au},allL xG l=true->l[j]?=some r->xG r=true:=by
       intro l
       induction l with
       | nil=>intro j r _ e;simp at e
       | cons x l ih=>
         intro j r hh e;simp only[allL,aC,A8]at hh;cases j with
         | zero=>simp at e;subst e;exact hh.1
         | succ j=>exact ih hh.2 (by simpa using e)
      exact this NS.2 hj
 .cases k
theorem yZ{suf:List Value} (hct:∀c,ct f=some c->∀(d:bV c.ps) (vs:List Value) (h':FH),h.le h'->(∀b o v,h' b o=some v->vis w b o=some v)->aK cx.gd h'->aQ (dA h' []) (fE c.ps d) vs->c.pre d->Calls P f (vs++suf).toArray w (λen w'=>∃h'' β y,en=.returned y/\OK (Base.of w) h' (c.res d).1 h'' β w'/\kC h'' β (c.res d).2 y)) (aj:Sat N B h0 s h β w a) (hg:aK cx.gd h) (hG:xq s.gl.length G=true) (hd:mF N o.dst=true) (ho:o.op=.call c)
 {x:Operand}{xs:List Operand} (bW:c.callee=.value x) (hx:gv s.gl G=true->a.eval x=.func (.func f) #[] #[]) (hxs:c.args.map a.eval=(xs.map a.eval++suf).toArray)
 (hf:∃fn,P.funcs[f]?=some fn/\fn.body.isSome=true/\(fn.name == "runtime.NumGoroutine")=false)
 (k:jy cx ct s G o.dst f xs K):gV P N B h0 h w a o (gv s.gl G) K:=
 Gg hct aj hg hG hd ho bW hx (by rw[Array.append_empty];exact hxs) hf k
theorem uH{suf:List Value} (hct:∀f c,ct f=some c->CTX P cx.gd f suf c) (aj:Sat N B h0 s h β w a) (hg:aK cx.gd h) (hG:xq s.gl.length G=true) (hd:mF N o.dst=true) (ho:o.op=.call c)
 {x:Operand}{xs:List Operand} (bW:c.callee=.value x) (hx:gv s.gl G=true->a.eval x=.func (.func f) #[] #[]) (hxs:c.args.map a.eval=(xs.map a.eval++suf).toArray)
 (hf:∃fn,P.funcs[f]?=some fn/\fn.body.isSome=true/\(fn.name == "runtime.NumGoroutine")=false)
 (k:jy cx ct s G o.dst f xs K):gV P N B h0 h w a o (gv s.gl G) K:=
 yZ (λc e d vs h' _ hw hg' ha hp=>hct f c e d vs h' w hw hg' ha hp) aj hg hG hd ho bW hx hxs hf k
theorem WT(hct:∀f c,ct f=some c->NQ P cx.gd f c) (aj:Sat N B h0 s h β w a) (hg:aK cx.gd h) (hG:xq s.gl.length G=true) (hd:mF N o.dst=true) (ho:o.op=.call c) (bW:c.callee=.value (.func f))
 (hf:∃fn,P.funcs[f]?=some fn/\fn.body.isSome=true/\(fn.name == "runtime.NumGoroutine")=false)
 (k:jy cx ct s G o.dst f (tl c.args) K):gV P N B h0 h w a o (gv s.gl G) K:=
 uH (suf:=[]) (λf c e=>(hct f c e).x) aj hg hG hd ho bW (λ_=>rfl) (by cases c.args;simp) hf k
end
section
variable {P:Program}{ops:Array Oper}{md:Region.Mode}{sf:Nat->Bool}
abbrev KJ:Exit->Act->World->Prop:=λ_ _ _=>False
def BR(P:Program) (ops:Array Oper) (i:Nat) (K:Act->World->Prop) (a:Act) (w:World):Prop:=
 match ops[i]? with
 | none=>K a w
 | some o=>if Region.wanted o (yielded ops a.tmps)=true then o.wp P a w K KJ else K (a.put o.dst undef) w
theorem y5{Q:Exit->Act->World->Prop} (h:LetsOut KJ):LetsOut Q:=by
 unfold LetsOut at *;obtain⟨_,_,hh⟩:=h;exact False.elim hh
theorem NT{K K':Act->World->Prop} (h:∀a w,K a w->K' a w) (hh:BR P ops i K a w):BR P ops i K' a w:=by
 unfold BR at *;split
 .exact h _ _ (by simpa[*]using hh)
 .rename_i o ho;simp only[ho]at hh;split
  .rename_i hw;rw[if_pos hw]at hh;exact Oper.wp_mono h hh
  .rename_i hw;rw[if_neg hw]at hh;exact h _ _ hh
abbrev y7(ops:Array Oper) (i:Nat):Bool:=match ops[i]? with
 | some o=>quietly o.op
 | none=>true
def anyI(P:Program) (md:Region.Mode) (ops:Array Oper) (sf:Nat->Bool) (R:Act->World->Prop):Nat->Array Bool->Act->World->Prop
 | 0,listed,a,w=>Region.ready md ops listed=[]/\R a w
 | fuel+1,listed,a,w=>(Region.ready md ops listed=[]->R a w) /\
   ∀i∈Region.ready md ops listed,BR P ops i (λa' w'=>(sf i=true->nU w w')/\anyI P md ops sf R fuel (listed.setIfInBounds i true) a' w') a w
def YI(P:Program) (ops:Array Oper) (ld:Bool) (w0:World) (o:Oper) (v:Value) (a:Act):Prop:=
 (Region.wanted o (yielded ops a.tmps)=true/\∀w,(ld=true->nU w0 w)->(execOp a.eval o).run P w=.ok (.value v) w) \/
 (Region.wanted o (yielded ops a.tmps)=false/\v=undef)
theorem YI.of_same{ld:Bool}{w0:World}{a':Act} (hy:YI P ops ld w0 o v a) (he:execOp a'.eval o=execOp a.eval o)
 (hw:Region.wanted o (yielded ops a'.tmps)=Region.wanted o (yielded ops a.tmps)):YI P ops ld w0 o v a':=by
 unfold YI at *;rw[he,hw];exact hy
theorem YI.BR{ld:Bool}{w0:World}{i:Nat}{o:Oper}{v:Value}{a:Act} (hi:ops[i]?=some o) (hy:YI P ops ld w0 o v a){K:Act->World->Prop}{w:World} (hg:ld=true->nU w0 w)
 (h:K (a.put o.dst v) w):BR P ops i K a w:=by
 unfold Go.mQ.BR;simp only[hi];rcases hy with⟨hw,hv⟩ | ⟨hw,rfl⟩
 .rw[if_pos hw];unfold Oper.wp;rw[hv w hg];exact h
 .rw[if_neg (by rw[hw];simp)];exact h
theorem afb{ld:Bool}{w0:World}{j:Nat}{oi oj:Oper} (hj:ops[j]?=some oj) (hap:oi.apart ops oj=true)
 (hsi:∀cs b,oi.op≠.select cs b) (hsj:∀cs b,oj.op≠.select cs b){K:Act->World->Prop}
 (hy:YI P ops ld w0 oi v a) (h:BR P ops j K (a.put oi.dst v) w):
 BR P ops j (λa' w'=>YI P ops ld w0 oi v a'/\K (a'.put oi.dst v) w') a w:=by
 obtain⟨h1,h2,h3⟩:=Oper.apart_spec hap;have keep:∀(a:Act),YI P ops ld w0 oi v a->∀u,YI P ops ld w0 oi v (a.put oj.dst u):=λa hy u=>
  hy.of_same (execOp_put oi hsi a oj.dst u h3) (wanted_put oi a oj.dst u h3)
 have keepD:∀d,YI P ops ld w0 oi v { a with defers:=d :: a.defers }:=λd=>hy.of_same rfl rfl
 unfold BR at *;simp only[hj]at *;rw[wanted_put oj a oi.dst v h1]at h;split
 .rename_i hw;rw[if_pos hw]at h;unfold Oper.wp at *;rw[execOp_put oj hsj a oi.dst v h1]at h;generalize (execOp a.eval oj).run P w=r at *;cases r with
  | ok n w'=>
    cases n<;>simp only[Oper.upon]at h ⊢
    case value u=>exact⟨keep a hy u,by rw[<-Act.put_comm a v u h2];exact h⟩
    case skip=>exact⟨keep a hy _,by rw[<-Act.put_comm a v undef h2];exact h⟩
    case defer d=>
     refine⟨(keep _ (keepD d) _),?_⟩;rw[<-Act.put_comm _ v undef h2,<-Act.put_defers];exact h
    case enter f args=>
     refine h.mono λe w'' he=>?_
     cases e with
     | returned u=>exact⟨keep a hy u,by rw[<-Act.put_comm a v u h2];exact he⟩
     | panicked c=>exact he
     | outgrown=>exact he
    case row r args=>
     refine Rows.mono h λu w'' he=>?_
     exact⟨keep a hy u,by rw[<-Act.put_comm a v u h2];exact he⟩
    all_goals exact h
  | halt x w'=>cases x<;>simp only[Oper.upon]at h ⊢<;>exact h
 .rename_i hw;rw[if_neg hw]at h;exact⟨keep a hy _,by rw[<-Act.put_comm a v undef h2];exact h⟩
def Waits(md:Region.Mode) (ops:Array Oper) (listed:Array Bool) (i:Nat) (bl:List Nat):Prop:=
 ∀j∈bl,listed.getD j true=false/\∃o,ops[j]?=some o/\∃e∈o.after,Region.binds md e=true/\(e.on=i\/e.on∈bl)
theorem xH{listed:Array Bool} (h:listed.getD i true=false):listed.getD i false=false:=by
 rcases Yz i listed.size with h' | h'
 .simp[h']at h ⊢;exact h
 .simp[aeN h']at h
theorem Jv{listed:Array Bool}{j:Nat}{bl:List Nat} (hi:listed.getD i true=false) (hw:Waits md ops listed i bl) (hj:j∈bl):j∉Region.ready md ops listed:=by
 intro hr;obtain⟨_,oj,hoj,hall⟩:=mem_ready.1 hr;obtain⟨_,o,ho,e,he,hb,hh⟩:=hw j hj;rw[hoj]at ho;cases ho;have h1:=hall e he hb;rcases hh with hh | hh
 .rw[hh,xH hi]at h1;cases h1
 .rw[xH (hw _ hh).1]at h1;cases h1
theorem Gh{R:Act->World->Prop}{ld:Bool}{w0:World}{oi:Oper}{bl:List Nat} (hi:ops[i]?=some oi) (hsel:∀(j:Nat) (o:Oper) cs b,ops[j]?=some o->o.op≠.select cs b)
 (hq:sf i=true):
 ∀(fuel:Nat) (listed:Array Bool) (a:Act) (w:World),
   (∀j oj,ops[j]?=some oj->j≠i->listed.getD j true=false->(∀e∈oj.after,Region.binds md e=true->e.on≠i)->oi.apart ops oj=true) ->
   (ld=true->Waits md ops listed i bl/\∀j,j≠i->listed.getD j true=false->sf j=false->j∈bl) ->
   i∈Region.ready md ops listed->YI P ops ld w0 oi v a->(ld=true->nU w0 w) ->
   anyI P md ops sf R fuel (listed.setIfInBounds i true) (a.put oi.dst v) w->anyI P md ops sf R (fuel+1) listed a w:=by
 intro fuel
 induction fuel with
 | zero=>
   intro listed a w _ _ hr hy hg H;refine⟨λh=>(by rw[h]at hr;cases hr),λj hj=>?_⟩
   by_cases hji:j=i
   .subst hji;exact hy.BR hi hg ⟨λ_=>nU.refl w,H⟩
   .have:=ready_mono hj hji;rw[H.1]at this;cases this
 | succ fuel ih=>
   intro listed a w hfree hbl hr hy hg H;refine⟨λh=>(by rw[h]at hr;cases hr),λj hj=>?_⟩
   by_cases hji:j=i
   .subst hji;exact hy.BR hi hg ⟨λ_=>nU.refl w,H⟩
   .have h1:=H.2 j (ready_mono hj hji);obtain⟨hjun,oj,hoj,hall⟩:=mem_ready.1 hj;have Zh:=(mem_ready.1 hr).1;have hnot:∀e∈oj.after,Region.binds md e=true->e.on≠i:=λe he hb heq=>by
     have h1:=hall e he hb;rw[heq,xH Zh]at h1;cases h1
    have h2:=afb hoj (hfree j oj hoj hji hjun hnot) (λcs b=>hsel i oi cs b hi) (λcs b=>hsel j oj cs b hoj) hy h1
    have hfree':∀k ok,ops[k]?=some ok->k≠i->(listed.setIfInBounds j true).getD k true=false ->
     (∀e∈ok.after,Region.binds md e=true->e.on≠i)->oi.apart ops ok=true:=λk ok hk hki hun hno=>by
     refine hfree k ok hk hki ?_ hno
     by_cases ji:j=k
     .subst ji;exact hjun
     .rw[getD_set_ne true ji]at hun;exact hun
    have Zi:ld=true->j∉bl:=λe hm=>Jv Zh (hbl e).1 hm hj
    have hsj:ld=true->sf j=true:=λe=>by
     cases hs:sf j with
     | true=>rfl
     | false=>exact absurd ((hbl e).2 j hji hjun hs) (Zi e)
    have akl:ld=true->Waits md ops (listed.setIfInBounds j true) i bl/\∀k,k≠i->(listed.setIfInBounds j true).getD k true=false->sf k=false->k∈bl:=λe=>by
     refine⟨λk hk=>?_,λk hki hun hs=>?_⟩
     .obtain⟨g1,g2⟩:=(hbl e).1 k hk;refine⟨?_,g2⟩;rw[getD_set_ne true (λhh=>Zi e (by rw[hh];exact hk))];exact g1
     .refine(hbl e).2 k hki ?_ hs
      by_cases ji:j=k
      .subst ji;exact hjun
      .rw[getD_set_ne true ji]at hun;exact hun
    refine NT (λa' w' h3=>⟨h3.2.1,ih (listed.setIfInBounds j true) a' w' hfree' akl (ready_mono hr (Ne.symm hji)) h3.1 (λe=>(hg e).trans (h3.2.1 (hsj e))) ?_⟩) h2
    rw[Array.setIfInBounds_comm _ _ hji];exact h3.2.2
end
abbrev Jw(i k n:Nat):Nat:=match Nat.beq n i with
 | true=>k
 | false=>match Nat.beq n k with
   | true=>i
   | false=>n
theorem Zj(h:¬n=i):Nat.beq n i=false:=by
 cases hb:Nat.beq n i with
 | true=>exact absurd (iE hb) h
 | false=>rfl
theorem QH(i k n:Nat):Jw i k n=if n=i then k else if n=k then i else n:=by
 unfold Jw
 by_cases h:n=i
 .subst h;simp
 .rw[if_neg h,Zj h]
  by_cases h2:n=k
  .subst h2;simp
  .rw[if_neg h2,Zj h2]
theorem Ak(i k n:Nat):Jw i k (Jw i k n)=n:=by
 simp only[QH];split<;>split<;>simp_all<;>omega
abbrev SC.sw(i k:Nat):SC->SC
 | .own a o=>.own (Jw i k a) o
 | .row a=>.row (Jw i k a)
 | .kE a j sz o=>.kE (Jw i k a) j sz o
 | .sub a j=>.sub (Jw i k a) j
 | .mO a j m sz o=>.mO (Jw i k a) j m sz o
 | x=>x
abbrev SV.sw(i k:Nat):SV->SV
 | .c x=>.c (x.sw i k)
 | .agg xs=>.agg (eY (SC.sw i k) xs)
 | v=>v
abbrev bg.sw(i k:Nat):bg->bg
 | .one x=>.one (x.sw i k)
 | .iR xs=>.iR (eY (SV.sw i k) xs)
abbrev au.sw(i k:Nat):au->au
 | .blk t cs=>.blk t (eY (SC.sw i k) cs)
 | r=>r
def xI(i k:Nat) (β β':List RV):Prop:=∀j,β'[Jw i k j]?=β[j]?
theorem dW.sw{h:FH}{β β':List RV}{i k:Nat} (sb:xI i k β β'):∀{x:SC}{y:Value},dW h β x y->dW h β' (x.sw i k) y
 | .v _,_,e=>e
 | .sl _ _,_,e=>e
 | .fp _ _,_,e=>e
 | .one _ _,_,e=>e
 | .own a o,_,⟨b,e,e'⟩=>⟨b,by rw[sb];exact e,e'⟩
 | .row a,y,⟨v,e,e'⟩=>⟨v,by rw[sb];exact e,e'⟩
 | .sub _ _,_,⟨v,us,e,e'⟩=>⟨v,us,by rw[sb];exact e,e'⟩
 | .mO _ _ _ _ _,_,⟨v,us,g,e,e'⟩=>⟨v,us,g,by rw[sb];exact e,e'⟩
 | .kE _ _ _ _,_,⟨v,g,e,e'⟩=>⟨v,g,by rw[sb];exact e,e'⟩
 | .abs _,_,e=>e
 | .junk,_,_=>trivial
theorem xJ{α β:Type}{R R':α->β->Prop}{f:α->α} (hR:∀a b,R a b->R' (f a) b):∀{l:List α}{m:List β},aQ R l m->aQ R' (eY f l) m
 | [],[],_=>trivial
 | _ :: _,_ :: _,⟨a,b⟩=>⟨hR _ _ a,xJ hR b⟩
theorem dA.sw{h:FH}{β β':List RV}{i k:Nat} (sb:xI i k β β'):∀{x:SV}{y:Value},dA h β x y->dA h β' (x.sw i k) y
 | .c _,_,⟨e,o⟩=>⟨e.sw sb,o⟩
 | .agg _,_,⟨ys,e,a⟩=>⟨ys,e,xJ (λ_ _ ⟨p,q⟩=>⟨p.sw sb,q⟩) a⟩
 | .dat _ _,_,e=>e
 | .und,_,e=>e
theorem kC.sw{h:FH}{β β':List RV}{i k:Nat} (sb:xI i k β β'):∀{x:bg}{y:Value},kC h β x y->kC h β' (x.sw i k) y
 | .one _,_,e=>dA.sw sb e
 | .iR _,_,⟨ys,e,a⟩=>⟨ys,e,xJ (λ_ _ p=>dA.sw sb p) a⟩
theorem Holds.sw{h:FH}{β β':List RV}{w:World}{i k:Nat} (sb:xI i k β β'):∀{r:au}{v:RV},Holds h β w r v->Holds h β' w (r.sw i k) v
 | .blk _ _,.blk _,⟨ys,e,a⟩=>⟨ys,e,xJ (λ_ _ ⟨p,q⟩=>⟨p.sw sb,q⟩) a⟩
 | .row _ _ _,.row _,e=>e
 | .obj _ _ _,.blk _,e=>e
 | .deep _ _ _ _ _ _ _ _,.deep _ _,e=>e
 | .mp _ _ _,.row _,e=>e
 | .P5 _ _ _ _,.deep _ _,e=>e
 | .it _ _ _ _,.blk _,e=>e
 | .Nl _ _ _ _,.row _,e=>e
 | .Jl _ _ _ _,.deep _ _,e=>e
 | .gone,_,_=>trivial
theorem au.KL{k:Nat} (r:au):(r.sw i k).live=r.live:=by cases r<;>rfl
theorem OK.sw{B:Base}{h0:FH}{T T':List au}{h:FH}{β β':List RV}{w:World}{i k:Nat} (ok:OK B h0 T h β w) (sb:xI i k β β') (hl:β'.length=T'.length)
 (sT:∀j,T'[Jw i k j]?=(T[j]?).map (au.sw i k)):OK B h0 T' h β' w:=by
 have gT:∀{j:Nat}{r:au},T'[j]?=some r->∃r0,T[Jw i k j]?=some r0/\r=r0.sw i k:=by
  intro j r e;have:=sT (Jw i k j);rw[Ak,e]at this;cases hT:T[Jw i k j]? with
  | none=>rw[hT]at this;cases this
  | some r0=>rw[hT]at this;exact⟨r0,rfl,by simpa using this⟩
 have gB:∀{j:Nat}{v:RV},β'[j]?=some v->β[Jw i k j]?=some v:=by
  intro j v e;have:=sb (Jw i k j);rw[Ak,e]at this;exact this.symm
 refine⟨ok.below,ok.dr,hl,λj r v e1 e2=>?_,λj r v b e1 l1 e2 e3=>?_,λj j' r r' u v b e1 l1 e2 l2 e3 e4 e5 e6=>?_,ok.hle,ok.hw,ok.hg,ok.kn⟩
 .obtain⟨r0,f1,rfl⟩:=gT e1;exact(ok.holds _ _ _ f1 (gB e2)).sw sb
 .obtain⟨r0,f1,rfl⟩:=gT e1;exact ok.own _ _ _ _ f1 (by rw[<-au.KL];exact l1) (gB e2) e3
 .obtain⟨r0,f1,rfl⟩:=gT e1;obtain⟨r1,f2,rfl⟩:=gT e2;have:=ok.inj _ _ _ _ _ _ _ f1 (by rw[<-au.KL];exact l1) f2 (by rw[<-au.KL];exact l2) (gB e3) (gB e4) e5 e6
  have h2:=oV (Jw i k) this
  rwa [Ak,Ak]at h2
abbrev swE(i k:Nat):List (Nat×Gd×bg)->List (Nat×Gd×bg)
 | []=>[]
 | (t,g,e) :: l=>(t,g,e.sw i k) :: swE i k l
abbrev swT(i k:Nat) (T:List (Gd×au)):List (Gd×au):=match eX T i with
 | some a=>match eX T k with
   | some b=>eY (λp=>(p.1,p.2.sw i k)) (dB (dB T i b) k a)
   | none=>T
 | none=>T
abbrev swS(i k:Nat) (s:St):St:={ s with T:=swT i k s.T,env:=swE i k s.env }
theorem KN{i k:Nat}:∀{l:List (Nat×Gd×bg)}{t:Nat},iK (swE i k l) t=(iK l t).map λp=>(p.1,p.2.sw i k)
 | [],_=>rfl
 | (u,g,e) :: l,t=>by
   rw[show swE i k ((u,g,e) :: l)=(u,g,e.sw i k) :: swE i k l from rfl,aY,aY]
   split
   .rfl
   .exact KN
theorem Gi{α β:Type} (f:α->β):∀l:List α,eY f l=l.map f
 | []=>rfl
 | _ :: l=>by simp[eY,Gi f l]
theorem TY{k:Nat}{T:List (Gd×au)} (hi:i < T.length) (hk:k < T.length) (j:Nat):(swT i k T)[Jw i k j]?=(T[j]?).map λp=>(p.1,p.2.sw i k):=by
 unfold swT;rw[fM,kP hi];simp only;rw[fM,kP hk];simp only;rw[Gi,Ec,gU,gU]
 congr 1
 rw[QH]
 by_cases h1:j=i
 .subst h1;rw[if_pos rfl,qm (by simpa using hk),kP hi]
 .rw[if_neg h1]
  by_cases h2:j=k
  .subst h2;rw[if_pos rfl,mJ (by omega),qm hi,kP hk]
  .rw[if_neg h2,mJ (by omega),mJ (by omega)]
theorem afc{k:Nat}{T:List (Gd×au)}:(swT i k T).length=T.length:=by
 unfold swT;split
 .split
  .rw[Gi,gU,gU];simp
  .rfl
 .rfl
theorem QI{k:Nat} (hi:i < β.length) (hk:k < β.length):∃β',β'.length=β.length/\xI i k β β':=by
 refine⟨(β.set i β[k]).set k β[i],by simp,λj=>?_⟩
 rw[QH]
 by_cases h1:j=i
 .subst h1;rw[if_pos rfl,qm (by simpa using hk),kP hi]
 .rw[if_neg h1]
  by_cases h2:j=k
  .subst h2;rw[if_pos rfl,mJ (by omega),qm hi,kP hk]
  .rw[if_neg h2,mJ (by omega),mJ (by omega)]
theorem Sat.sw{N:Nat}{B:Base}{h0:FH}{s:St}{h:FH}{β:List RV}{w:World}{a:Act} (aj:Sat N B h0 s h β w a){i k:Nat} (hi:i < s.T.length) (hk:k < s.T.length):
 ∃β',Sat N B h0 (swS i k s) h β' w a:=by
 have hlen:β.length=s.T.length:=by rw[aj.ok.len,jm]
 obtain⟨β',hl,sb⟩:=QI (β:=β) (i:=i) (k:=k) (by omega) (by omega)
 refine⟨β',?_,?_,?_,aj.defers,aj.sz,?_,?_⟩
 .refine aj.ok.sw sb (by rw[hl,jm,afc,hlen]) λj=>?_
  rw[jO,jO,TY hi hk];cases s.T[j]? with
  | none=>rfl
  | some p=>
    simp only[Yb];cases gv s.gl p.1<;>rfl
 .intro t G e ht;rw[show(swS i k s).env=swE i k s.env from rfl,KN]at ht
  cases hl:iK s.env t with
  | none=>rw[hl]at ht;cases ht
  | some p=>
    rw[hl]at ht;cases ht;obtain⟨z,q1,q2,q3⟩:=aj.env t p.1 p.2 hl;exact⟨z,q1,λhh=>(q2 hh).sw sb,q3⟩
 .intro d j hd;obtain⟨G,b,q1,q2⟩:=aj.gs d j hd;exact⟨G,b,by rw[show(swS i k s).env=swE i k s.env from rfl,KN,q1];rfl,q2⟩
 .intro t G e ht;rw[show(swS i k s).env=swE i k s.env from rfl,KN]at ht
  cases hl:iK s.env t with
  | none=>rw[hl]at ht;cases ht
  | some p=>
    rw[hl]at ht;cases ht;exact aj.gb t p.1 p.2 hl
 .intro p hp;obtain⟨j,hj⟩:=II hp;have h1:=TY hi hk (Jw i k j);rw[Ak]at h1;rw[show(swS i k s).T=swT i k s.T from rfl,h1]at hj
  cases hT:s.T[Jw i k j]? with
  | none=>rw[hT]at hj;cases hj
  | some q=>
    rw[hT]at hj;cases hj;exact aj.gT q (iJ hT)
abbrev oG:List (Nat×Nat)->St->St
 | [],s=>s
 | (i,k) :: l,s=>match dD (Nat.ble (i+1) (aP s.T)) (Nat.ble (k+1) (aP s.T)) with
   | true=>oG l (swS i k s)
   | false=>s
theorem Sat.oG{N:Nat}{B:Base}{h0 h:FH}{w:World}{a:Act}:∀(l:List (Nat×Nat)){s:St}{β:List RV},Sat N B h0 s h β w a->∃β',Sat N B h0 (oG l s) h β' w a
 | [],s,β,aj=>⟨β,aj⟩
 | (i,k) :: l,s,β,aj=>by
   unfold Go.mQ.oG;split
   .rename_i hc;rw[aC,A8,bD]at hc;have h1:=qX hc.1;have h2:=qX hc.2;obtain⟨β',aT⟩:=aj.sw (i:=i) (k:=k) (by omega) (by omega)
    exact Sat.oG l aT
   .exact⟨β,aj⟩
inductive Loc where
 | slot (t:Nat)
 | cell (i c:Nat)
abbrev ajm:SC->Option Nat
 | .own i _=>some i
 | .row i=>some i
 | _=>none
abbrev aq4(s:St):Loc->Option Nat
 | .slot t=>match iK s.env t with
   | some ([],.one (.c x))=>ajm x
   | _=>none
 | .cell i c=>match eX s.T i with
   | some ([],.blk _ cs)=>match eX cs c with
     | some x=>ajm x
     | none=>none
   | _=>none
abbrev vN:List (Nat×Loc)->St->St
 | [],s=>s
 | (k,loc) :: l,s=>match aq4 s loc with
   | none=>vN l s
   | some i=>match dD (Nat.ble (i+1) (aP s.T)) (Nat.ble (k+1) (aP s.T)) with
     | true=>vN l (swS i k s)
     | false=>s
theorem Sat.vN{N:Nat}{B:Base}{h0 h:FH}{w:World}{a:Act}:∀(l:List (Nat×Loc)){s:St}{β:List RV},Sat N B h0 s h β w a->∃β',Sat N B h0 (vN l s) h β' w a
 | [],s,β,aj=>⟨β,aj⟩
 | (k,loc) :: l,s,β,aj=>by
   unfold Go.mQ.vN;split
   .exact Sat.vN l aj
   .rename_i i _;split
    .rename_i hc;rw[aC,A8,bD]at hc;have h1:=qX hc.1;have h2:=qX hc.2;obtain⟨β',aT⟩:=aj.sw (i:=i) (k:=k) (by omega) (by omega)
     exact Sat.vN l aT
    .exact⟨β,aj⟩
structure IP where
 sh:Sh
 ps:List Sh
 pre:List sh.den->bV ps->Prop
 res:List sh.den->bV ps->List sh.den
 back:Bool
def WU(P:Program) (gd:Nat->Option (Sigma Sh.den)) (f:FuncId) (ip:IP):Prop:=
 ∀(t:TypeId) (l:List ip.sh.den) (d:bV ip.ps) (v:Value) (vs:List Value) (h:FH) (w:World),(∀b o u,h b o=some u->vis w b o=some u)->aK gd h ->
   Holds h [] w (.row t ip.sh l) (.row v)->(∀b,aB v=some b->∀o,h b o=none)->aQ (dA h []) (fE ip.ps d) vs->ip.pre l d ->
   Calls P f (v :: vs).toArray w (λen w'=>∃v' y,en=.returned y/\Gb w w' (aB v)/\(∀b,aB v'=some b->aB v=some b\/(w.heap.size<=b/\b < w'.heap.size)) /\
    Holds h [] w' (.row t ip.sh (ip.res l d)) (.row v')/\(ip.back=true->y=v')/\(ip.back=false->y=.tuple #[]/\v'=v))
abbrev ipK(cx:Cx) (ip:IP) (s:St) (d:Option Nat) (args:List Operand) (K:St->Prop):Prop:=match args with
 | []=>False
 | x :: r=>match bM cx s [] x with
   | some (.one (.c (.row i)))=>match eX s.T i with
     | some ([],.row t sh l)=>match jP (.sl sh) l (.sl ip.sh) with
       | none=>False
       | some l=>match wF cx s [] r with
         | none=>False
         | some vs=>match allL noRow vs with
           | false=>False
           | true=>match IZ s [] vs with
             | none=>False
             | some bs=>match Ae ip.ps bs with
               | none=>False
               | some dd=>ip.pre l dd/\(match ip.back with
                 | false=>K ({ s with T:=dB s.T i ([],.row t ip.sh (ip.res l dd)) }.put d [] (.iR []))
                 | true=>K ({ s with T:=dB (NM i s.T) i ([],.row t ip.sh (ip.res l dd)),env:=vC i s.env }.put d [] (.one (.c (.row i)))))
     | _=>False
   | _=>False
def DR(P:Program) (N:Nat) (B:Base) (h0 h:FH) (w:World) (a:Act) (o:Oper) (wanted:Bool) (K:St->Prop):Prop:=
 ∀(Nx:Act->World->Prop) (Q:Exit->Act->World->Prop),
   (∀s' h' β' w' v,K s'->h.le h'->Sat N B h0 s' h' β' w' (a.put o.dst v)->Nx (a.put o.dst v) w') ->
   if wanted=true then o.wp P a w Nx Q else Nx (a.put o.dst undef) w
theorem gV.weak{N:Nat}{b:Bool}{K:St->Prop} (k:gV P N B h0 h w a o b K):DR P N B h0 h w a o b K:=
 λNx Q next=>k Nx Q λs' h' β' w' v k' le _ aj=>next s' h' β' w' v k' le aj
section
variable {cx:Cx}{P:Program}{N:Nat}{B:Base}{h0:FH}{s:St}{h:FH}{β:List RV}{w:World}{a:Act}{o:Oper}{K:St->Prop}
theorem Zk(aj:Sat N B h0 s h β w a){x x':au}{v:RV} (hT:eX s.T r=some ([],x)) (hl:x.live=true) (hu:β[r]?=some u)
 (hg:Gb w w' u.block) (hv:∀b,v.block=some b->u.block=some b\/(w.heap.size<=b/\b < w'.heap.size)) (hvs:∀b,¬v.sub b:=by exact λ_ h=>h) (hold:Holds h (β.set r v) w' x' v):
 Sat N B h0 { s with T:=dB (NM r s.T) r ([],x'),env:=vC r s.env } h (β.set r v) w' a:=by
 have tr:gv s.gl []=true:=rfl;have gu:=bF hT tr;have okj:=aj.ok.jk r;have hTj:((eff s.gl s.T).map (jkR r))[r]?=some (jkR r x):=by rw[Ec,gu];rfl
 have ok:OK B h0 (eff s.gl (dB (NM r s.T) r ([],x'))) h (β.set r v) w':=by
  rw[fZ,QD];refine okj.upd hTj (by rw[wC];exact hl) hu hg (λk e=>.inl e) (λb hb=>hb.elim (λq=>(hv b q).imp .inl id) λq=>(hvs b q).elim) (.inr λj rj _ ej=>?_) hold
  rw[Ec]at ej;cases hj:(eff s.gl s.T)[j]? with
  | none=>rw[hj]at ej;cases ej
  | some q=>rw[hj]at ej;cases ej;exact NP r q
 refine⟨ok,?_,?_,aj.defers,aj.sz,?_,?_⟩
 .intro t G e ht;obtain⟨e0,h1,rfl⟩:=F7 r ht;obtain⟨z,q1,q2,q3⟩:=aj.env t G e0 h1;exact⟨z,q1,λhG=>(q2 hG).jk v,q3⟩
 .intro d i hi;obtain⟨G,b,q1,q2⟩:=aj.gs d i hi;exact⟨G,b,KG r q1,q2⟩
 .intro t G e ht;obtain⟨e0,h1,rfl⟩:=F7 r ht;exact aj.gb t G e0 h1
 .intro p hp;simp only at hp;rw[gU]at hp;rcases Ko hp with hp | hp
  .have:∀{l:List (Gd×au)},p∈NM r l->∃q∈l,q.1=p.1:=by
    intro l
    induction l with
    | nil=>intro hh;simp[NM]at hh
    | cons q l ih=>
      obtain⟨g,q⟩:=q;intro hh;simp only[NM,mM]at hh;rcases hh with rfl | hh
      .exact⟨(g,q),by simp,rfl⟩
      .obtain⟨q',h1,h2⟩:=ih hh;exact⟨q',by simp[h1],h2⟩
   obtain⟨q,h1,h2⟩:=this hp;rw[<-h2];exact aj.gT q h1
  .subst hp;rfl
theorem Holds.akn{s:Sh}{l:List s.den}{v:RV} (x:Holds h β w (.row t s l) v):Holds h β' w (.row t s l) v:=by
 cases v<;>exact x
theorem afd{ip:IP} (Ua:WU P cx.gd f ip) (hf:∃fn,P.funcs[f]?=some fn/\fn.body.isSome=true/\(fn.name == "runtime.NumGoroutine")=false)
 (aj:Sat N B h0 s h β w a) (hg:aK cx.gd h) (hd:mF N o.dst=true) (ho:o.op=.call c) (bW:c.callee=.value (.func f))
 (k:ipK cx ip s o.dst (tl c.args) K):DR P N B h0 h w a o true K:=by
 have tr:gv s.gl []=true:=rfl;unfold ipK at k;split at k
 .cases k
 rename_i x r hargs0;split at k
 .rename_i i hx;split at k
  .rename_i t sh l0 hT;split at k
   .cases k
   rename_i l hl;split at k
   .cases k
   rename_i vs hvs;split at k
   .cases k
   rename_i hnr;split at k
   .cases k
   rename_i bs hbs;split at k
   .cases k
   rename_i dd hdd;obtain⟨aH,k⟩:=k;obtain⟨e1,e2⟩:=pI hl;subst e1;simp only at e2;subst e2;have cr:dA h β (.c (.row i)) (a.eval x):=aO aj hg tr hx;have hu:β[i]?=some (.row (a.eval x)):=aj.ok.row_of (bF hT tr) cr.1;have hold:=aj.ok.holds i _ _ (bF hT tr) hu;have hav:=sO aj hg tr hvs;obtain⟨_,b2⟩:=Aj aj tr hbs hav;intro Nx Q next
   rw[if_pos rfl];obtain⟨fn,hfn,hbody,hname⟩:=hf;have exec:(execOp a.eval o).run P w=.ok (.enter f (c.args.map a.eval)) w:=by
    simp only[execOp,ho,resolve,bW,Act.eval,Deferred.ofValue,invoke,Sem.run_bind,Sem.run_pure,Result.andThen_ok,callFunc,run_program,hfn,hname];simp[hbody];cases hb:fn.body with
    | none=>rw[hb]at hbody;cases hbody
    | some _=>simp
   have hargs:(c.args.map a.eval)=(a.eval x :: r.map a.eval).toArray:=by
    have:c.args=(x :: r).toArray:=by
     cases hc:c.args with
     | mk q=>rw[hc]at hargs0;simp only[tl]at hargs0;rw[hargs0]
    rw[this];simp
   unfold Oper.wp;rw[exec];simp only[Oper.upon];rw[hargs];refine(Ua t l0 dd (a.eval x) _ h w aj.ok.hw hg hold.akn (λb hb=>(aj.ok.own i _ _ b (bF hT tr) rfl hu (aZ.2 hb)).2.2) (Af hdd (b2 hnr)) aH).mono ?_
   rintro en w' ⟨v',y,rfl,hgr,hv,hold',hb1,hb2⟩;have hi:i < β.length:=(eU.1 hu).1;cases hb:ip.back with
   | false=>
     rw[hb]at k;obtain⟨rfl,rfl⟩:=hb2 hb;have gu:=bF hT tr;have ok:OK B h0 (eff s.gl (dB s.T i ([],.row t ip.sh (ip.res l0 dd)))) h β w':=by
      rw[yY];have:=aj.ok.upd (r':=.row t ip.sh (ip.res l0 dd)) (v:=.row (a.eval x)) gu rfl hu hgr (λk e=>aZ.2 e) (λb hb=>.inl hb) (.inl rfl) hold'.akn
      rwa [iw hu]at this
     exact next _ _ _ _ _ k (FH.le.refl h) ((aj.mem ok (FH.le.refl h) (Ext.refl β) (ru aj)).put (dS hd) rfl (λ_=>⟨[],rfl,trivial⟩) λhh=>by cases hh)
   | true=>
     rw[hb]at k;obtain rfl:=hb1 hb;refine next _ _ _ _ _ k (FH.le.refl h) ((Zk aj hT rfl hu hgr hv (x':=.row t ip.sh (ip.res l0 dd)) (v:=.row y) (hold:=hold'.akn)).put (dS hd) rfl (λ_=>?_) λhh=>by cases hh)
     refine⟨?_,?_⟩
     .refine⟨.row y,?_,rfl⟩;rw[qm hi]
     .rcases hold' with⟨rfl,_⟩ | ⟨_,rfl,_⟩ | ⟨g,cap,cur,rfl,_⟩<;>exact⟨rfl,rfl⟩
  .cases k
 .cases k
end
def ako:Int->Bool
 | .ofNat 0=>true
 | _=>false
theorem afe{n:Int} (h:ako n=true):n=0:=by
 unfold ako at h;split at h
 .rfl
 .cases h
abbrev I4:Operand->Bool
 | .const v=>match v with
   | .int _ n=>ako n
   | _=>false
 | _=>false
theorem Am{x:Operand} (h:I4 x=true):∃k,x=.const (.int k 0):=by
 unfold I4 at h;split at h
 .split at h
  .rename_i k n;rw[afe h];exact⟨k,rfl⟩
  .cases h
 .cases h
abbrev akp:Option Operand->Bool
 | none=>true
 | some x=>I4 x
abbrev aoK:Option Operand->Bool
 | none=>false
 | some x=>I4 x
abbrev Zl:SC->Bool
 | .sl _ _=>true
 | .v v=>match v with
   | .slice none 0 0=>true
   | _=>false
 | _=>false
abbrev akq(cx:Cx) (s:St) (d:Option Nat) (t:TypeId) (x:Operand) (lo hi:Option Operand) (K:St->Prop):Prop:=match descOf cx t with
 | .slice el=>match qG cx.ti el with
   | none=>False
   | some ie=>match ie.iU with
     | none=>False
     | some sh=>match bM cx s [] x with
       | some (.one (.c y))=>match dD (Zl y) (dD (akp lo) (aoK hi)) with
         | true=>K ({ s with T:=snoc s.T ([],.row el sh []) }.put d [] (.one (.c (.row (aP s.T)))))
         | false=>False
       | _=>False
 | _=>False
abbrev QJ(cx:Cx) (s:St) (d:Option Nat) (t:TypeId) (i:Nat) (lo hi:Option Operand) (K:St->Prop):Prop:=match descOf cx t with
 | .slice el=>match qG cx.ti el with
   | none=>False
   | some _=>match akp lo with
     | false=>False
     | true=>match hi with
       | none=>False
       | some h=>match bM cx s [] h with
         | some (.one (.c (.v (.int _ n))))=>match eX s.T i with
           | some ([],.row el' sh l)=>(0<=n/\n<=l.length)/\K ({ s with T:=dB (NM i s.T) i ([],.row el' sh (l.take n.toNat)),env:=vC i s.env }.put d [] (.one (.c (.row i))))
           | _=>False
         | _=>False
 | _=>False
abbrev akr(cx:Cx) (s:St) (d:Option Nat) (t:TypeId) (lo hi:Option Operand) (K:St->Prop):Prop:=match descOf cx t with
 | .slice el=>match qG cx.ti el with
   | none=>False
   | some _=>match IY cx s [] lo 0 with
     | none=>False
     | some a=>match IY cx s [] hi 0 with
       | none=>False
       | some b=>(0<=a/\a<=b/\b<=0)/\K (s.put d [] (.one (.c (.v (.slice none 0 0)))))
 | _=>False
def fP(a b:Int):Int:=if b > a then b else a
abbrev QK(cx:Cx) (s:St) (d:Option Nat) (x y:Operand) (K:St->Prop):Prop:=match bM cx s [] x with
 | some (.one (.c (.v (.int .i64 a))))=>match bM cx s [] y with
   | some (.one (.c (.v (.int .i64 b))))=>K (s.put d [] (vI .i64 (fP a b)))
   | _=>False
 | _=>False
abbrev aks(cx:Cx) (s:St) (d:Option Nat) (t:TypeId) (x:Operand) (K:St->Prop):Prop:=match descOf cx t with
 | .slice _=>match bM cx s [] x with
   | some (.one (.c (.v (.slice none 0 0))))=>K (s.put d [] (vI .i64 0))
   | _=>False
 | _=>False
abbrev akt(cx:Cx) (s:St) (d:Option Nat) (t:TypeId) (x:Operand) (lo hi:Option Operand) (m:Operand) (K:St->Prop):Prop:=match descOf cx t with
 | .slice el=>match qG cx.ti el with
   | none=>False
   | some ie=>match akp lo with
     | false=>False
     | true=>match hi with
       | none=>False
       | some h=>match bM cx s [] h with
         | some (.one (.c (.v (.int _ n))))=>match bM cx s [] m with
           | some (.one (.c (.v (.int _ n'))))=>match bM cx s [] x with
             | some (.one (.c (.sl sh l)))=>match Nat.beq ie.size sh.size with
               | true=>(0<=n/\n<=l.length/\n=n')/\K (s.put d [] (.one (.c (.abs (.Wv sh (l.take n.toNat))))))
               | false=>False
             | _=>False
           | _=>False
         | _=>False
 | _=>False
abbrev QL(s:St) (d:Option Nat) (eq:Bool) (x:SC) (K:St->Prop):Prop:=match x with
 | .v _=>K (s.put d [] (vB eq))
 | .sl _ l=>∀b:Bool,(b=true->l=[])->K (s.put d [] (vB (cnd eq b (!b))))
 | .row i=>match eX s.T i with
   | some ([],.row _ _ l)=>∀b:Bool,(b=true->l=[])->K (s.put d [] (vB (cnd eq b (!b))))
   | _=>False
 | _=>False
abbrev KO:BinOp->Option Bool
 | .eql=>some true
 | .neq=>some false
 | _=>none
abbrev Zm(cx:Cx) (t:TypeId):Bool:=match descOf cx t with
 | .slice _=>true
 | _=>false
abbrev QM:SC->Bool
 | .sl _ _=>true
 | .row _=>true
 | .v v=>match v with
   | .slice none 0 0=>true
   | _=>false
 | _=>false
abbrev Zn(cx:Cx) (s:St) (d:Option Nat) (t t':TypeId) (y:Operand) (K:St->Prop):Prop:=match descOf cx t' with
 | .int .i64=>match descOf cx t with
   | .slice el=>match qG cx.ti el with
     | none=>False
     | some ie=>match ie.iU with
       | none=>False
       | some sh=>match dD (Nat.beq sh.size ie.size) (dD (Nat.ble 1 ie.bytes) (Nat.ble 1 ie.size)) with
         | true=>match bM cx s [] y with
           | some (.one (.c (.v (.int .i64 n))))=>(0<=n/\oN n.toNat ie.bytes)/\K ({ s with T:=snoc s.T ([],.row el sh (List.replicate n.toNat (sG sh))) }.put d [] (.one (.c (.row (aP s.T)))))
           | _=>False
         | false=>False
   | _=>False
 | _=>False
abbrev WV(i:Nat) (z x:SC):SC:=match x with
 | .row j=>match Nat.beq i j with
   | true=>z
   | false=>.row j
 | .kE j k sz off=>match Nat.beq i j with
   | true=>.junk
   | false=>.kE j k sz off
 | .own j off=>match Nat.beq i j with
   | true=>.junk
   | false=>.own j off
 | .sub j k=>match Nat.beq i j with
   | true=>.junk
   | false=>.sub j k
 | .mO j k m sz off=>match Nat.beq i j with
   | true=>.junk
   | false=>.mO j k m sz off
 | x=>x
abbrev aff(i:Nat) (z:SC):SV->SV
 | .c x=>.c (WV i z x)
 | .agg xs=>.agg (eY (WV i z) xs)
 | v=>v
abbrev afg(i:Nat) (z:SC):bg->bg
 | .one v=>.one (aff i z v)
 | .iR vs=>.iR (eY (aff i z) vs)
abbrev WW(i:Nat) (z:SC):au->au
 | .blk t cs=>.blk t (eY (WV i z) cs)
 | r=>r
abbrev pO(i:Nat) (z:SC):List (Nat×Gd×bg)->List (Nat×Gd×bg)
 | []=>[]
 | (k,g,e) :: r=>(k,g,afg i z e) :: pO i z r
abbrev uI(i:Nat) (z:SC):List (Gd×au)->List (Gd×au)
 | []=>[]
 | (g,r) :: t=>(g,WW i z r) :: uI i z t
abbrev NU(s:St) (i:Nat):St:=match eX s.T i with
 | some ([],.row _ sh l)=>{ s with T:=dB (uI i (.sl sh l) s.T) i ([],.gone),env:=pO i (.sl sh l) s.env }
 | some ([],.deep _ sh l _ _ _ _ [])=>{ s with T:=dB (uI i (.sl sh l) s.T) i ([],.gone),env:=pO i (.sl sh l) s.env }
 | some ([],.mp k sh l)=>{ s with T:=dB (uI i (.one (.mp k sh) l) s.T) i ([],.gone),env:=pO i (.one (.mp k sh) l) s.env }
 | _=>s
abbrev nZ(s:St):List Nat->St
 | []=>s
 | i :: r=>nZ (NU s i) r
abbrev Ub:List SC->List Nat->List Nat
 | [],r=>r
 | x :: xs,r=>match x with
   | .row i=>i :: Ub xs r
   | _=>Ub xs r
abbrev rowsOf(cx:Cx) (s:St):List (Nat×Operand)->List Nat
 | []=>[]
 | (_,x) :: r=>match bM cx s [] x with
   | some (.one (.c (.row i)))=>i :: rowsOf cx s r
   | some (.one (.agg xs))=>Ub xs (rowsOf cx s r)
   | _=>rowsOf cx s r
abbrev KP(cx:Cx) (s:St) (d:Option Nat) (t:TypeId) (x y:Operand) (K:St->Prop):Prop:=iV cx t λel ie sh=>
 match bM cx s [] x with
 | some (.one (.c (.abs (.Wv fA l1))))=>match jP (.sl fA) l1 (.sl sh) with
   | some l=>match bM cx s [] y with
     | some (.one v2)=>match QE s sh v2 with
       | some l2=>oN (l.length+l2.length) ie.bytes/\K ({ s with T:=snoc (uI (aP s.T) (.sl sh (l++l2)) s.T) ([],.gone),env:=pO (aP s.T) (.sl sh (l++l2)) s.env }.put d [] (.one (.c (.sl sh (l++l2)))))
       | none=>False
     | _=>False
   | none=>False
 | _=>False
abbrev QN:List Value->Bool
 | []=>false
 | v :: l=>match l with
   | []=>match v with
     | .slice none 0 0=>true
     | _=>false
   | _ :: _=>false
theorem WX{l:List Value} (h:QN l=true):l=[nX]:=by
 unfold QN at h;split at h
 .cases h
 .split at h
  .split at h
   .rfl
   .cases h
  .cases h
abbrev aku:Nat->Bool:=λ_=>true
abbrev QO(cx:Cx) (s:St) (d:Option Nat) (t:TypeId) (ln cp:Operand) (K:St->Prop):Option Prop:=match descOf cx t with
 | .slice el=>match qG cx.ti el with
   | none=>none
   | some ie=>match ie.iU with
     | some (.sl e)=>match descOf cx el with
       | .slice tt=>match dD (Nat.beq 1 ie.size) (dD (Nat.ble 1 ie.bytes) (QN ie.zero)) with
         | true=>match bM cx s [] ln with
           | some (.one (.c (.v (.int _ n))))=>match bM cx s [] cp with
             | some (.one (.c (.v (.int _ c))))=>some ((0<=n/\n<=c/\oN c.toNat ie.bytes)/\K ({ s with T:=snoc s.T ([],.deep el (.sl e) (List.replicate n.toNat []) tt e 0 aku []) }.put d [] (.one (.c (.row (aP s.T))))))
             | _=>none
           | _=>none
         | false=>none
       | _=>none
     | _=>none
 | _=>none
abbrev akv(cx:Cx) (s:St) (o:Oper) (K:St->Prop):Option Prop:=match o.guard with
 | some _=>none
 | none=>match o.op with
   | .slice t x lo hi mx=>match mx with
     | some m=>match I4 m with
       | true=>some (akq cx s o.dst t x lo hi K)
       | false=>some (akt cx s o.dst t x lo hi m K)
     | none=>match bM cx s [] x with
       | some (.one (.c (.row i)))=>some (QJ cx s o.dst t i lo hi K)
       | some (.one (.c (.v (.slice none 0 0))))=>some (akr cx s o.dst t lo hi K)
       | _=>none
   | .binOp op t x y t'=>match KO op with
     | none=>none
     | some eq=>match bM cx s [] y with
       | some (.one (.c (.v (.slice none 0 0))))=>match bM cx s [] x with
         | some (.one (.c z))=>match dD (QM z) (Zm cx t) with
           | true=>some (QL s o.dst eq z K)
           | false=>none
         | _=>none
       | _=>none
   | .call c=>match c.callee with
     | .builtin .append=>match tl c.args with
       | [x,y]=>match tl c.argTypes with
         | [t,t']=>match Nat.beq t t' with
           | true=>match bM cx s [] x with
             | some (.one (.c (.abs (.Wv _ _))))=>some (KP cx s o.dst t x y K)
             | _=>none
           | false=>match bM cx s [] x with
             | some (.one (.c (.v (.slice none 0 0))))=>some (Zn cx s o.dst t t' y K)
             | _=>none
         | _=>none
       | _=>none
     | .builtin .cap=>match tl c.args with
       | [x]=>match tl c.argTypes with
         | [t]=>some (aks cx s o.dst t x K)
         | _=>none
       | _=>none
     | .builtin .max=>match tl c.args with
       | [x,y]=>some (QK cx s o.dst x y K)
       | _=>none
     | _=>none
   | .makeSlice t ln cp=>match cx.dm with
     | true=>QO cx s o.dst t ln cp K
     | false=>none
   | .buildSlice t n ps=>match rowsOf cx s (tl ps) with
     | []=>none
     | i :: r=>some (nN cx (nZ s (i :: r)) [] o.dst t n (tl ps) K)
   | _=>none
section
variable {cx:Cx}{P:Program}{N:Nat}{B:Base}{h0:FH}{s:St}{h:FH}{β:List RV}{w:World}{a:Act}{o:Oper}{K:St->Prop}
theorem Uc(le:h.le h') (hu:∃u,β[i]?=some u/\u.sl=some v) (sl:dW h' β z v){x:SC}{y:Value} (c:dW h β x y):dW h' β (WV i z x) y:=by
 unfold WV;split
 .rename_i j;split
  .rename_i hj;have:=iE hj;subst this;obtain⟨u,e,es⟩:=c;obtain⟨u',e',es'⟩:=hu;rw[e']at e;cases e;rw[es']at es;cases es;exact sl
  .exact dW.mono (x:=.row j) le (Ext.refl β) c
 .split
  .trivial
  .exact c.mono le (Ext.refl β)
 .split
  .trivial
  .exact c.mono le (Ext.refl β)
 .split
  .trivial
  .exact c.mono le (Ext.refl β)
 .split
  .trivial
  .exact c.mono le (Ext.refl β)
 .exact c.mono le (Ext.refl β)
theorem KQ{h h':FH}{β:List RV}{i:Nat}{z:SC}{v:Value} (le:h.le h') (hu:∃u,β[i]?=some u/\u.sl=some v) (sl:dW h' β z v):∀{xs:List SC}{ys:List Value},
 aQ (λx y=>dW h β x y/\dH y) xs ys->aQ (λx y=>dW h' β x y/\dH y) (eY (WV i z) xs) ys
 | [],[],_=>trivial
 | _ :: _,_ :: _,⟨a,b⟩=>⟨⟨Uc le hu sl a.1,a.2⟩,KQ le hu sl b⟩
theorem ajn(le:h.le h') (hu:∃u,β[i]?=some u/\u.sl=some v) (sl:dW h' β z v):∀{x:SV}{y:Value},dA h β x y->dA h' β (aff i z x) y
 | .c _,_,c=>⟨Uc le hu sl c.1,c.2⟩
 | .agg _,_,⟨ys,e,a⟩=>⟨ys,e,KQ le hu sl a⟩
 | .dat s _,_,⟨g,cs,e,r⟩=>⟨g,cs,e,r.mono le s⟩
 | .und,_,c=>c
theorem aoL(le:h.le h') (hu:∃u,β[i]?=some u/\u.sl=some v) (sl:dW h' β z v):∀{x:bg}{y:Value},kC h β x y->kC h' β (afg i z x) y
 | .one _,_,c=>ajn le hu sl c
 | .iR _,_,⟨ys,e,a⟩=>⟨ys,e,go a⟩
where
 go:∀{xs:List SV}{ys:List Value},aQ (dA h β) xs ys->aQ (dA h' β) (eY (aff i z) xs) ys
  | [],[],_=>trivial
  | _ :: _,_ :: _,⟨a,b⟩=>⟨ajn le hu sl a,go b⟩
theorem WY(le:h.le h') (hu:∃u,β[i]?=some u/\u.sl=some v) (sl:dW h' β z v):∀{r:au}{u:RV},Holds h β w r u->Holds h' β w (WW i z r) u
 | .blk _ _,.blk _,⟨ys,e,a⟩=>⟨ys,e,KQ le hu sl a⟩
 | .row _ s _,.row _,x=>mX.move le x λ_ _=>rfl
 | .deep _ _ _ _ _ _ _ _,.deep _ _,x=>dZ.move le x λ_ _=>rfl
 | .mp k s l,.row v,x=>Holds.move (r:=.mp k s l) (v:=.row v) le (Ext.refl β) x λ_ _ _=>rfl
 | .P5 k s l n,.deep v us,x=>Holds.move (r:=.P5 k s l n) (v:=.deep v us) le (Ext.refl β) x λ_ _ _=>rfl
 | .Nl _ _ _ _,.row _,x=>x
 | .Jl _ _ _ _,.deep _ _,x=>Fq.move le x λ_ _=>rfl
 | .it k s l dn,.blk v,x=>Holds.move (r:=.it k s l dn) (v:=.blk v) le (Ext.refl β) x λ_ _ _=>rfl
 | .obj _ s _,.blk _,⟨ys,e,r⟩=>⟨ys,e,r.mono le s⟩
 | .gone,_,_=>trivial
theorem CP(i:Nat) (z:SC) (r:au):(WW i z r).live=r.live:=by cases r<;>rfl
theorem KR{i:Nat}{z:SC}:∀{env:List (Nat×Gd×bg)}{t:Nat}{G:Gd}{e:bg},iK (pO i z env) t=some (G,e)->∃e0,iK env t=some (G,e0)/\e=afg i z e0
 | [],_,_,_,h=>by simp[pO,iK]at h
 | (k,g,e0) :: r,t,G,e,h=>by
   simp only[pO]at h;rw[aY]at h ⊢
   split at h
   .rename_i hk;cases h;exact⟨e0,by rw[if_pos hk],rfl⟩
   .rename_i hk;rw[if_neg hk];exact KR h
theorem NV{i:Nat}{z:SC}:∀{env:List (Nat×Gd×bg)}{t:Nat}{G:Gd}{e:bg},iK env t=some (G,e)->iK (pO i z env) t=some (G,afg i z e)
 | [],_,_,_,h=>by simp[iK]at h
 | (k,g,e0) :: r,t,G,e,h=>by
   simp only[pO];rw[aY]at h ⊢
   split at h
   .rename_i hk;cases h;rw[if_pos hk]
   .rename_i hk;rw[if_neg hk];exact NV h
theorem Ud(gl:List Bool) (i:Nat) (z:SC):∀{T:List (Gd×au)},eff gl (uI i z T)=(eff gl T).map (WW i z)
 | []=>rfl
 | (g,r) :: t=>by
   simp only[uI,eff,VT,Ud gl i z (T:=t)]
   congr 1
   cases gv gl g<;>rfl
theorem Ue{i:Nat}{z:SC}{p:Gd×au}:∀{T:List (Gd×au)},p∈uI i z T->∃q∈T,q.1=p.1
 | [],h=>by simp[uI]at h
 | (g,r) :: t,h=>by
   simp only[uI,mM]at h;rcases h with rfl | h
   .exact⟨(g,r),by simp,rfl⟩
   .obtain⟨q,h1,h2⟩:=Ue h;exact⟨q,by simp[h1],h2⟩
theorem Sat.KT(aj:Sat N B h0 s h β w a){r:au} (gu:(eff s.gl s.T)[i]?=some r) (hu:β[i]?=some u) (hus:u.sl=some v) (le:h.le h') (ok':OK B h0 ((eff s.gl s.T).set i .gone) h' β w) (sl:dW h' β z v):
 Sat N B h0 { s with T:=dB (uI i z s.T) i ([],.gone),env:=pO i z s.env } h' β w a:=by
 have hu:∃u,β[i]?=some u/\u.sl=some v:=⟨u,hu,hus⟩;refine⟨?_,?_,?_,aj.defers,aj.sz,?_,?_⟩
 .show OK B h0 (eff s.gl (dB (uI i z s.T) i ([],.gone))) h' β w;rw[fZ,Ud];have key:∀{j:Nat}{r:au},(((eff s.gl s.T).map (WW i z)).set i .gone)[j]?=some r->∃r0,((eff s.gl s.T).set i .gone)[j]?=some r0/\r=WW i z r0:=by
   intro j r e
   by_cases hj:j=i
   .subst hj;have iq:j < (eff s.gl s.T).length:=(eU.1 gu).1;rw[qm (by simpa using iq)]at e
    cases e;exact⟨.gone,by rw[qm iq],rfl⟩
   .rw[mJ (Ne.symm hj),Ec]at e;cases hj':(eff s.gl s.T)[j]? with
    | none=>rw[hj']at e;cases e
    | some r0=>rw[hj']at e;cases e;exact⟨r0,by rw[mJ (Ne.symm hj)];exact hj',rfl⟩
  exact {
   below:=ok'.below
   dr:=ok'.dr
   len:=by have:=ok'.len;simpa using this
   holds:=λj r v' e e'=>by
    obtain⟨r0,e0,rfl⟩:=key e
    by_cases hj:j=i
    .subst hj;have iq:j < (eff s.gl s.T).length:=(eU.1 gu).1;rw[qm iq]at e0;cases e0;cases v'<;>trivial
    .rw[mJ (Ne.symm hj)]at e0;exact WY le hu sl (aj.ok.holds j r0 v' e0 e')
   own:=λj r v' b e hl e' hb=>by
    obtain⟨r0,e0,rfl⟩:=key e;exact ok'.own j r0 v' b e0 (by rw[<-CP i z];exact hl) e' hb
   inj:=λj k r1 r2 u v' b e1 l1 e2 l2 e3 e4 b1 b2=>by
    obtain⟨r0,f1,rfl⟩:=key e1;obtain⟨r0',f2,rfl⟩:=key e2;exact ok'.inj j k r0 r0' u v' b f1 (by rw[<-CP i z];exact l1) f2 (by rw[<-CP i z];exact l2) e3 e4 b1 b2
   hle:=ok'.hle
   hw:=ok'.hw
   hg:=ok'.hg
   kn:=ok'.kn }
 .intro t' G e ht;obtain⟨e0,h1,rfl⟩:=KR ht;obtain⟨z,q1,q2,q3⟩:=aj.env t' G e0 h1;exact⟨z,q1,λhG=>aoL le hu sl (q2 hG),q3⟩
 .intro d j hj;obtain⟨G,b,q1,q2⟩:=aj.gs d j hj;exact⟨G,b,NV q1,q2⟩
 .intro t' G e ht;obtain⟨e0,h1,rfl⟩:=KR ht;exact aj.gb t' G e0 h1
 .intro p hp;simp only at hp;rw[gU]at hp;rcases Ko hp with hp | hp
  .obtain⟨q,h1,h2⟩:=Ue hp;rw[<-h2];exact aj.gT q h1
  .subst hp;rfl
theorem Uf{k:IntKind}{sh:Sh}{l:List (Int×sh.den)} (x:Holds h β w (.mp k sh l) (.row v)) (le:h.le h') (hb:∀b,(RV.row v).has b->∀o z,vis w b o=some z->h' b o=some z):Rd h' (.mp k sh) [v] l:=by
 obtain⟨b,es,c,e,e1,m⟩:=x;exact⟨v,rfl,.inr ⟨b,es,c,e,hb b (aZ.2 (by rw[e];rfl)) _ _ (Tq e1),m.mono λ_ _=>DW.mono le⟩⟩
theorem Sat.akw(aj:Sat N B h0 s h β w a) (i:Nat):∃h',h.le h'/\Sat N B h0 (NU s i) h' β w a:=by
 unfold NU;split
 .rename_i t sh l hT;have gu:(eff s.gl s.T)[i]?=some (.row t sh l):=by rw[jO,<-fM,hT];rfl
  have iq:i < β.length:=by rw[aj.ok.len];exact(eU.1 gu).1
  have hu:=kP iq;have hold:=aj.ok.holds i _ _ gu hu;cases hb:β[i]with
  | blk b=>rw[hb]at hold;cases hold
  | no=>rw[hb]at hold;cases hold
  | deep _ _=>rw[hb]at hold;cases hold
  | row v=>
    rw[hb]at hold hu;obtain⟨h',le,ok',sl⟩:=aj.ok.freeze gu hu;exact⟨h',le,aj.KT (z:=.sl sh l) gu hu rfl le ok' sl⟩
 .rename_i t sh l t2 e so own hT;have gu:(eff s.gl s.T)[i]?=some (.deep t sh l t2 e so own []):=by rw[jO,<-fM,hT];rfl
  have iq:i < β.length:=by rw[aj.ok.len];exact(eU.1 gu).1
  have hu:=kP iq;have hold:=aj.ok.holds i _ _ gu hu;cases hb:β[i]with
  | blk b=>rw[hb]at hold;cases hold
  | no=>rw[hb]at hold;cases hold
  | row _=>rw[hb]at hold;cases hold
  | deep v us=>
    rw[hb]at hold hu;obtain⟨le,ok',vis⟩:=aj.ok.xk gu rfl hu;exact⟨_,le,aj.KT (z:=.sl sh l) gu hu rfl le ok' (dZ.data hold le λb hb o z hz=>vis b hb o z hz)⟩
 .rename_i k sh l hT;have gu:(eff s.gl s.T)[i]?=some (.mp k sh l):=by rw[jO,<-fM,hT];rfl
  have iq:i < β.length:=by rw[aj.ok.len];exact(eU.1 gu).1
  have hu:=kP iq;have hold:=aj.ok.holds i _ _ gu hu;cases hb:β[i]with
  | blk b=>rw[hb]at hold;cases hold
  | no=>rw[hb]at hold;cases hold
  | deep _ _=>rw[hb]at hold;cases hold
  | row v=>
    rw[hb]at hold hu;obtain⟨le,ok',vs⟩:=aj.ok.xk gu rfl hu;exact⟨_,le,aj.KT (z:=.one (.mp k sh) l) gu hu rfl le ok' (Uf hold le λb hb o z hz=>vs b hb o z hz)⟩
 .exact⟨h,FH.le.refl h,aj⟩
theorem Sat.IC:∀{l:List Nat}{s:St}{h:FH},Sat N B h0 s h β w a->∃h',h.le h'/\Sat N B h0 (nZ s l) h' β w a
 | [],s,h,aj=>⟨h,FH.le.refl h,aj⟩
 | i :: r,s,h,aj=>by
   obtain⟨h1,le1,jA⟩:=aj.akw i;obtain⟨h2,iF,bG⟩:=Sat.IC (l:=r) jA;exact⟨h2,le1.trans iF,bG⟩
theorem DR.le{h h':FH}{b:Bool} (le:h.le h') (k:DR P N B h0 h' w a o b K):DR P N B h0 h w a o b K:=λNx Q next=>k Nx Q λs' h2 β' w' v k' le' aj=>next s' h2 β' w' v k' (le.trans le') aj
theorem Zo{y:SC} (hy:Zl y=true) (c:dW h β y v):∃ad len cap,v=.slice ad len cap/\len<=cap/\(ad=none->len=0/\cap=0):=by
 unfold Zl at hy;split at hy
 .rcases c with⟨rfl,_⟩ | ⟨ad,cap,rfl,_⟩ | ⟨b,off,cap,rfl,h1,_⟩
  .exact⟨none,0,0,rfl,qy _,λ_=>⟨rfl,rfl⟩⟩
  .exact⟨some ad,0,cap,rfl,Iz _,λh=>by cases h⟩
  .exact⟨_,_,cap,rfl,h1,λh=>by cases h⟩
 .split at hy
  .obtain⟨rfl,_⟩:=c;exact⟨none,0,0,rfl,qy _,λ_=>⟨rfl,rfl⟩⟩
  .cases hy
 .cases hy
theorem Zp(hc:bQ P cx.ti) (aj:Sat N B h0 s h β w a) (hg:aK cx.gd h) (hd:mF N o.dst=true){x m:Operand} (ho:o.op=.slice t x lo hi (some m)) (hm:I4 m=true)
 (k:akq cx s o.dst t x lo hi K):DR P N B h0 h w a o true K:=by
 have tr:gv s.gl []=true:=rfl;unfold akq at k;split at k
 .rename_i el hde;have hu:=bH hc hde (by simp)
  split at k
  .cases k
  rename_i ie hie;have tie:=hc.get hie;split at k
  .cases k
  rename_i sh hsh;split at k
  .rename_i y hy;split at k
   .rename_i hz;rw[aC,aC,A8,A8]at hz;obtain⟨hz1,hz2,hz3⟩:=hz;have cy:=(aO aj hg tr hy:dA h β (.c y) (a.eval x));obtain⟨ad,len,cap,ev,hle,hnil⟩:=Zo hz1 cy.1;obtain⟨km,rfl⟩:=Am hm;obtain⟨hx,rfl⟩:∃x,hi=some x:=by cases hi with | none=>simp[aoK]at hz3 | some x=>exact⟨x,rfl⟩
    obtain⟨kh,rfl⟩:=Am (show I4 hx=true from hz3)
    have run:(Instr.sliceAt t (a.eval x) (lo.map a.eval) ((some (Operand.const (.int kh 0))).map a.eval) ((some (Operand.const (.int km 0))).map a.eval)).run P w=.ok (.slice ad 0 0) w:=by
     rw[ev];have e1:(Instr.sliceBounds true len cap (lo.map a.eval) (some (.int kh 0)) (some (.int km 0))).run P w=.ok (0,0,0) w:=by
      cases lo with
      | none=>simp[Instr.sliceBounds,Instr.sliceBound,asIntOf]
      | some z=>
        obtain⟨kz,rfl⟩:=Am (show I4 z=true from hz2)
        simp[Instr.sliceBounds,Instr.sliceBound,asIntOf,Act.eval]
     simp only[Instr.sliceAt,Instr.slice,Sem.run_bind,run_underlying hu,Result.andThen_ok,Yb,Act.eval,e1,run_sizeOf tie,Sem.run_pure];simp
    have nw:=lT (P:=P) aj (o:=o) (G:=[]) rfl hd (r:=.row el sh []) (e:=.one (.c (.row (aP s.T)))) (K:=K) k λ_=>
     ⟨.slice ad 0 0,w,.row (.slice ad 0 0),by simp only[execOp,ho,Sem.run_bind];rw[run];rfl,cO _ _,λb hb=>by rw[aZ]at hb;cases ad<;>simp[aB]at hb,by
      cases ad with
      | none=>exact .inl ⟨rfl,rfl⟩
      | some ad=>exact .inr (.inl ⟨ad,rfl,rfl⟩),by
      refine⟨⟨_,kS (lU aj) _,rfl⟩,rfl,rfl⟩⟩
    exact nw.weak
   .cases k
  .cases k
 .cases k
theorem pR(aj:Sat N B h0 s h β w a) (hd:mF N o.dst=true){e:bg} (run:(execOp a.eval o).run P w=.ok (.value v) w) (c:kC h β e v) (k:K (s.put o.dst [] e)):DR P N B h0 h w a o true K:=by
 intro Nx Q next
 rw[if_pos rfl];exact kR run (next _ _ _ _ _ k (FH.le.refl h) (aj.put (dS hd) rfl (λ_=>c) λhh=>by cases hh))
theorem QS(hc:bQ P cx.ti) (aj:Sat N B h0 s h β w a) (hg:aK cx.gd h) (hd:mF N o.dst=true){x:Operand} (ho:o.op=.slice t x lo hi none)
 (hx:bM cx s [] x=some (.one (.c (.row i)))) (k:QJ cx s o.dst t i lo hi K):DR P N B h0 h w a o true K:=by
 have tr:gv s.gl []=true:=rfl;unfold QJ at k;split at k
 .rename_i el hde;have hu:=bH hc hde (by simp)
  split at k
  .cases k
  rename_i ie hie;have tie:=hc.get hie;split at k
  .cases k
  rename_i hlo;split at k
  .cases k
  rename_i hh;split at k
  .rename_i ik n hn;split at k
   .rename_i el' sh l hT;obtain⟨hb,k⟩:=k;have ch:=(aO aj hg tr hn:dA h β (.c (.v (.int ik n))) (a.eval hh));have eh:a.eval hh=.int ik n:=ch.1.1;have cr:=(aO aj hg tr hx:dA h β (.c (.row i)) (a.eval x));have hβ:β[i]?=some (.row (a.eval x)):=aj.ok.row_of (bF hT tr) cr.1;have hold:=aj.ok.holds i _ _ (bF hT tr) hβ;have hi':i < β.length:=(eU.1 hβ).1;have akx:(lo.map a.eval=none/\(0:Int)=0)\/∃k,lo.map a.eval=some (.int k 0):=by
     cases lo with
     | none=>exact .inl ⟨rfl,rfl⟩
     | some z=>
       obtain⟨kz,rfl⟩:=Am (show I4 z=true from hlo)
       exact .inr ⟨kz,rfl⟩
    have run:∀(ad:Option Addr) (cap:Nat),a.eval x=.slice ad l.length cap->l.length<=cap->(execOp a.eval o).run P w=.ok (.value (.slice ad n.toNat cap)) w:=by
     intro ad cap ev hle;have:=pF (P:=P) (w:=w) (isS:=true) (len:=l.length) (cap:=cap) (lo:=lo.map a.eval) (hi:=some (.int ik n)) (a:=0) (b:=n) akx (.inr ⟨ik,rfl⟩) (by omega) hle
     have r2:(Instr.sliceAt t (a.eval x) (lo.map a.eval) ((some hh).map a.eval) none).run P w=.ok (.slice ad n.toNat cap) w:=by
      rw[ev];simp only[Instr.sliceAt,Instr.slice,Sem.run_bind,run_underlying hu,Result.andThen_ok,Yb,eh,this,run_sizeOf tie,Sem.run_pure];cases ad<;>simp[Addr.add]
     simp only[execOp,ho,Sem.run_bind,aeT];rw[r2];rfl
    have fin:∀(v':Value),(execOp a.eval o).run P w=.ok (.value v') w->(∀b,aB v'=some b->aB (a.eval x)=some b)->Holds h (β.set i (.row v')) w (.row el' sh (l.take n.toNat)) (.row v')->dH v'->DR P N B h0 h w a o true K:=by
     intro v' r hv hold' h1;intro Nx Q next
     rw[if_pos rfl];refine kR r (next _ _ _ _ _ k (FH.le.refl h) ((Zk aj hT rfl hβ (cO _ _) (v:=.row v') (λb hb=>.inl (hv b hb)) (hold:=hold')).put (dS hd) rfl (λ_=>⟨?_,h1⟩) λhh=>by cases hh))
     refine⟨.row v',?_,rfl⟩;rw[qm hi']
    rcases hold with⟨ev,hl⟩ | ⟨ra,ev,hl⟩ | ⟨g,cap,cur,ev,q1,q2,q3,q4,q5⟩
    .have hn0:n.toNat=0:=by rw[hl]at hb;simp at hb;omega
     refine fin _ (run none 0 (by rw[ev,hl];rfl) (by rw[hl];exact qy _)) (λb hb=>by simp[aB]at hb) (.inl ⟨by rw[hn0],by rw[hl];simp⟩) ⟨rfl,rfl⟩
    .have hn0:n.toNat=0:=by rw[hl]at hb;simp at hb;omega
     refine fin _ (run (some ra) 0 (by rw[ev,hl];rfl) (by rw[hl];exact qy _)) (λb hb=>by simp[aB]at hb) (.inr (.inl ⟨ra,by rw[hn0],by rw[hl];simp⟩)) ⟨rfl,rfl⟩
    .have hlen:(l.take n.toNat).length=n.toNat:=by rw[mD];omega
     refine fin _ (run (some ⟨g,0,none⟩) cap ev q2) (λb hb=>by rw[ev,aX q3.1];rw[aX q3.1]at hb;exact hb) (.inr (.inr ⟨g,cap,cur,by rw[hlen],q1,by rw[hlen];omega,q3,q4,?_⟩)) ⟨rfl,rfl⟩
     have:=gQ.vY (λ_ _=>Rd.size sh) q5 (a:=0) (b:=n.toNat) (Iz _) (by omega)
     simp only[Qm,Tn]at this;rw[hlen];rw[List.take_take,Kr (zD _ (by omega))]at this
     exact this
   .cases k
  .cases k
 .cases k
theorem Zq(hc:bQ P cx.ti) (aj:Sat N B h0 s h β w a) (hg:aK cx.gd h) (hd:mF N o.dst=true){x:Operand} (ho:o.op=.slice t x lo hi none)
 (hx:bM cx s [] x=some (.one (.c (.v (.slice none 0 0))))) (k:akr cx s o.dst t lo hi K):DR P N B h0 h w a o true K:=by
 have tr:gv s.gl []=true:=rfl;unfold akr at k;split at k
 .rename_i el hde;have hu:=bH hc hde (by simp)
  split at k
  .cases k
  rename_i ie hie;have tie:=hc.get hie;split at k
  .cases k
  rename_i p hp;split at k
  .cases k
  rename_i q hq;obtain⟨hb,k⟩:=k;have Jt:=(aO aj hg tr hx:dA h β (.c (.v (.slice none 0 0))) (a.eval x));have ev:a.eval x=.slice none 0 0:=Jt.1.1;have bnd:∀{o:Option Operand}{n:Int},IY cx s [] o 0=some n->(o.map a.eval=none/\n=0)\/∃k,o.map a.eval=some (.int k n):=by
   intro o n e;rcases TN aj hg tr e with⟨rfl,rfl⟩ | ⟨x,ik,rfl,e'⟩
   .exact .inl ⟨rfl,rfl⟩
   .exact .inr ⟨ik,by simp[e']⟩
  have:=pF (P:=P) (w:=w) (isS:=true) (len:=0) (cap:=0) (bnd hp) (bnd hq) (by simpa using hb) (qy _)
  refine pR aj hd (v:=.slice none 0 0) (e:=.one (.c (.v (.slice none 0 0)))) ?_ ⟨⟨rfl,rfl,rfl⟩,rfl,rfl⟩ k;have h1:p.toNat=0:=by omega
  have h2:q.toNat=0:=by omega
  have r2:(Instr.sliceAt t (a.eval x) (lo.map a.eval) (hi.map a.eval) none).run P w=.ok (.slice none 0 0) w:=by
   rw[ev];simp only[Instr.sliceAt,Instr.slice,Sem.run_bind,run_underlying hu,Result.andThen_ok,this,run_sizeOf tie,Sem.run_pure,h1,h2];simp
  simp only[execOp,ho,Sem.run_bind,aeT];rw[r2];rfl
 .cases k
theorem Zr(hc:bQ P cx.ti) (aj:Sat N B h0 s h β w a) (hg:aK cx.gd h) (hd:mF N o.dst=true){x:Operand} (ho:o.op=.call c) (bW:c.callee=.builtin .cap) (ha:c.args=#[x]) (ht:c.argTypes=#[t])
 (k:aks cx s o.dst t x K):DR P N B h0 h w a o true K:=by
 have tr:gv s.gl []=true:=rfl;unfold aks at k;split at k
 .rename_i el hde;have hu:=bH hc hde (by simp)
  split at k
  .rename_i hx;have Jt:=(aO aj hg tr hx:dA h β (.c (.v (.slice none 0 0))) (a.eval x));have ev:a.eval x=.slice none 0 0:=Jt.1.1;refine pR aj hd (v:=goInt 0) (e:=vI .i64 0) ?_ ⟨⟨rfl,bI _ _⟩,bI _ _⟩ k;simp[execOp,ho,resolve,bW,ha,ht,invoke,builtin,ev,Builtin.cap_,run_underlying hu]
  .cases k
 .cases k
theorem Zt(aj:Sat N B h0 s h β w a) (hg:aK cx.gd h) (hd:mF N o.dst=true){x:Operand} (ho:o.op=.call c) (bW:c.callee=.builtin .max) (ha:c.args=#[x,y])
 (k:QK cx s o.dst x y K):DR P N B h0 h w a o true K:=by
 have tr:gv s.gl []=true:=rfl;unfold QK at k;split at k
 .rename_i n hx;have ex:a.eval x=.int .i64 n:=(aO aj hg tr hx:dA h β (.c (.v (.int .i64 n))) (a.eval x)).1.1;split at k
  .rename_i m hy;have ey:a.eval y=.int .i64 m:=(aO aj hg tr hy:dA h β (.c (.v (.int .i64 m))) (a.eval y)).1.1;refine pR aj hd (v:=.int .i64 (fP n m)) (e:=vI .i64 (fP n m)) ?_ ⟨⟨rfl,bI _ _⟩,bI _ _⟩ k;simp[execOp,ho,resolve,bW,ha,invoke,builtin,ex,ey,Builtin.max_,Builtin.max2,fP]
  .cases k
 .cases k
theorem WZ(hu:P.underlying t=some (.slice el)) (ad:Option Addr) (n c:Nat) (op:BinOp) (eq:Bool) (he:KO op=some eq) (x y:Operand):
 (eqGuard op t x y (.slice ad n c) (.slice none 0 0)).run P w=.ok () w/\(binOp op t (.slice ad n c) (.slice none 0 0)).run P w=.ok (.bool (cnd eq ad.isNone (!ad.isNone))) w:=by
 refine⟨uG P op t x y (by rfl) w,?_⟩
 have key:∀d,(Op.equalIn (d+1) t (.slice ad n c) (.slice none 0 0)).run P w=.ok ad.isNone w:=by
  intro d;cases ad<;>simp[Op.equalIn,run_underlying hu]
 have k2:=key 9999;have hq2:Op.equal t (.slice ad n c) (.slice none 0 0)=Op.equalIn (9999+1) t (.slice ad n c) (.slice none 0 0):=rfl;unfold KO at he;split at he
 .cases he;have e:(binOp .eql t (.slice ad n c) (.slice none 0 0)).run P w=((Op.equal t (.slice ad n c) (.slice none 0 0)).run P w).andThen λb w=>.ok (.bool b) w:=by
   simp only[binOp];generalize Op.equal t (.slice ad n c) (.slice none 0 0)=q;simp
  rw[e,hq2,k2];rfl
 .cases he;have e:(binOp .neq t (.slice ad n c) (.slice none 0 0)).run P w=((Op.equal t (.slice ad n c) (.slice none 0 0)).run P w).andThen λb w=>.ok (.bool (!b)) w:=by
   simp only[binOp];generalize Op.equal t (.slice ad n c) (.slice none 0 0)=q;simp
  rw[e,hq2,k2];rfl
 .cases he
theorem QT(hc:bQ P cx.ti) (aj:Sat N B h0 s h β w a) (hg:aK cx.gd h) (hd:mF N o.dst=true){t':TypeId}{x:Operand}{op:BinOp}{eq:Bool} (ho:o.op=.binOp op t x y t') (he:KO op=some eq)
 (hy:bM cx s [] y=some (.one (.c (.v (.slice none 0 0))))) (hx:bM cx s [] x=some (.one (.c z))) (hz:QM z=true) (ht:Zm cx t=true) (k:QL s o.dst eq z K):DR P N B h0 h w a o true K:=by
 have tr:gv s.gl []=true:=rfl;obtain⟨el,hu⟩:∃el,P.underlying t=some (.slice el):=by
  unfold Zm at ht;split at ht
  .rename_i el hde;exact⟨el,bH hc hde (by simp)⟩
  .cases ht
 have cy:=(aO aj hg tr hy:dA h β (.c (.v (.slice none 0 0))) (a.eval y));have ey:a.eval y=.slice none 0 0:=cy.1.1;have cz:=(aO aj hg tr hx:dA h β (.c z) (a.eval x));have exec:∀ad n c,a.eval x=.slice ad n c->(execOp a.eval o).run P w=.ok (.value (.bool (cnd eq ad.isNone (!ad.isNone)))) w:=by
  intro ad n c e;obtain⟨g1,g2⟩:=WZ (P:=P) (w:=w) hu ad n c op eq he x y;simp only[execOp,ho,Sem.run_bind,e,ey,g1,g2,Result.andThen_ok,Sem.run_pure]
 have fin:∀ad n c (b:Bool),a.eval x=.slice ad n c->K (s.put o.dst [] (vB (cnd eq ad.isNone (!ad.isNone))))->DR P N B h0 h w a o true K:=λad n c b e k=>
  pR aj hd (e:=vB (cnd eq ad.isNone (!ad.isNone))) (exec ad n c e) ⟨⟨rfl,cZ _⟩,cZ _⟩ k
 unfold QL at k;split at k
 .rename_i v;unfold QM at hz;have ev:a.eval x=.slice none 0 0:=by
   simp only at hz;split at hz
   .exact cz.1.1
   .cases hz
  refine fin none 0 0 true ev ?_;cases eq<;>exact k
 .rename_i sh l;rcases cz.1 with⟨e,hl⟩ | ⟨ad,cap,e,hl,_⟩ | ⟨b,off,cap,e,_⟩
  .exact fin _ _ _ true e (k true λ_=>hl)
  .exact fin _ _ _ true e (k false λhh=>by cases hh)
  .exact fin _ _ _ true e (k false λhh=>by cases hh)
 .rename_i i;split at k
  .rename_i t2 sh l hT;have hβ:β[i]?=some (.row (a.eval x)):=aj.ok.row_of (bF hT tr) cz.1;rcases aj.ok.holds i _ _ (bF hT tr) hβ with⟨e,hl⟩ | ⟨ra,e,hl⟩ | ⟨g,cap,cur,e,_⟩
   .exact fin _ _ _ true e (k true λ_=>hl)
   .exact fin _ _ _ true e (k false λhh=>by cases hh)
   .exact fin _ _ _ true e (k false λhh=>by cases hh)
  .cases k
 .cases k
theorem Zu{t' ty:TypeId}{i:TypeInfo}{z:Value} (ht:P.underlying t=some (.slice el)) (ht':P.underlying t'=some (.int .i64)) (hi:P.info? el=some i) (hz:i.zero=some z) (hs:1<=i.size) (n:Nat) (h0:0 < n) (h48:n * i.bytes<=140737488355328) (hb:1<=i.bytes):
 (Builtin.append_ #[t,t'] ty #[.slice none 0 0,.int .i64 n]).run P w =
  .ok (.slice (some ⟨w.heap.size,0,none⟩) n (grownCap w n 0 el)) (w.drew.alloc (.cells (Builtin.zeroCells z.cells n++Builtin.zeroCells z.cells (grownCap w n 0 el - n)) el)):=by
 have hn63:n<=140737488355328:=qY (A81 _ hb) h48;have hn:n≠0:=by omega
 have hw:IntKind.i64.wrap (n:Int)=n:=by simp[IntKind.wrap,IntKind.bits,IntKind.signed];omega
 have hneg:¬((n:Int) < 0):=by omega
 have h48i:¬((281474976710656:Int) < (n:Int) * (i.bytes:Int)):=by
  have:((n * i.bytes:Nat):Int)<=140737488355328:=by omega
  rw[Int.natCast_mul]at this;omega
 have h63':¬(9223372036854775807 < (n:Int)):=by omega
 have h48':¬(281474976710656 < Builtin.nextslicecap n 0 * i.bytes):=by rw[nextslicecap_zero h0];omega
 have hns:¬(n * i.size=0):=by
  intro hh;rcases Nat.mul_eq_zero.1 hh with h | h<;>omega
 have aq7:¬(i.size=0):=by omega
 simp[Builtin.append_,run_underlying ht,run_underlying ht',sizeOf,typeInfo,zeroValue,hi,hz,Builtin.lenOf,hn,hw,hneg,h48i,h63',h48',Question.forced,run_firstCells_none,newRow,grownCap,asInt,asIntOf,hns,aq7]
theorem Xa(hc:bQ P cx.ti) (aj:Sat N B h0 s h β w a) (hg:aK cx.gd h) (hd:mF N o.dst=true){t':TypeId}{x:Operand} (ho:o.op=.call c) (bW:c.callee=.builtin .append) (ha:c.args=#[x,y]) (ht:c.argTypes=#[t,t'])
 (hx:bM cx s [] x=some (.one (.c (.v (.slice none 0 0))))) (k:Zn cx s o.dst t t' y K):DR P N B h0 h w a o true K:=by
 have tr:gv s.gl []=true:=rfl;unfold Zn at k;split at k
 .rename_i hdi;have hui:=bH hc hdi (by simp)
  split at k
  .rename_i el hde;have hu:=bH hc hde (by simp)
   split at k
   .cases k
   rename_i ie hie;have tie:=hc.get hie;split at k
   .cases k
   rename_i sh hsh;split at k
   .rename_i hz;rw[aC,aC,A8,A8]at hz;have hz1:sh.size=ie.size:=iE hz.1;have hz2:1<=ie.bytes:=qX hz.2.1;have hz3:1<=ie.size:=qX hz.2.2;split at k
    .rename_i n hn;obtain⟨⟨hn0,hroom⟩,k⟩:=k;have ex:a.eval x=.slice none 0 0:=(aO aj hg tr hx:dA h β (.c (.v (.slice none 0 0))) (a.eval x)).1.1;have ey:a.eval y=.int .i64 n:=(aO aj hg tr hn:dA h β (.c (.v (.int .i64 n))) (a.eval y)).1.1;obtain⟨inf,z,i1,i2,i3,i4,i5⟩:=tie.info;obtain⟨m,rfl⟩:∃m:Nat,n=m:=⟨n.toNat,by omega⟩
     rw[A98]at hroom k;unfold oN at hroom;refine gV.weak (lT (P:=P) aj (o:=o) (G:=[]) rfl hd (r:=.row el sh (List.replicate m (sG sh))) (e:=.one (.c (.row (aP s.T)))) (K:=K) k λ_=>?_)
     by_cases hm:m=0
     .subst hm;refine⟨.slice none 0 0,w,.row (.slice none 0 0),?_,cO _ _,λb hb=>by rw[aZ]at hb;simp[aB]at hb,.inl ⟨rfl,rfl⟩,⟨_,kS (lU aj) _,rfl⟩,rfl,rfl⟩
      simp[execOp,ho,resolve,bW,ha,ht,invoke,builtin,ex,ey,Builtin.append_,run_underlying hu,run_underlying hui,sizeOf,typeInfo,i1,asInt,asIntOf,IntKind.wrap,IntKind.bits,IntKind.signed]
     .have r:=Zu (P:=P) (w:=w) (ty:=o.type) hu hui i1 i4 (by omega) m (by omega) (by rw[i3];exact hroom) (by omega)
      have hge:=grownCap_ge w m 0 el;have hle:m<=140737488355328:=qY (A81 _ hz2) hroom;refine⟨.slice (some ⟨w.heap.size,0,none⟩) m (grownCap w m 0 el),w.drew.alloc (.cells (Builtin.zeroCells z.cells m++Builtin.zeroCells z.cells (grownCap w m 0 el - m)) el),.row (.slice (some ⟨w.heap.size,0,none⟩) m (grownCap w m 0 el)),?_,⟨⟨rfl,rfl,rfl,by simp,λk hk _=>(World.grownBy_alloc w.drew _ none).block k hk (by simp)⟩,BZ _⟩,?_,?_,⟨_,kS (lU aj) _,rfl⟩,rfl,rfl⟩
      .simp only[execOp,ho,resolve,bW,ha,ht,invoke,builtin,Sem.run_bind,Sem.run_pure,Result.andThen_ok];simp[ex,ey,r]
      .intro b hb;rw[aZ]at hb;simp[aB]at hb;obtain⟨_,rfl⟩:=hb;simp
      .have Zd:z.cells.size=ie.size:=by rw[i5];simpa using tie.qo
       have hzz:∀q,Builtin.zeroCells z.cells q=(iO q ie.zero).toArray:=by
        intro q;unfold Builtin.zeroCells;rw[i5];have:=sK (zero:=ie.zero) (n:=q) (by rw[tie.qo];omega)
        simpa using this
       refine .inr (.inr ⟨w.heap.size,_,_,by rw[MV],heap_alloc_new w.drew _,by rw[MV];omega,⟨by omega,grownCap_le_maxLen w m 0 el (by simp only[maxLen];omega)⟩,?_,?_⟩)
       .simp only[A86,size_zeroCells,Zd,hz1,<-Nb];congr 1;omega
       .rw[MV,hzz,hzz];simp only[A99,List.toList_toArray];rw[A84 (by rw[wB,tie.qo,hz1];exact qy _),hz1,<-tie.qo,CO (qy _)]
        exact KH (Ac (tie.YM sh hsh).1) _
    .cases k
   .cases k
  .cases k
 .cases k
theorem Ug{l:List Value}:∀{m j:Nat},j < m->((iO m l).drop (j * l.length)).take l.length=l
 | m+1,0,_=>by simp[iO,fV]
 | m+1,j+1,h=>by
   simp only[iO,fV];rw[yQ,YB,A77];exact Ug (by omega)
theorem QU(hc:bQ P cx.ti) (aj:Sat N B h0 s h β w a) (hg:aK cx.gd h) (hd:mF N o.dst=true){x:Operand} (ho:o.op=.makeSlice t x y){p:Prop}
 (hp:QO cx s o.dst t x y K=some p) (k:p):DR P N B h0 h w a o true K:=by
 have tr:gv s.gl []=true:=rfl;unfold QO at hp;split at hp
 .rename_i el hde;have hu:=bH hc hde (by simp)
  split at hp
  .cases hp
  rename_i ie hie;have tie:=hc.get hie;split at hp
  .rename_i e hsh;split at hp
   .rename_i tt hte;split at hp
    .rename_i hz;rw[aC,aC,A8,A8]at hz;have hz1:1=ie.size:=iE hz.1;have hz2:1<=ie.bytes:=qX hz.2.1;have hz3:ie.zero=[nX]:=WX hz.2.2;split at hp
     .rename_i ik n hn;split at hp
      .rename_i ik' c hcp;cases hp;refine(lT (G:=[]) aj rfl hd k.2 λhgv=>?_).weak
       obtain⟨s1,s2,s3⟩:=k.1;have e1:a.eval x=.int ik n:=(aO aj hg hgv hn).1.1;have e2:a.eval y=.int ik' c:=(aO aj hg hgv hcp).1.1;obtain⟨inf,z,i1,i2,i3,i4,i5⟩:=tie.info;unfold oN at s3;have hcb:c.toNat<=140737488355328:=qY (A81 _ hz2) s3;have hb:(inf.bytes:Int) * c<=281474976710656:=by
        rw[i3];have:((c.toNat * ie.bytes:Nat):Int)<=140737488355328:=by omega
        rw[Int.natCast_mul,Int.toNat_of_nonneg (by omega),Int.mul_comm]at this
        omega
       have r:=run_make (P:=P) w t el inf z hu i1 i4 ik ik' n c s1 s2 hb (by omega)
       have Ze:madeCells z.cells (c.toNat * inf.size)=(iO c.toNat ie.zero).toArray:=by
        unfold madeCells;rw[i5,i2,<-tie.qo];exact sK (by rw[tie.qo];omega)
       rw[Ze]at r;have hbn:∀{b:Nat},¬aB nX=some b:=by intro b hb';simp[nX,aB]at hb'
       refine⟨.slice (some ⟨w.heap.size,0,none⟩) n.toNat c.toNat,w.alloc (.cells (iO c.toNat ie.zero).toArray el),.deep (.slice (some ⟨w.heap.size,0,none⟩) n.toNat c.toNat) (λ_=>nX),?_,pq _ _ _,?_,?_,?_⟩
       .simp only[execOp,ho,e1,e2,Sem.run_bind,r,Result.andThen_ok,Sem.run_pure]
       .intro b hb';rw[aV]at hb';rcases hb' with hb' | ⟨j,hb'⟩
        .simp[aB]at hb';obtain⟨_,rfl⟩:=hb';simp
        .exact absurd hb' hbn
       .refine⟨λj k b hb'=>absurd hb' hbn,λj b hb'=>absurd hb' hbn,?_⟩
        by_cases hc0:c.toNat=0
        .have hn0:n.toNat=0:=by omega
         exact .inr (.inl ⟨⟨w.heap.size,0,none⟩,by rw[hc0,hn0],by rw[hn0];rfl⟩)
        refine .inr (.inr ⟨w.heap.size,c.toNat,_,by rw[MV],nM _ _,by rw[MV];omega,⟨by omega,by simp only[maxLen];omega⟩,?_,λj=>hbn,λj dd hj=>?_⟩)
        .simp only[IJ,wB,hz3];rfl
        .have hj':=(eU.1 hj).1;rw[MV]at hj';have ed:dd=[]:=by
          have:=iJ hj;exact List.eq_of_mem_replicate this
         subst ed;have ecs:((iO c.toNat ie.zero).drop (j * 1)).take 1=[nX]:=by
          have:=Ug (l:=ie.zero) (m:=c.toNat) (j:=j) (by omega)
          rw[hz3]at this ⊢;exact this
         show Cb h _ (.sl e) tt e 0 true false nX (((iO c.toNat ie.zero).drop (j * 1)).take 1) [];rw[ecs];exact⟨[],[],⟨nX,rfl,.inl ⟨rfl,rfl⟩⟩,⟨rfl,rfl,rfl⟩,rfl,.inl ⟨rfl,rfl⟩⟩
       .exact⟨⟨_,kS (lU aj) _,rfl⟩,rfl,rfl⟩
      .cases hp
     .cases hp
    .cases hp
   .cases hp
  .cases hp
 .cases hp
theorem OK.Zv(ok:OK B h0 T h β w) (v:RV):OK B h0 (T++[.gone]) h (β++[v]) w where
 below:=ok.below
 dr:=ok.dr
 len:=by simp[ok.len]
 holds:=by
  intro i r' v' e e';rcases aG e with⟨hi,e⟩ | ⟨hi,rfl⟩
  .rcases aG e' with⟨_,e'⟩ | ⟨hj,_⟩
   .exact(ok.holds i r' v' e e').move (FH.le.refl h) (Ext.append _ _) λhl b hb=>rfl
   .have:=ok.len;omega
  .cases v'<;>trivial
 own:=by
  intro i r' v' b e hl e' hb;rcases aG e with⟨hi,e⟩ | ⟨hi,rfl⟩
  .rcases aG e' with⟨_,e'⟩ | ⟨hj,_⟩
   .exact ok.own i r' v' b e hl e' hb
   .have:=ok.len;omega
  .cases hl
 inj:=by
  intro i j r1 r2 u v' b ei hl1 ej hl2 eu ev hu hv';have L:=ok.len;rcases aG ei with⟨hi,ei⟩ | ⟨hi,rfl⟩
  .rcases aG ej with⟨hj,ej⟩ | ⟨hj,rfl⟩
   .rcases aG eu with⟨_,eu⟩ | ⟨hi',_⟩
    .rcases aG ev with⟨_,ev⟩ | ⟨hj',_⟩
     .exact ok.inj i j r1 r2 u v' b ei hl1 ej hl2 eu ev hu hv'
     .omega
    .omega
   .cases hl2
  .cases hl1
 hle:=ok.hle
 hw:=ok.hw
 hg:=ok.hg
 kn:=ok.kn
theorem yG{i:Nat}{z:SC}{g g':Gd×au}:∀{T:List (Gd×au)},dB (uI i z (snoc T g)) (aP T) g'=snoc (uI i z T) g'
 | []=>rfl
 | x :: T=>by
   show dB (_ :: uI i z (snoc T g)) (aP T+1) g'=_ :: snoc (uI i z T) g';show _ :: dB (uI i z (snoc T g)) (aP T) g'=_;rw[yG]
theorem Zw(hc:bQ P cx.ti) (aj:Sat N B h0 s h β w a) (hg:aK cx.gd h) (hd:mF N o.dst=true){x m:Operand} (ho:o.op=.slice t x lo hi (some m))
 (k:akt cx s o.dst t x lo hi m K):DR P N B h0 h w a o true K:=by
 have tr:gv s.gl []=true:=rfl;unfold akt at k;split at k
 .rename_i el hde;have hu:=bH hc hde (by simp)
  split at k
  .cases k
  rename_i ie hie;have tie:=hc.get hie;split at k
  .cases k
  rename_i hlo;split at k
  .cases k
  rename_i hh;split at k
  .rename_i ik n hn;split at k
   .rename_i ik' n' hn';split at k
    .rename_i sh l hx;split at k
     .rename_i hz;have hz:ie.size=sh.size:=iE hz;obtain⟨⟨b1,b2,b3⟩,k⟩:=k;subst b3;have eh:a.eval hh=.int ik n:=(aO aj hg tr hn:dA h β (.c (.v (.int ik n))) (a.eval hh)).1.1;have em:a.eval m=.int ik' n:=(aO aj hg tr hn':dA h β (.c (.v (.int ik' n))) (a.eval m)).1.1;have Jt:=(aO aj hg tr hx:dA h β (.c (.sl sh l)) (a.eval x));have akx:lo.map a.eval=none\/∃k,lo.map a.eval=some (.int k 0):=by
       cases lo with
       | none=>exact .inl rfl
       | some z=>
         obtain⟨kz,rfl⟩:=Am (show I4 z=true from hlo)
         exact .inr ⟨kz,rfl⟩
      have run:∀(ad:Option Addr) (len cap:Nat),a.eval x=.slice ad len cap->n<=len->len<=cap->(execOp a.eval o).run P w=.ok (.value (.slice ad n.toNat n.toNat)) w:=by
       intro ad len cap ev h1 h2;have hb:(0:Int)<=n/\n<=cap:=by omega
       have aq8:(Instr.sliceBounds true len cap (lo.map a.eval) (some (.int ik n)) (some (.int ik' n))).run P w=.ok (0,n.toNat,n.toNat) w:=by
        unfold Instr.sliceBounds;rcases akx with e | ⟨k,e⟩
        .rw[e];simp[Instr.sliceBound,asIntOf,hb];omega
        .rw[e];simp[Instr.sliceBound,asIntOf,hb];omega
       have r2:(Instr.sliceAt t (a.eval x) (lo.map a.eval) ((some hh).map a.eval) ((some m).map a.eval)).run P w=.ok (.slice ad n.toNat n.toNat) w:=by
        rw[ev];simp only[Instr.sliceAt,Instr.slice,Sem.run_bind,run_underlying hu,Result.andThen_ok,Yb,eh,em,aq8,run_sizeOf tie,Sem.run_pure];cases ad<;>simp[Addr.add]
       simp only[execOp,ho,Sem.run_bind];rw[r2];rfl
      rcases Jt.1 with⟨ev,hl⟩ | ⟨ra,cap,ev,hl,hc'⟩ | ⟨b,off,cap,ev,q1,q2,cs,rd,at_⟩
      .have hn0:n.toNat=0:=by rw[hl]at b2;simp at b2;omega
       refine pR aj hd (e:=.one (.c (.abs (.Wv sh (l.take n.toNat))))) (run none 0 0 ev (by rw[hl]at b2;simpa using b2) (qy _)) ⟨⟨?_,none,_,rfl⟩,rfl,rfl⟩ k
       rw[hn0,hl];exact .inl ⟨rfl,rfl⟩
      .have hn0:n.toNat=0:=by rw[hl]at b2;simp at b2;omega
       refine pR aj hd (e:=.one (.c (.abs (.Wv sh (l.take n.toNat))))) (run (some ra) 0 cap ev (by rw[hl]at b2;simpa using b2) (Iz _)) ⟨⟨?_,some ra,_,rfl⟩,rfl,rfl⟩ k
       rw[hn0,hl];exact .inr (.inl ⟨ra,0,rfl,rfl,Iz _⟩)
      .have hlen:(l.take n.toNat).length=n.toNat:=by rw[mD];omega
       refine pR aj hd (e:=.one (.c (.abs (.Wv sh (l.take n.toNat))))) (run (some ⟨b,off,none⟩) l.length cap ev b2 q1) ⟨⟨.inr (.inr ⟨b,off,n.toNat,by rw[hlen],by rw[hlen];exact qy _,by omega,cs.take (n.toNat * sh.size),?_,?_⟩),_,_,rfl⟩,rfl,rfl⟩ k
       .have:=gQ.vY (λ_ _=>Rd.size sh) rd (a:=0) (b:=n.toNat) (Iz _) (by omega)
        simpa using this
       .have:=at_.shift (n.toNat * sh.size) 0;simpa using this
     .cases k
    .cases k
   .cases k
  .cases k
 .cases k
theorem Gj{ty:TypeId}{i:TI}{sh:Sh}{sv:Value}{l l2:List sh.den} (hu:P.underlying t=some (.slice el)) (k:aN P el i) (hs:sh.size=i.size)
 (hb1:1<=i.bytes) (hs1:1<=i.size) (row:rU h (Rd h sh) v l/\∃a n,v=.slice a n n) (src:Zc h w sh sv l2) (room:oN (l.length+l2.length) i.bytes)
 (hw:∀b o u,h b o=some u->vis w b o=some u):
 ∃v' w',(Builtin.append_ #[t,t] ty #[v,sv]).run P w=.ok v' w'/\((l2=[]/\v'=v/\w'=w)\/(Gb w w' none/\(∀b,aB v'=some b->w.heap.size<=b/\b < w'.heap.size)/\TR h w' el sh v' (l++l2))):=by
 obtain⟨inf,z,i1,i2,i3,i4,i5⟩:=k.info;unfold oN at room;obtain⟨row,va,vn,ve⟩:=row;have hn:l.length+l2.length<=140737488355328:=qY (A81 _ hb1) room;have Zd:z.cells.size=i.size:=by rw[i5];simpa using k.qo
 rcases src with⟨rfl,rfl⟩ | ⟨sa,sc,rfl,rfl⟩ | ⟨b,o,c,cs,rfl,rd,at_⟩
 .refine⟨v,w,?_,.inl ⟨rfl,rfl,rfl⟩⟩;rcases row with⟨rfl,rfl⟩ | ⟨_,cp,rfl,rfl,_⟩ | ⟨g,off,cap,rfl,q1,q2,q3⟩
  .simp[Builtin.append_,run_underlying hu,sizeOf,typeInfo,i1,Builtin.lenOf,Builtin.firstCells]
  .simp[Builtin.append_,run_underlying hu,sizeOf,typeInfo,i1,Builtin.lenOf,Builtin.firstCells,storeCells]
  .simp[Builtin.append_,run_underlying hu,sizeOf,typeInfo,i1,Builtin.lenOf,Builtin.firstCells,q1,storeCells]
 .refine⟨v,w,?_,.inl ⟨rfl,rfl,rfl⟩⟩;rcases row with⟨rfl,rfl⟩ | ⟨_,cp,rfl,rfl,_⟩ | ⟨g,off,cap,rfl,q1,q2,q3⟩
  .simp[Builtin.append_,run_underlying hu,sizeOf,typeInfo,i1,Builtin.lenOf,Builtin.firstCells,loadCells,loadCellsFrom]
  .simp[Builtin.append_,run_underlying hu,sizeOf,typeInfo,i1,Builtin.lenOf,Builtin.firstCells,storeCells,loadCells,loadCellsFrom]
  .simp[Builtin.append_,run_underlying hu,sizeOf,typeInfo,i1,Builtin.lenOf,Builtin.firstCells,q1,storeCells,loadCells,loadCellsFrom]
 .have hcs:cs.length=l2.length * inf.size:=by rw[gQ.size (λ_ _=>Rd.size sh) rd,i2,hs]
  have hnews:∀j u,cs[j]?=some u->w.cell? ((⟨b,o,none⟩:Addr).add j)=some u:=λj u e=>by rw[add_lit];exact at_ j u e
  by_cases hm:l2.length=0
  .have:l2=[]:=XY hm;subst this;refine⟨v,w,?_,.inl ⟨rfl,rfl,rfl⟩⟩;rcases row with⟨rfl,rfl⟩ | ⟨_,cp,rfl,rfl,_⟩ | ⟨g,off,cap,rfl,q1,q2,q3⟩
   .simp[Builtin.append_,run_underlying hu,sizeOf,typeInfo,i1,Builtin.lenOf,Builtin.firstCells,loadCells,loadCellsFrom]
   .simp[Builtin.append_,run_underlying hu,sizeOf,typeInfo,i1,Builtin.lenOf,Builtin.firstCells,storeCells,loadCells,loadCellsFrom]
   .simp[Builtin.append_,run_underlying hu,sizeOf,typeInfo,i1,Builtin.lenOf,Builtin.firstCells,q1,storeCells,loadCells,loadCellsFrom]
  .rcases row with⟨rfl,rfl⟩ | ⟨ra,cp,rfl,rfl,hcp⟩ | ⟨g,off,cap,rfl,q1,q2,c0,q3,q4⟩
   .have r:=run_append_nil (P:=P) w t ty el inf z hu i1 i4 ⟨b,o,none⟩ l2.length c cs hcs hnews (by omega) (by simp at hn;omega) (by rw[i3];simp at room;omega)
    have hge:=grownCap_ge w l2.length 0 el;refine⟨_,_,r,.inr ⟨⟨⟨rfl,rfl,rfl,by simp,λk hk _=>(World.grownBy_alloc w.drew _ none).block k hk (by simp)⟩,BZ _⟩,?_,?_⟩⟩
    .intro b' hb';simp[aB]at hb';obtain⟨_,rfl⟩:=hb';simp
    .refine .inr (.inr ⟨w.heap.size,_,_,rfl,heap_alloc_new w.drew _,by simpa using hge,⟨by omega,grownCap_le_maxLen w l2.length 0 el (by simp only[maxLen];simp at hn;omega)⟩,?_,?_⟩)
     .simp only[A86,IJ,size_zeroCells,Zd,hcs,i2,hs,<-Nb]
      congr 1;omega
     .simp only[A99,Yc];rw[show l2.length * sh.size=cs.length by rw[hcs,i2,hs],Yq]
      exact rd
   .have aq9:cp=0:=by cases ve;rfl
    subst aq9;have r:=run_append_grow (P:=P) w t ty el inf z hu i1 i4 ra 0 0 [] (by simp) (λj u e=>by simp at e) ⟨b,o,none⟩ l2.length c cs hcs hnews (by omega) (by simp at hn;omega) (growslice_fits (by omega) (by rw[i3];simpa using room))
    rw[Iy]at r;have hge:=grownCap_ge w l2.length 0 el;refine⟨_,_,r,.inr ⟨⟨⟨rfl,rfl,rfl,by simp,λk hk _=>(World.grownBy_alloc w.drew _ none).block k hk (by simp)⟩,BZ _⟩,?_,?_⟩⟩
    .intro b' hb';simp[aB]at hb';obtain⟨_,rfl⟩:=hb';simp
    .refine .inr (.inr ⟨w.heap.size,_,_,rfl,heap_alloc_new w.drew _,by simpa using hge,⟨by omega,grownCap_le_maxLen w l2.length 0 el (by simp only[maxLen];simp at hn;omega)⟩,?_,?_⟩)
     .simp only[A86,IJ,size_zeroCells,Zd,Yc,hcs,i2,hs,Iy,Qh,<-Nb]
      congr 1;omega
     .simp only[A99,Yc];rw[show l2.length * sh.size=cs.length by rw[hcs,i2,hs],Yq]
      exact rd
   .have hcap:cap=l.length:=by injection ve with e1 e2 e3;omega
    subst hcap;have lsz:=gQ.size (λ_ _=>Rd.size sh) q3
    have hol:c0.length=l.length * inf.size:=by rw[lsz,i2,hs]
    have holds:∀j u,c0[j]?=some u->w.cell? ((⟨g,off,none⟩:Addr).add j)=some u:=by
     intro j u e;rw[add_lit];exact Fp (hw _ _ _ (q4 j u e)) (gQ.all (λ_ _=>Rd.one _) q3 u (iJ e)).2
    have r:=run_append_grow (P:=P) w t ty el inf z hu i1 i4 ⟨g,off,none⟩ l.length l.length _ hol holds ⟨b,o,none⟩ l2.length c cs hcs hnews (by omega) (by omega) (growslice_fits (by omega) (by rw[i3];exact room))
    have hge:=grownCap_ge w (l.length+l2.length) l.length el;refine⟨_,_,r,.inr ⟨⟨⟨rfl,rfl,rfl,by simp,λk hk _=>(World.grownBy_alloc w.drew _ none).block k hk (by simp)⟩,BZ _⟩,?_,?_⟩⟩
    .intro b' hb';simp[aB]at hb';obtain⟨_,rfl⟩:=hb';simp
    .refine .inr (.inr ⟨w.heap.size,_,_,by rw[kZ],heap_alloc_new w.drew _,by rw[kZ];exact hge,⟨by omega,grownCap_le_maxLen w _ l.length el (by simp only[maxLen];omega)⟩,?_,?_⟩)
     .have aki:c0.length=l.length * i.size:=by rw[<-hs];exact lsz
      simp only[A86,IJ,size_zeroCells,Zd,hcs,i2,hs,aki,<-Nb]
      congr 1
      omega
     .simp only[A99,DJ];rw[<-DJ,show(l++l2).length * sh.size=(c0++cs).length by rw[kZ,kZ,Nb,hcs,lsz,i2,hs],Yq]
      exact q3.append rd
theorem NW(hc:bQ P cx.ti) (aj:Sat N B h0 s h β w a) (hg:aK cx.gd h) (hd:mF N o.dst=true){x:Operand} (ho:o.op=.call c) (bW:c.callee=.builtin .append) (ha:c.args=#[x,y]) (ht:c.argTypes=#[t,t])
 (k:KP cx s o.dst t x y K):DR P N B h0 h w a o true K:=by
 have tr:gv s.gl []=true:=rfl;unfold KP iV at k;split at k
 .rename_i el hde;have hu:=bH hc hde (by simp)
  split at k
  .cases k
  rename_i ie hie;have tie:=hc.get hie;split at k
  .cases k
  rename_i sh hsh;split at k
  .rename_i hz;rw[aC,aC,A8,A8]at hz;have hz1:sh.size=ie.size:=iE hz.1;have hz2:1<=ie.bytes:=qX hz.2.1;have hz3:1<=ie.size:=qX hz.2.2;split at k
   .rename_i fA l1 hx;split at k
    .rename_i l hl;obtain⟨e1,e2⟩:=pI hl;subst e1;simp only at e2;subst e2;split at k
     .rename_i v2 hv2;have c2:=aO aj hg tr hv2;split at k
      .rename_i l2 hl2;obtain⟨k1,k⟩:=k;have src:=EF aj hl2 c2;have Jt:=(aO aj hg tr hx:dA h β (.c (.abs (.Wv fA l1))) (a.eval x));obtain⟨v',w',r1,r2⟩:=Gj (P:=P) (ty:=o.type) hu tie hz1 hz2 hz3 Jt.1 src k1 aj.ok.hw;have exec:(execOp a.eval o).run P w=.ok (.value v') w':=by
        have r1':=r1;simp[execOp,ho,resolve,bW,ha,ht,invoke,builtin,r1']
       have hlen:aP s.T=β.length:=by rw[aj.ok.len,jm,bD]
       have gT:∀(r:au),∀p∈snoc s.T (([]:Gd),r),xq s.gl.length p.1=true:=by
        intro r p hp;rw[iT,Et]at hp;rcases hp with hp | hp
        .exact aj.gT p hp
        .simp at hp;subst hp;rfl
       have fin:∀(r:au) (h':FH) (s1:Sat N B h0 { s with T:=snoc s.T ([],r) } h (β++[.row v']) w' a),h.le h'->OK B h0 ((eff s.gl (snoc s.T ([],r))).set (aP s.T) .gone) h' (β++[.row v']) w'->rU h' (Rd h' fA) v' (l1++l2)->DR P N B h0 h w a o true K:=by
        intro r h' s1 le ok' sl;have gu:(eff s.gl (snoc s.T (([]:Gd),r)))[aP s.T]?=some r:=by
         rw[iW,hlen,aj.ok.len,Qd (qy _),YA];rfl
        have bG:=s1.KT (z:=.sl fA (l1++l2)) (i:=aP s.T) (u:=.row v') (v:=v') gu (by rw[hlen];simp) rfl le ok' sl
        rw[show dB (uI (aP s.T) (.sl fA (l1++l2)) (snoc s.T (([]:Gd),r))) (aP s.T) (([]:Gd),au.gone)=snoc (uI (aP s.T) (.sl fA (l1++l2)) s.T) (([]:Gd),au.gone) from yG]at bG
        intro Nx Q next
        rw[if_pos rfl];exact kR exec (next _ _ _ _ _ k le (bG.put (dS hd) rfl (λ_=>⟨sl,sl.dH⟩) λhh=>by cases hh))
       rcases r2 with⟨e1,e2,e3⟩ | ⟨r2,r3,r4⟩
       .have hw':w=w':=e3.symm;subst hw';subst e2;subst e1;have ok:OK B h0 (eff s.gl (snoc s.T (([]:Gd),au.gone))) h (β++[.row (a.eval x)]) w:=by rw[iW];exact aj.ok.Zv _
        have s1:=aj.mem ok (FH.le.refl h) (Ext.append _ _) (gT .gone);refine fin .gone h s1 (FH.le.refl h) ?_ (by rw[Tj];exact Jt.1.1)
        rw[iw]
        .exact ok
        .rw[iW,hlen,aj.ok.len,Qd (qy _),YA];rfl
       .have ok:OK B h0 (eff s.gl (snoc s.T (([]:Gd),au.row el fA (l1++l2)))) h (β++[.row v']) w':=by
         rw[iW];exact aj.ok.add r2 (λb hb=>r3 b (aZ.1 hb)) r4
        have s1:=aj.mem ok (FH.le.refl h) (Ext.append _ _) (gT _);have gu:(eff s.gl (snoc s.T (([]:Gd),au.row el fA (l1++l2))))[aP s.T]?=some (.row el fA (l1++l2)):=by
         rw[iW,hlen,aj.ok.len,Qd (qy _),YA];rfl
        obtain⟨h',le,ok',sl⟩:=ok.freeze gu (show(β++[.row v'])[aP s.T]?=some (.row v') by rw[hlen];simp)
        exact fin _ h' s1 le ok' sl
      .cases k
     .cases k
    .cases k
   .cases k
  .cases k
 .cases k
theorem afh(hc:bQ P cx.ti) (aj:Sat N B h0 s h β w a) (hg:aK cx.gd h) (hd:mF N o.dst=true){ops:Array Oper}{p:Prop} (e:akv cx s o K=some p) (k:p):DR P N B h0 h w a o (Region.wanted o (yielded ops a.tmps)) K:=by
 unfold akv at e;split at e
 .cases e
 rename_i hgd;rw[show Region.wanted o (yielded ops a.tmps)=true by simp[Region.wanted,hgd]]
 split at e
 .rename_i t x lo hi mx ho;split at e
  .rename_i m;split at e
   .rename_i hm;cases e;exact Zp hc aj hg hd ho hm k
   .cases e;exact Zw hc aj hg hd ho k
  .split at e
   .rename_i i hx;cases e;exact QS hc aj hg hd ho hx k
   .rename_i hx;cases e;exact Zq hc aj hg hd ho hx k
   .cases e
 .rename_i op t x y t' ho;split at e
  .cases e
  .rename_i eq he;split at e
   .rename_i hy;split at e
    .rename_i z hx;split at e
     .rename_i hz;rw[aC,A8]at hz;cases e;exact QT hc aj hg hd ho he hy hx hz.1 hz.2 k
     .cases e
    .cases e
   .cases e
 .rename_i c ho;split at e
  .rename_i bW;split at e
   .rename_i x y ha;split at e
    .rename_i t t' ht;split at e
     .rename_i hb;have hb:t=t':=iE hb;subst hb;split at e
      .cases e;exact NW hc aj hg hd ho bW (iM ha) (iM ht) k
      .cases e
     .split at e
      .rename_i hx;cases e;exact Xa hc aj hg hd ho bW (iM ha) (iM ht) hx k
      .cases e
    .cases e
   .cases e
  .rename_i bW;split at e
   .rename_i x ha;split at e
    .rename_i t ht;cases e;exact Zr hc aj hg hd ho bW (iM ha) (iM ht) k
    .cases e
   .cases e
  .rename_i bW;split at e
   .rename_i x y ha;cases e;exact Zt aj hg hd ho bW (iM ha) k
   .cases e
  .cases e
 .rename_i t ln cp ho;split at e
  .exact QU hc aj hg hd ho e k
  .cases e
 .rename_i t n ps ho;split at e
  .cases e
  .rename_i i r hr;cases e;obtain⟨h',le,aT⟩:=aj.IC (l:=i :: r);have:=vw hc aT (hg.mono le) (G:=[]) rfl hd ho k;exact DR.le le this.weak
 .cases e
end
end Go.mQ
