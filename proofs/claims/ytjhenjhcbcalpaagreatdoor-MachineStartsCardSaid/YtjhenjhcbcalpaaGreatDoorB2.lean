/- Texts of this claim, part 2: EngK, EngL, EngM, EngN, EngW, EngS, EngR, EngT. Conditions: those of the given rows. -/
import Derived.Test.YtjhenjhcbcalpaaGreatDoorB1
import Derived.Still
set_option linter.unusedSimpArgs false
set_option linter.unusedVariables false
set_option maxRecDepth 1000000
set_option maxHeartbeats 8000000
namespace Go.aV
open Go Go.RowKit
theorem nS.MX{w w':World} (h:Gb w w' none):nS w w':=⟨h.size,λk hk=>h.block k hk (by simp)⟩
theorem nS.of_below{w w':World} (h:Below w.heap.size w w'):nS w w':=⟨h.size,h.block⟩
def quietly:Op→Bool
 | .store ..=>false
 | .call c=>match c.callee with
   | .builtin .len=>true
   | .builtin _=>false
   | .value (.tmp _)=>false
   | _=>true
 | _=>true
def gI(P:Program) (N:Nat) (B:Base) (h0 h:FH) (w:World) (a:Act) (o:Oper) (wanted:Bool) (K:St→Prop):Prop:=
 ∀(Nx:Act→World→Prop) (Q:Exit→Act→World→Prop),
   (∀s' h' β' w' v,K s'→h.le h'→(quietly o.op=true→nS w w')→Sat N B h0 s' h' β' w' (a.put o.dst v)→Nx (a.put o.dst v) w') →
   if wanted=true then o.wp P a w Nx Q else Nx (a.put o.dst undef) w
theorem kQ{P:Program}{o:Oper}{a:Act}{w w':World}{Nx:Act→World→Prop}{Q:Exit→Act→World→Prop}{v:Value} (h:(execOp a.eval o).run P w=.ok (.value v) w') (k:Nx (a.put o.dst v) w'):o.wp P a w Nx Q:=by
 unfold Oper.wp;rw[h];exact k
theorem YP{P:Program}{o:Oper}{a:Act}{w w':World}{Nx:Act→World→Prop}{Q:Exit→Act→World→Prop} (h:(execOp a.eval o).run P w=.ok .skip w') (k:Nx (a.put o.dst undef) w'):o.wp P a w Nx Q:=by
 unfold Oper.wp;rw[h];exact k
@[reducible] def lZ (n:Nat):Option Nat→Bool
  | none=>true
  | some d=>Nat.ble (d+1) n
theorem eG{n:Nat}{d:Option Nat} (h:lZ n d=true):∀k,d=some k→k < n:=by
 intro k hk;subst hk;have:=qP h;omega
section
variable {cx:Cx}{P:Program}{N:Nat}{B:Base}{h0:FH}{s:St}{h:FH}{β:List RV}{w:World}{a:Act}{G:Gd}{o:Oper}{K:St→Prop}
theorem Ii(hc:cO P cx.ti) (ak:Sat N B h0 s h β w a) (hg:aO cx.gd h) (hG:vU s.gl.length G=true) (hd:lZ N o.dst=true) (k:nZ cx s G o λe=>K (s.put o.dst G e)):
 gI P N B h0 h w a o (gv s.gl G) K:=by
 intro Nx Q next
 obtain⟨e,k1,k2⟩:=EI hc ak hg k;cases hgv:gv s.gl G with
 | true=>
   obtain⟨v,r,c⟩:=k2 hgv;rw[if_pos rfl];exact kQ r (next _ _ _ _ _ k1 (FH.le.refl h) (λ_=>nS.refl w) (ak.put (eG hd) hG (λ_=>c) λhh=>by rw[hgv]at hh;cases hh))
 | false=>
   rw[if_neg (by simp)]
   exact next _ _ _ _ _ k1 (FH.le.refl h) (λ_=>nS.refl w) (ak.put (eG hd) hG (λhh=>by rw[hgv]at hh;cases hh) λ_=>rfl)
theorem dD(w:World) (r:Option Nat):Gb w w r:=⟨⟨rfl,rfl,rfl,Eb _,λ_ _ _=>rfl⟩,Eb _⟩
theorem lK(ak:Sat N B h0 s h β w a) (hG:vU s.gl.length G=true) (hd:lZ N o.dst=true){r:aj}{e:aT} (k:K ({ s with T:=snoc s.T (G,r) }.put o.dst G e))
 (run:gv s.gl G=true→∃v w' rv,(execOp a.eval o).run P w=.ok (.value v) w'∧Gb w w' none∧(∀b,rv.has b→w.heap.size≤b∧b < w'.heap.size) ∧
  Holds h (β++[rv]) w' r rv∧kC h (β++[rv]) e v):
 gI P N B h0 h w a o (gv s.gl G) K:=by
 intro Nx Q next
 have gT:∀p∈snoc s.T (G,r),vU s.gl.length p.1=true:=by
  intro p hp;rw[iR,GV]at hp;rcases hp with hp | hp
  ·exact ak.gT p hp
  ·simp at hp;subst hp;exact hG
 cases hgv:gv s.gl G with
 | true=>
   obtain⟨v,w',rv,h1,h2,h3,h4,h5⟩:=run hgv;rw[if_pos rfl];refine kQ h1 (next _ h (β++[rv]) _ _ k (FH.le.refl h) (λ_=>nS.MX h2) ?_)
   have ok:OK B h0 (eff s.gl (snoc s.T (G,r))) h (β++[rv]) w':=by
    rw[iW,hgv];exact ak.ok.add h2 h3 h4
   exact(ak.mem ok (FH.le.refl h) (Ext.append _ _) gT).put (eG hd) hG (λ_=>h5) λhh=>by simp only at hh;rw[hgv]at hh;cases hh
 | false=>
   rw[if_neg (by simp)]
   refine next _ h (β++[.no]) _ _ k (FH.le.refl h) (λ_=>nS.refl w) ?_
   have ok:OK B h0 (eff s.gl (snoc s.T (G,r))) h (β++[.no]) w:=by
    rw[iW,hgv];exact ak.ok.add (dD w none) (λb hb=>(Qb hb).elim) trivial
   exact(ak.mem ok (FH.le.refl h) (Ext.append _ _) gT).put (eG hd) hG (λhh=>by simp only at hh;rw[hgv]at hh;cases hh) λ_=>rfl
theorem nC(ak:Sat N B h0 s h β w a){s':St} (k:K s'){h':FH}{β':List RV}{w':World}{v:Value} (hgv:gv s.gl G=true) (hq:quietly o.op=false)
 (run:(execOp a.eval o).run P w=.ok (.value v) w'∨((execOp a.eval o).run P w=.ok .skip w'∧v=undef)) (le:h.le h') (aY:Sat N B h0 s' h' β' w' (a.put o.dst v)):
 gI P N B h0 h w a o (gv s.gl G) K:=by
 intro Nx Q next
 rw[if_pos hgv];rcases run with run | ⟨run,rfl⟩
 ·exact kQ run (next _ _ _ _ _ k le (λhh=>by rw[hq]at hh;cases hh) aY)
 ·exact YP run (next _ _ _ _ _ k le (λhh=>by rw[hq]at hh;cases hh) aY)
end
@[reducible] def Ql:Sh→Bool
  | .arr _ _=>true
  | .pair a b=>match Ql a with
    | true=>true
    | false=>Ql b
  | _=>false
@[reducible] def TJ (t:TypeId) (i:TI):aj:=match i.iT with
  | some s=>match Ql s with
    | true=>.obj t s (qZ s)
    | false=>.blk t (fE SC.v i.zero)
  | none=>.blk t (fE SC.v i.zero)
@[reducible] def JH (cx:Cx) (s:St) (G:Gd) (d:Option Nat) (t:TypeId) (K:St→Prop):Prop:=match qo cx.ti t with
  | none=>False
  | some i=>K ({ s with T:=snoc s.T (G,TJ t i) }.put d G (.one (.c (.own (aS s.T) 0))))
@[reducible] def Qm (t:TypeId) (v:SV):Option aj:=match v with
  | .dat sh d=>some (.obj t sh d)
  | v=>match ou v with
    | some xs=>some (.blk t xs)
    | none=>none
@[reducible] def aeY (cx:Cx) (s:St) (G:Gd) (d:Option Nat) (t:TypeId) (x:Operand) (K:St→Prop):Prop:=match bU cx s G x with
  | some (.one v)=>match Qm t v with
    | some r=>K ({ s with T:=snoc s.T (G,r) }.put d G (.one (.c (.own (aS s.T) 0))))
    | none=>False
  | _=>False
theorem nD(w:World) (o:Obj):(w.alloc o).heap[w.heap.size]?=some o:=heap_alloc_new w o
theorem WJ{h:FH}{β:List RV}{t:TypeId}{v:SV}{r:aj}{y:Value}{w:World}{b:Nat} (e:Qm t v=some r) (c:dJ h β v y){β':List RV} (eb:Ext β β')
 (hw:w.heap[b]?=some (.cells y.cells t (0,0))):Holds h β' w r (.blk b):=by
 unfold Qm at e;split at e
 ·cases e;obtain⟨_,cs,rfl,rd⟩:=c;exact⟨cs,hw,rd⟩
 ·split at e
  ·rename_i xs hx;cases e;refine⟨y.cells.toList,by simpa using hw,(xJ hx c).mono λ_ _ ⟨p,q⟩=>⟨p.mono (FH.le.refl h) eb,q⟩⟩
  ·cases e
section
variable {cx:Cx}{P:Program}{N:Nat}{B:Base}{h0:FH}{s:St}{h:FH}{β:List RV}{w:World}{a:Act}{G:Gd}{o:Oper}{K:St→Prop}
theorem kR{β:List RV}{n:Nat} (hn:β.length=n) (v:RV):(β++[v])[n]?=some v:=by
 subst hn;simp
theorem lM(ak:Sat N B h0 s h β w a):β.length=aS s.T:=by
 rw[ak.ok.len,jr,bH]
theorem y5{h:FH}{s:Sh}{cs:List Value}{d:s.den} (r:Rd (λ_ _=>none) s cs d):Rd h s cs d:=r.mono (λ_ _ _ e=>by cases e) s
theorem Qn(hc:cO P cx.ti) (ak:Sat N B h0 s h β w a) (hG:vU s.gl.length G=true) (hd:lZ N o.dst=true){t:TypeId} (ho:o.op=.alloc t) (k:JH cx s G o.dst t K):
 gI P N B h0 h w a o (gv s.gl G) K:=by
 unfold JH at k;split at k
 ·exact k.elim
 rename_i i hi;have ti:=hc.get hi;refine lK ak hG hd k λhgv=>?_
 obtain⟨z,hz1,hz2⟩:=uT ti w;refine⟨.pointer (some ⟨w.heap.size,0,none⟩),w.alloc (.cells z.cells t),.blk w.heap.size,?_,oQ _ _ _,?_,?_,?_⟩
 ·simp only[execOp,ho,Instr.alloc,newVar,newRow,Sem.run_bind,hz1,Result.andThen_ok,run_newObj,Sem.run_pure];rfl
 ·intro b hb;rw[lI]at hb;subst hb;simp
 ·have hn:=nD w (.cells z.cells t);unfold TJ;split
  ·rename_i sh hs;split
   ·exact⟨i.zero,by rw[hn,hz2],y5 (ti.YC _ hs).1⟩
   ·exact⟨i.zero,by rw[hn,hz2],iw ti.zone⟩
  ·exact⟨i.zero,by rw[hn,hz2],iw ti.zone⟩
 ·exact⟨⟨_,kR (lM ak) _,rfl⟩,iY _⟩
theorem YQ(hc:cO P cx.ti) (ak:Sat N B h0 s h β w a) (hg:aO cx.gd h) (hG:vU s.gl.length G=true) (hd:lZ N o.dst=true){t:TypeId}{x:Operand} (ho:o.op=.box t x) (k:aeY cx s G o.dst t x K):
 gI P N B h0 h w a o (gv s.gl G) K:=by
 unfold aeY at k;split at k
 ·rename_i v hv;split at k
  ·rename_i r hr;refine lK ak hG hd k λhgv=>?_
   have hx:=aQ ak hg hgv hv;refine⟨.pointer (some ⟨w.heap.size,0,none⟩),w.alloc (.cells (a.eval x).cells t),.blk w.heap.size,?_,oQ _ _ _,?_,?_,?_⟩
   ·simp only[execOp,ho,Instr.box,newVar,newRow,Sem.run_bind,Result.andThen_ok,run_newObj,Sem.run_pure];rfl
   ·intro b hb;rw[lI]at hb;subst hb;simp
   ·exact WJ hr hx (Ext.append _ _) (nD _ _)
   ·exact⟨⟨_,kR (lM ak) _,rfl⟩,iY _⟩
  ·exact k.elim
 ·exact k.elim
end
@[reducible] def iP {α:Type}:Nat→List α→List α
  | 0,_=>[]
  | n+1,l=>fC l (iP n l)
@[reducible] def nG (cx:Cx) (s:St) (G:Gd) (d:Option Nat) (t:TypeId) (n:Nat) (parts:List (Nat×Operand)) (K:St→Prop):Prop:=match descOf cx t with
  | .slice el=>match qo cx.ti el with
    | none=>False
    | some ie=>match ie.iT with
      | none=>False
      | some sh=>match xK cx s G parts with
        | none=>False
        | some ps=>match dL (Nat.ble (n * ie.size) 16777216) (Nat.ble 1 ie.size) with
          | false=>False
          | true=>match uS (λj=>some (j * ie.size,ie.size)) (iP n (fE SC.v ie.zero)) ps with
            | none=>False
            | some xs=>match dL (Nat.beq sh.size ie.size) (Nat.beq (aS xs) (n * ie.size)) with
              | false=>False
              | true=>match takeN sh n xs with
                | some (l,[])=>K ({ s with T:=snoc s.T (G,.row el sh l) }.put d G (.one (.c (.row (aS s.T)))))
                | _=>False
  | _=>False
theorem EJ{α β:Type} (f:α→β):∀(n:Nat) (l:List α),iP n (fE f l)=fE f (iP n l)
 | 0,_=>rfl
 | n+1,l=>by
   simp only[iP];rw[EJ f n l];simp[fV,Df]
theorem y7{α:Type}{x:α}{l:List α}:∀{n:Nat},x∈iP n l→x∈l
 | 0,h=>by simp[iP]at h
 | n+1,h=>by
   simp only[iP,fV,GV]at h;exact h.elim id y7
theorem uX{α:Type}{l:List α}:∀{n:Nat},(iP n l).length=n * l.length
 | 0=>by simp[iP]
 | n+1=>by simp only[iP,fV,kD,uX,PU];omega
theorem MZ{l:List Value}:∀{n j:Nat},j < n * l.length→(iP n l)[j]?=l[j % l.length]?
 | 0,j,h=>by omega
 | n+1,j,h=>by
   simp only[iP,fV];rw[PU]at h
   by_cases hj:j < l.length
   ·rw[XV hj,Nat.mod_eq_of_lt hj]
   ·rw[CP (by omega),MZ (by omega)]
    congr 1
    exact(Nat.mod_eq_sub_mod (by omega)).symm
theorem rD{zero:List Value}{n:Nat} (hz:0 < zero.length):((Array.range (n * zero.length)).map (λi=>zero.toArray[i % zero.toArray.size]!))=(iP n zero).toArray:=by
 apply Array.ext';apply yJ;intro j;simp only[Array.toList_map,Array.toList_range,oI]
 by_cases hj:j < n * zero.length
 ·rw[LX,List.getElem?_range hj,MZ hj];have hm:j % zero.length < zero.length:=Nat.mod_lt _ hz;simp[hm]
 ·rw[qJ (by simp;omega),qJ (by simp[uX];omega)]
section
variable {cx:Cx}{P:Program}{N:Nat}{B:Base}{h0:FH}{s:St}{h:FH}{β:List RV}{w:World}{a:Act}{G:Gd}{o:Oper}{K:St→Prop}
theorem uh(hc:cO P cx.ti) (ak:Sat N B h0 s h β w a) (hg:aO cx.gd h) (hG:vU s.gl.length G=true) (hd:lZ N o.dst=true){t:TypeId}{n:Nat}{parts:Array (Nat×Operand)} (ho:o.op=.buildSlice t n parts)
 (k:nG cx s G o.dst t n (tl parts) K):gI P N B h0 h w a o (gv s.gl G) K:=by
 unfold nG at k;split at k
 ·rename_i el hde;have hu:=bQ hc hde (by simp)
  split at k
  ·exact k.elim
  rename_i ie hie;have tie:=hc.get hie;split at k
  ·exact k.elim
  rename_i sh hsh;split at k
  ·exact k.elim
  rename_i ps hps;split at k
  ·exact k.elim
  rename_i hsz;rw[aF,A8]at hsz;have hsz1:n * ie.size≤16777216:=qP hsz.1;have hsz2:1≤ie.size:=qP hsz.2;split at k
  ·exact k.elim
  rename_i xs hxs;split at k
  ·exact k.elim
  rename_i hlen;rw[aF,A8]at hlen;have hl1:sh.size=ie.size:=gK hlen.1;have hl2:xs.length=n * ie.size:=by have:=gK hlen.2;rwa [bH]at this
  split at k
  ·rename_i l hl;refine lK ak hG hd k λhgv=>?_
   have htl:(parts.map λ(p:Nat×Operand)=>(p.1,a.eval p.2)).toList=(tl parts).map λp=>(p.1,a.eval p.2):=by cases parts;simp
   rw[EJ]at hxs;obtain⟨zs,g1,g2⟩:=ru (rC ak hg hgv hps) (iw λv hv=>tie.zone v (y7 hv)) hxs
   obtain⟨c1,c2,rfl,q1,q2,q3⟩:=EF hl g2;have hc2:c2=[]:=by cases c2 with | nil=>rfl | cons _ _=>exact q3.elim
   subst hc2;rw[XZ]at g1 g2;have hz0:0 < ie.zero.length:=by rw[tie.qc];omega
   obtain⟨z,hz1,hz2⟩:=uT tie w;have hc0:n * ie.size=0→(iP n ie.zero).toArray=#[]:=by
    intro h0;have:n=0:=by rcases Nat.mul_eq_zero.1 h0 with h0 | h0<;>omega
    subst this;simp[iP]
   have hc1:((Array.range (n * ie.size)).map (λi=>z.cells[i % z.cells.size]!))=(iP n ie.zero).toArray:=by
    rw[hz2,←tie.qc];exact rD hz0
   refine⟨.slice (some ⟨w.heap.size,0,none⟩) n n,w.alloc (.cells c1.toArray el),.row (.slice (some ⟨w.heap.size,0,none⟩) n n),?_,oQ _ _ _,?_,?_,?_⟩
   ·have hbig:¬(n * ie.size > 2 ^ 24):=by omega
    by_cases h0:n * ie.size=0
    ·have e0:=hc0 h0;rw[e0]at g1;simp only[execOp,ho,Instr.buildSlice,Sem.run_bind,run_underlying hu,Result.andThen_ok,run_sizeOf tie,hbig,aeJ,Sem.run_ite,Sem.run_pure,h0,if_true];rw[htl];rw[show(Array.map (λx=>(#[]:Array Value)[x % (#[]:Array Value).size]!) (Array.range 0))=#[] from by simp]
     rw[g1];simp only[Sem.run_bind,newRow,run_newObj,Result.andThen_ok,Sem.run_pure];rfl
    ·simp only[execOp,ho,Instr.buildSlice,Sem.run_bind,run_underlying hu,Result.andThen_ok,run_sizeOf tie,hbig,aeJ,Sem.run_ite,Sem.run_pure,h0,hz1];rw[htl,hc1,g1];simp only[Sem.run_bind,newRow,run_newObj,Result.andThen_ok,Sem.run_pure];rfl
   ·intro b hb;rw[bF]at hb;simp[aC]at hb;obtain⟨_,rfl⟩:=hb;simp
   ·by_cases hn0:n=0
    ·exact .inr (.inl ⟨⟨w.heap.size,0,none⟩,by rw[hn0],LY (by rw[q1,hn0])⟩)
    refine .inr (.inr ⟨w.heap.size,n,c1.toArray,by rw[q1],nD _ _,by omega,⟨by omega,?_⟩,?_,?_⟩)
    ·have:n≤n * ie.size:=A76 n (by omega)
     simp only[maxLen];omega
    ·have e:=g2.length;rw[hl2]at e;simp only[oI];rw[hl1];omega
    ·have e:=g2.length;rw[hl2]at e;rw[q1,hl1,tZ (by simp;omega)];exact q2
   ·exact⟨⟨_,kR (lM ak) _,rfl⟩,rfl,rfl⟩
  ·exact k.elim
 ·exact k.elim
end
end Go.aV
namespace Go.aV
open Go Go.RowKit
theorem jv(w:World) (g:Nat) (cs:Array Value):Gb w (w.setRow g cs) (some g):=
 ⟨⟨rfl,rfl,rfl,by simp,λk _ hk=>setRow_other w g k cs λe=>hk (by rw[e])⟩,Eb _⟩
theorem fH{P:Program}{t:TypeId}{i:TI} (k:aP P t i){w:World}{g o:Nat}{tt:TypeId}{cur:Array Value}{v:Value} (hg:w.heap[g]?=some (.cells cur tt (0,0)))
 (hs:v.cells.size=i.size) (hfit:o+i.size≤cur.size) (h1:∀u∈v.cells.toList,dO u):
 (Instr.storeAt t (.pointer (some ⟨g,o,none⟩)) v).run P w=.ok () (w.setRow g (cur.toList.take o++v.cells.toList++cur.toList.drop (o+i.size)).toArray):=by
 have:=run_storeCells_at P g o tt v.cells.toList 0 cur w hg (by simp;omega) (λu hu=>(h1 u hu).2)
 simp only[P8,PV]at this;simp only[Instr.storeAt,Instr.sureAddr,Sem.run_bind,Sem.run_pure,Result.andThen_ok,storeVar,run_sizeOf k,hs,ne_eq,not_true_eq_false,aeJ,Sem.run_ite];rw[←hs];exact this
theorem aW.one{h:FH}{β:List RV}{xs:List SC}{ys:List Value} (a:aW (λx y=>eH h β x y∧dO y) xs ys):∀u∈ys,dO u:=by
 induction xs generalizing ys with
 | nil=>cases ys with
   | nil=>intro u hu;simp at hu
   | cons _ _=>exact a.elim
 | cons x xs ih=>cases ys with
   | nil=>exact a.elim
   | cons y ys=>
     intro u hu;rcases mX.1 hu with rfl | hu
     ·exact a.1.2
     ·exact ih a.2 u hu
@[reducible] def JI (cx:Cx) (s:St) (d:Option Nat) (t:TypeId) (p x:Operand) (K:St→Prop):Prop:=match qo cx.ti t with
  | none=>False
  | some i=>match bU cx s [] p with
    | some (.one (.c (.own r off)))=>match bU cx s [] x with
      | some (.one v)=>match fD s.T r with
        | some ([],.blk tt cs)=>match v with
          | .dat sh dd=>match dL (Nat.beq off 0) (dL (Nat.beq (aS cs) i.size) (Nat.beq sh.size i.size)) with
            | true=>K ({ s with T:=dK s.T r ([],.obj tt sh dd) }.put d [] (.one .und))
            | false=>False
          | v=>match ou v with
            | some xs=>match dL (Nat.beq (aS xs) i.size) (Nat.ble (off+i.size) (aS cs)) with
              | true=>K ({ s with T:=dK s.T r ([],.blk tt (WE off xs cs)) }.put d [] (.one .und))
              | false=>False
            | none=>False
        | some ([],.obj tt sh d0)=>match yQ sh d0 off i.size v with
          | some dd=>K ({ s with T:=dK s.T r ([],.obj tt sh dd) }.put d [] (.one .und))
          | none=>False
        | _=>False
      | _=>False
    | some (.one (.c (.kF r j sz off)))=>match bU cx s [] x with
      | some (.one v)=>match fD s.T r with
        | some ([],.row tt sh l)=>match dL (Nat.beq sz sh.size) (dL (Nat.beq off 0) (Nat.beq sh.size i.size)) with
          | true=>match toDat sh v with
            | some dd=>(j < l.length)∧K ({ s with T:=dK s.T r ([],.row tt sh (l.set j dd)) }.put d [] (.one .und))
            | none=>False
          | false=>match Nat.beq sz sh.size with
            | true=>(j < l.length)∧∀e:sh.den,l[j]?=some e→match yQ sh e off i.size v with
              | some dd=>K ({ s with T:=dK s.T r ([],.row tt sh (l.set j dd)) }.put d [] (.one .und))
              | none=>False
            | false=>False
        | some ([],.obj tt sh d0)=>match AQ sh d0 off j sz i.size v with
          | some p=>(j < p.1)∧K ({ s with T:=dK s.T r ([],.obj tt sh p.2) }.put d [] (.one .und))
          | none=>False
        | _=>False
      | _=>False
    | _=>False
section
variable {cx:Cx}{P:Program}{N:Nat}{B:Base}{h0:FH}{s:St}{h:FH}{β:List RV}{w:World}{a:Act}{o:Oper}{K:St→Prop}
theorem xM{s:St}{r:Nat}{x:aj}:eff s.gl (dK s.T r ([],x))=(eff s.gl s.T).set r x:=by rw[fZ]
theorem qK(ak:Sat N B h0 s h β w a){r:Nat}{x:aj}:∀p∈dK s.T r ([],x),vU s.gl.length p.1=true:=by
 intro p hp;rw[gG]at hp;rcases yL hp with hp | hp
 ·exact ak.gT p hp
 ·subst hp;rfl
theorem rF(ak:Sat N B h0 s h β w a) (hq:quietly o.op=false) (hd:lZ N o.dst=true){r g:Nat}{x x':aj}{u:RV} (hT:fD s.T r=some ([],x)) (hl:x.live=true) (hu:β[r]?=some u) (hub:u.block=some g){cs:Array Value}
 (hold:Holds h β (w.setRow g cs) x' u) (run:(execOp a.eval o).run P w=.ok .skip (w.setRow g cs)) (k:K ({ s with T:=dK s.T r ([],x') }.put o.dst [] (.one .und))):
 gI P N B h0 h w a o (gv s.gl []) K:=by
 have gu:=bJ hT (show gv s.gl []=true from rfl)
 have ok:OK B h0 (eff s.gl (dK s.T r ([],x'))) h β (w.setRow g cs):=by
  rw[xM];have:=ak.ok.upd (r':=x') (v:=u) gu hl hu (row:=some g) (jv w g cs) (λk e=>by cases e;exact .inl hub) (λb hb=>.inl hb) (.inl rfl) (by rw[iq hu];exact hold)
  rwa [iq hu]at this
 refine nC ak k rfl hq (.inr ⟨run,rfl⟩) (FH.le.refl h) ((ak.mem ok (FH.le.refl h) (Ext.refl β) (qK ak)).put (eG hd) rfl (λ_=>rfl) λhh=>by cases hh)
theorem Qo(hc:cO P cx.ti) (ak:Sat N B h0 s h β w a) (hg:aO cx.gd h) (hd:lZ N o.dst=true){t:TypeId}{p x:Operand} (ho:o.op=.store t p x) (k:JI cx s o.dst t p x K):
 gI P N B h0 h w a o (gv s.gl []) K:=by
 have tr:gv s.gl []=true:=rfl;unfold JI at k;split at k
 ·exact k.elim
 rename_i i hi;have ti:=hc.get hi;have exec:∀{w':World}{v pv:Value},a.eval x=v→a.eval p=pv→(Instr.storeAt t pv v).run P w=.ok () w'→(execOp a.eval o).run P w=.ok .skip w':=by
  intro w' v pv e1 e2 r;simp only[execOp,ho,e1,e2,Sem.run_bind,r,Result.andThen_ok,Sem.run_pure]
 split at k
 ·rename_i r off hp;obtain⟨⟨b,hb,ep⟩,_⟩:=aQ ak hg tr hp;split at k
  ·rename_i v hv;have cv:=aQ ak hg tr hv;split at k
   ·rename_i tt cs hT;obtain⟨ys,he,hall⟩:=ak.ok.holds r _ _ (bJ hT tr) hb;have hlen:=hall.length;split at k
    ·rename_i sh dd;split at k
     ·rename_i hz;rw[aF,aF,A8,A8]at hz;have hz1:off=0:=gK hz.1;have hz2:cs.length=i.size:=by have:=gK hz.2.1;rwa [bH]at this
      have hz3:sh.size=i.size:=gK hz.2.2;subst hz1;obtain⟨_,cs',ev,rd⟩:=cv;have hsz:=Rd.size sh rd;have r1:=fH (o:=0) (v:=a.eval x) ti he (by rw[ev];simp[Value.cells];omega) (by simp;omega) (by rw[ev];intro u hu;exact Rd.one sh rd u (by simpa[Value.cells]using hu))
      refine rF ak (by rw[ho];rfl) hd hT rfl hb rfl ?_ (exec rfl ep r1) k
      refine⟨_,setRow_heap w b _ _ tt (0,0) he,?_⟩;simp only[Yj,L9,XW];rw[H9 (by first | omega | (simp;omega)),XZ,ev]
      exact rd
     ·exact k.elim
    ·split at k
     ·rename_i xs hxs;split at k
      ·rename_i hz;rw[aF,A8]at hz;have hz1:xs.length=i.size:=by have:=gK hz.1;rwa [bH]at this
       have hz2:off+i.size≤cs.length:=by have:=qP hz.2;rwa [bH]at this
       have hall':=xJ hxs cv;have hl':=hall'.length;simp only[PV]at hl';have r1:=fH (o:=off) (v:=a.eval x) ti he (by omega) (by simp;omega) hall'.one
       refine rF ak (by rw[ho];rfl) hd hT rfl hb rfl ?_ (exec rfl ep r1) k
       refine⟨_,setRow_heap w b _ _ tt (0,0) he,?_⟩;unfold WE;rw[fV,fV,jQ,qW,bH,hz1];simp only[];rw[uO];exact(hall.take off).cat (hall'.cat (hall.drop _))
      ·exact k.elim
     ·exact k.elim
   ·rename_i tt sh d0 hT;obtain⟨ys,he,rd0⟩:=ak.ok.holds r _ _ (bJ hT tr) hb;split at k
    ·rename_i dd hdd;obtain⟨cs',ec,e2,e3,e4,e5⟩:=oz sh hdd rd0 cv;have r1:=fH (o:=off) (v:=a.eval x) ti he (by rw[ec];simp;omega) (by simp;omega) (by rw[ec];intro u hu;exact e3 u (by simpa using hu))
     refine rF ak (by rw[ho];rfl) hd hT rfl hb rfl ?_ (exec rfl ep r1) k
     refine⟨_,setRow_heap w b _ _ tt (0,0) he,?_⟩;rw[ec];exact e5
    ·exact k.elim
   ·exact k.elim
  ·exact k.elim
 ·rename_i r j sz off hp;obtain⟨⟨v0,g,hb,hgb,ep⟩,_⟩:=aQ ak hg tr hp;split at k
  ·rename_i v hv;have cv:=aQ ak hg tr hv;split at k
   ·rename_i tt sh l hT
    -- a store of k cells at a place of the j-th element
    have part:∀{e dd:sh.den},sz=sh.size→l[j]?=some e→(∀{cs:List Value},Rd h sh cs e→Upd h sh cs off i.size (a.eval x) dd) →
     K ({ s with T:=dK s.T r ([],.row tt sh (l.set j dd)) }.put o.dst [] (.one .und))→gI P N B h0 h w a o (gv s.gl []) K:=by
     intro e dd hz1 hej hu k;have hj:=(eU.1 hej).1;have hold:=ak.ok.holds r _ _ (bJ hT tr) hb
     match v0,hold with
     | .row vv,hold=>
       rcases hold with⟨hv0,_⟩ | ⟨_,hv0,_⟩ | ⟨g',cap,cur,hv0,he,q2,q3,q4,q5⟩
       ·subst hv0;simp[RV.block,aC]at hgb
       ·subst hv0;simp[RV.block,aC]at hgb
       ·have hgg:g'=g:=by rw[hv0]at hgb;exact PL ((qU q3.1).symm.trans hgb)
        subst hgg;have hm:(j+1) * sh.size≤l.length * sh.size:=sH _ hj;have hm2:l.length * sh.size≤cap * sh.size:=sH _ q2;rw[PU]at hm;obtain⟨g1,g2⟩:=q5.get (λ_ _=>Rd.size sh) hej
        have gl:=Rd.size sh g1;obtain⟨cs',ec,e2,e3,e4,e5⟩:=hu g1;rw[gl]at e4;have r1:=fH (o:=j * sz+off) (v:=a.eval x) ti he (by rw[ec];simp;omega) (by rw[hz1];omega) (by rw[ec];intro u hu;exact e3 u (by simpa using hu))
        refine rF ak (by rw[ho];rfl) hd hT rfl hb hgb ?_ (exec rfl ep r1) k
        rw[ec,hz1];refine .inr (.inr ⟨g',cap,_,by rw[hv0,pX],setRow_heap w g' _ _ tt (0,0) he,by rw[pX];exact q2,q3,?_,?_⟩)
        ·simp only[oI,kD,ku,xB,PV];omega
        ·rw[pX];show gy (Rd h sh) ((List.take (j * sh.size+off) cur.toList++cs'++List.drop (j * sh.size+off+i.size) cur.toList).take (l.length * sh.size)) (l.set j dd);have e:=gy.set (λ_ _=>Rd.size sh) q5 hj e5
         have lc:cur.toList.length=cap * sh.size:=by simpa using q4
         have key:(List.take (j * sh.size+off) cur.toList++cs'++List.drop (j * sh.size+off+i.size) cur.toList).take (l.length * sh.size) =
          List.take (j * sh.size) (List.take (l.length * sh.size) cur.toList)++(List.take off (List.take sh.size (List.drop (j * sh.size) (List.take (l.length * sh.size) cur.toList)))++cs'++List.drop (off+i.size) (List.take sh.size (List.drop (j * sh.size) (List.take (l.length * sh.size) cur.toList))))++List.drop (j * sh.size+sh.size) (List.take (l.length * sh.size) cur.toList):=by
          apply yJ;intro p;simp only[VO,uD,Dc,kD,ku,xB,lc,e2]
          repeat' split
          all_goals first | rfl | omega | (congr 1;omega) | (rw[qJ (by omega)]) | (exfalso;omega) | skip
         rw[key];exact e
    split at k
    ·rename_i hz;rw[aF,aF,A8,A8]at hz;have hz1:sz=sh.size:=gK hz.1;have hz2:off=0:=gK hz.2.1;have hz3:sh.size=i.size:=gK hz.2.2;split at k
     ·rename_i dd hdd;obtain⟨hj,k⟩:=k;refine part hz1 (l7 hj) (λhr=>?_) k
      subst hz2;exact AP hz3 hdd hr cv
     ·exact k.elim
    ·split at k
     ·rename_i hz;have hz1:sz=sh.size:=gK hz;obtain⟨hj,k⟩:=k;have k:=k _ (l7 hj);split at k
      ·rename_i dd hdd;exact part hz1 (l7 hj) (λhr=>oz sh hdd hr cv) k
      ·exact k.elim
     ·exact k.elim
   ·rename_i tt sh d0 hT;split at k
    ·rename_i p hp0;obtain⟨hj,k⟩:=k;have hold:=ak.ok.holds r _ _ (bJ hT tr) hb
     match v0,hold with
     | .blk b,⟨ys,he,rd0⟩=>
       have hgg:b=g:=by simpa[RV.block]using hgb
       subst hgg;obtain⟨cs',ec,e2,e3,e4,e5⟩:=JB sh hp0 rd0 cv hj;have r1:=fH (o:=j * sz+off) (v:=a.eval x) ti he (by rw[ec];simp;omega) (by simp;omega) (by rw[ec];intro u hu;exact e3 u (by simpa using hu))
       refine rF ak (by rw[ho];rfl) hd hT rfl hb hgb ?_ (exec rfl ep r1) k
       refine⟨_,setRow_heap w b _ _ tt (0,0) he,?_⟩;rw[ec];exact e5
    ·exact k.elim
   ·exact k.elim
  ·exact k.elim
 ·exact k.elim
end
end Go.aV
namespace Go.aV
open Go Go.RowKit
def jS(n bytes:Nat):Prop:=n * bytes≤140737488355328
@[reducible] def Dj (i:Nat) (x:SC):SC:=match SC.free i x with
  | true=>x
  | false=>.junk
@[reducible] def jkV (i:Nat):SV→SV
  | .c x=>.c (Dj i x)
  | .agg xs=>.agg (fE (Dj i) xs)
  | v=>v
@[reducible] def jkE (i:Nat):aT→aT
  | .one v=>.one (jkV i v)
  | .gX vs=>.gX (fE (jkV i) vs)
@[reducible] def jkR (i:Nat):aj→aj
  | .blk t cs=>.blk t (fE (Dj i) cs)
  | r=>r
@[reducible] def uj (i:Nat):List (Nat×Gd×aT)→List (Nat×Gd×aT)
  | []=>[]
  | (k,g,e) :: l=>(k,g,jkE i e) :: uj i l
@[reducible] def Na (i:Nat):List (Gd×aj)→List (Gd×aj)
  | []=>[]
  | (g,r) :: l=>(g,jkR i r) :: Na i l
theorem eH.jk{h:FH}{β:List RV}{i:Nat}{x:SC}{y:Value} (v:RV) (c:eH h β x y):eH h (β.set i v) (Dj i x) y:=by
 unfold Dj;split
 ·rename_i hf;exact c.set hf
 ·trivial
theorem eH.jk0{h:FH}{β:List RV}{i:Nat}{x:SC}{y:Value} (c:eH h β x y):eH h β (Dj i x) y:=by
 unfold Dj;split
 ·exact c
 ·trivial
theorem aW.jk{h:FH}{β:List RV}{i:Nat} (v:RV):∀{xs:List SC}{ys:List Value},aW (λx y=>eH h β x y∧dO y) xs ys→aW (λx y=>eH h (β.set i v) x y∧dO y) (fE (Dj i) xs) ys
 | [],[],_=>trivial
 | _ :: _,_ :: _,⟨a,b⟩=>⟨⟨a.1.jk v,a.2⟩,aW.jk v b⟩
theorem aW.jk0{h:FH}{β:List RV}{i:Nat}:∀{xs:List SC}{ys:List Value},aW (λx y=>eH h β x y∧dO y) xs ys→aW (λx y=>eH h β x y∧dO y) (fE (Dj i) xs) ys
 | [],[],_=>trivial
 | _ :: _,_ :: _,⟨a,b⟩=>⟨⟨a.1.jk0,a.2⟩,aW.jk0 b⟩
theorem dJ.jk{h:FH}{β:List RV}{i:Nat} (v:RV):∀{x:SV}{y:Value},dJ h β x y→dJ h (β.set i v) (jkV i x) y
 | .c _,_,c=>⟨c.1.jk v,c.2⟩
 | .agg _,_,⟨ys,e,a⟩=>⟨ys,e,a.jk v⟩
 | .dat _ _,_,c=>c
 | .und,_,c=>c
theorem kC.jk{h:FH}{β:List RV}{i:Nat} (v:RV):∀{x:aT}{y:Value},kC h β x y→kC h (β.set i v) (jkE i x) y
 | .one _,_,c=>dJ.jk v c
 | .gX _,_,⟨ys,e,a⟩=>⟨ys,e,go a⟩
where
 go:∀{xs:List SV}{ys:List Value},aW (dJ h β) xs ys→aW (dJ h (β.set i v)) (fE (jkV i) xs) ys
  | [],[],_=>trivial
  | _ :: _,_ :: _,⟨a,b⟩=>⟨a.jk v,go b⟩
theorem Holds.jk0{h:FH}{β:List RV}{w:World}{i:Nat}:∀{r:aj}{v:RV},Holds h β w r v→Holds h β w (jkR i r) v
 | .blk _ _,.blk _,⟨ys,e,a⟩=>⟨ys,e,a.jk0⟩
 | .row _ _ _,.row _,e=>e
 | .obj _ _ _,.blk _,e=>e
 | .deep _ _ _ _ _ _ _ _,.deep _ _,e=>e
 | .mp _ _ _,.row _,e=>e
 | .PN _ _ _ _,.deep _ _,e=>e
 | .it _ _ _ _,.blk _,e=>e
 | .MG _ _ _ _,.row _,e=>e
 | .Ia _ _ _ _,.deep _ _,e=>e
 | .gone,_,_=>trivial
theorem YR(i:Nat) (x:SC):SC.free i (Dj i x)=true:=by
 unfold Dj;split
 ·assumption
 ·rfl
theorem EK(i:Nat):∀xs:List SC,vP i (fE (Dj i) xs)=true
 | []=>rfl
 | x :: l=>by simp only[fE,vP,YR,EK i l,Bool.and_self]
theorem Nb(i:Nat) (r:aj):aj.free i (jkR i r)=true:=by
 cases r with
 | blk t cs=>exact EK i cs
 | _=>rfl
theorem uY(i:Nat) (r:aj):(jkR i r).live=r.live:=by cases r<;>rfl
theorem EL(i:Nat):∀{l:List (Nat×Gd×aT)}{t:Nat}{G:Gd}{e:aT},iG (uj i l) t=some (G,e)→∃e0,iG l t=some (G,e0)∧e=jkE i e0
 | [],_,_,_,h=>by simp[uj,iG]at h
 | (k,g,e0) :: l,t,G,e,h=>by
   simp only[uj]at h;rw[bD]at h ⊢
   split at h
   ·rename_i hk;cases h;exact⟨e0,by rw[if_pos hk],rfl⟩
   ·rename_i hk;rw[if_neg hk];exact EL i h
theorem JJ(i:Nat):∀{l:List (Nat×Gd×aT)}{t:Nat}{G:Gd}{e:aT},iG l t=some (G,e)→iG (uj i l) t=some (G,jkE i e)
 | [],_,_,_,h=>by simp[iG]at h
 | (k,g,e0) :: l,t,G,e,h=>by
   simp only[uj];rw[bD]at h ⊢
   split at h
   ·rename_i hk;cases h;rw[if_pos hk]
   ·rename_i hk;rw[if_neg hk];exact JJ i h
theorem Qp(gl:List Bool) (i:Nat):∀{T:List (Gd×aj)},eff gl (Na i T)=(eff gl T).map (jkR i)
 | []=>rfl
 | (g,r) :: l=>by
   simp only[Na,eff,X9,Qp gl i (T:=l)]
   congr 1
   cases gv gl g<;>rfl
section
variable {cx:Cx}{P:Program}{N:Nat}{B:Base}{h0:FH}{s:St}{h:FH}{β:List RV}{w:World}{a:Act}{o:Oper}{K:St→Prop}
theorem OK.jk{T:List aj} (ok:OK B h0 T h β w) (i:Nat):OK B h0 (T.map (jkR i)) h β w where
 below:=ok.below
 dr:=ok.dr
 len:=by simp[ok.len]
 holds:=by
  intro j r v e e';rw[LX]at e;cases hj:T[j]? with
  | none=>rw[hj]at e;cases e
  | some r0=>rw[hj]at e;cases e;exact(ok.holds j r0 v hj e').jk0
 own:=by
  intro j r v b e hl e' hb;rw[LX]at e;cases hj:T[j]? with
  | none=>rw[hj]at e;cases e
  | some r0=>rw[hj]at e;cases e;exact ok.own j r0 v b hj (by rw[←uY i];exact hl) e' hb
 inj:=by
  intro j k r1 r2 u v b e1 l1 e2 l2 e3 e4 b1 b2;rw[LX]at e1 e2;cases hj:T[j]? with
  | none=>rw[hj]at e1;cases e1
  | some q1=>
    cases hk:T[k]? with
    | none=>rw[hk]at e2;cases e2
    | some q2=>
      rw[hj]at e1;rw[hk]at e2;cases e1;cases e2;exact ok.inj j k q1 q2 u v b hj (by rw[←uY i];exact l1) hk (by rw[←uY i];exact l2) e3 e4 b1 b2
 hle:=ok.hle
 hw:=ok.hw
 hg:=ok.hg
 kn:=ok.kn
theorem WL(ak:Sat N B h0 s h β w a) (hq:quietly o.op=false) (hd:lZ N o.dst=true){r:Nat}{x x':aj}{u v:RV} (hT:fD s.T r=some ([],x)) (hl:x.live=true) (hu:β[r]?=some u){y:Value}{w':World}
 (hg:Gb w w' u.block) (hv:∀b,v.block=some b→u.block=some b∨(w.heap.size≤b∧b < w'.heap.size)) (hvs:∀b,¬v.sub b:=by exact λ_ h=>h) (hold:Holds h (β.set r v) w' x' v)
 (run:(execOp a.eval o).run P w=.ok (.value y) w'){e:aT} (he:kC h (β.set r v) e y)
 (k:K ({ s with T:=dK (Na r s.T) r ([],x'),env:=uj r s.env }.put o.dst [] e)):
 gI P N B h0 h w a o (gv s.gl []) K:=by
 have tr:gv s.gl []=true:=rfl;have gu:=bJ hT tr;have okj:=ak.ok.jk r;have hTj:((eff s.gl s.T).map (jkR r))[r]?=some (jkR r x):=by rw[LX,gu];rfl
 have ok:OK B h0 (eff s.gl (dK (Na r s.T) r ([],x'))) h (β.set r v) w':=by
  rw[fZ,Qp];refine okj.upd hTj (by rw[uY];exact hl) hu hg (λk e=>.inl e) (λb hb=>hb.elim (λq=>(hv b q).imp .inl id) λq=>(hvs b q).elim) (.inr λj rj _ ej=>?_) hold
  rw[LX]at ej;cases hj:(eff s.gl s.T)[j]? with
  | none=>rw[hj]at ej;cases ej
  | some q=>rw[hj]at ej;cases ej;exact Nb r q
 have aY:Sat N B h0 { s with T:=dK (Na r s.T) r ([],x'),env:=uj r s.env } h (β.set r v) w' a:=by
  refine⟨ok,?_,?_,ak.defers,ak.sz,?_,?_⟩
  ·intro t G e ht;obtain⟨e0,h1,rfl⟩:=EL r ht;obtain⟨z,q1,q2,q3⟩:=ak.env t G e0 h1;exact⟨z,q1,λhG=>(q2 hG).jk v,q3⟩
  ·intro d i hi;obtain⟨G,b,q1,q2⟩:=ak.gs d i hi;exact⟨G,b,JJ r q1,q2⟩
  ·intro t G e ht;obtain⟨e0,h1,rfl⟩:=EL r ht;exact ak.gb t G e0 h1
  ·intro p hp;simp only at hp;rw[gG]at hp;rcases yL hp with hp | hp
   ·have:∀{l:List (Gd×aj)},p∈Na r l→∃q∈l,q.1=p.1:=by
     intro l
     induction l with
     | nil=>intro hh;simp[Na]at hh
     | cons q l ih=>
       obtain⟨g,q⟩:=q;intro hh;simp only[Na,mX]at hh;rcases hh with rfl | hh
       ·exact⟨(g,q),by simp,rfl⟩
       ·obtain⟨q',h1,h2⟩:=ih hh;exact⟨q',by simp[h1],h2⟩
    obtain⟨q,h1,h2⟩:=this hp;rw[←h2];exact ak.gT q h1
   ·subst hp;rfl
 exact nC ak k tr hq (.inl run) (FH.le.refl h) (aY.put (eG hd) rfl (λ_=>he) λhh=>by cases hh)
end
def YT(h:FH) (w:World) (sh:Sh) (v:Value) (l:List sh.den):Prop:=
 (v=.slice none 0 0∧l=[])∨(∃a c,v=.slice (some a) 0 c∧l=[])∨∃b o c cs,v=.slice (some ⟨b,o,none⟩) l.length c∧gy (Rd h sh) cs l∧∀j u,cs[j]?=some u→w.cell? ⟨b,o+j,none⟩=some u
def TK(h:FH) (w:World) (t:TypeId) (sh:Sh) (v:Value) (l:List sh.den):Prop:=Holds h [] w (.row t sh l) (.row v)
theorem uZ{P:Program}{t ty el:TypeId}{i:TI}{h:FH}{w:World}{sh:Sh}{v sv:Value}{l l2:List sh.den} (hu:P.underlying t=some (.slice el)) (k:aP P el i) (hs:sh.size=i.size)
 (hb1:1≤i.bytes) (hs1:1≤i.size) (row:TK h w el sh v l) (src:YT h w sh sv l2) (room:jS (l.length+l2.length) i.bytes)
 (hw:∀b o u,h b o=some u→vis w b o=some u):
 ∃v' w',(Builtin.append_ #[t,t] ty #[v,sv]).run P w=.ok v' w'∧Gb w w' (aC v)∧(∀b,aC v'=some b→aC v=some b∨(w.heap.size≤b∧b < w'.heap.size))∧TK h w' el sh v' (l++l2):=by
 obtain⟨inf,z,i1,i2,i3,i4,i5⟩:=k.info;unfold jS at room;have hn:l.length+l2.length≤140737488355328:=vO (A76 _ hb1) room;have YU:z.cells.size=i.size:=by rw[i5];simpa using k.qc
 rcases src with⟨rfl,rfl⟩ | ⟨sa,sc,rfl,rfl⟩ | ⟨b,o,c,cs,rfl,rd,at_⟩
 ·refine⟨v,w,?_,dD _ _,λb hb=>.inl hb,by rw[XZ];exact row⟩
  rcases row with⟨rfl,rfl⟩ | ⟨_,rfl,rfl⟩ | ⟨g,cap,cur,rfl,q1,q2,q3,q4,q5⟩
  ·simp[Builtin.append_,run_underlying hu,sizeOf,typeInfo,i1,Builtin.lenOf,Builtin.firstCells]
  ·simp[Builtin.append_,run_underlying hu,sizeOf,typeInfo,i1,Builtin.lenOf,Builtin.firstCells,storeCells]
  ·simp[Builtin.append_,run_underlying hu,sizeOf,typeInfo,i1,Builtin.lenOf,Builtin.firstCells,q2,storeCells]
 ·refine⟨v,w,?_,dD _ _,λb hb=>.inl hb,by rw[XZ];exact row⟩
  rcases row with⟨rfl,rfl⟩ | ⟨_,rfl,rfl⟩ | ⟨g,cap,cur,rfl,q1,q2,q3,q4,q5⟩
  ·simp[Builtin.append_,run_underlying hu,sizeOf,typeInfo,i1,Builtin.lenOf,Builtin.firstCells,loadCells,loadCellsFrom]
  ·simp[Builtin.append_,run_underlying hu,sizeOf,typeInfo,i1,Builtin.lenOf,Builtin.firstCells,storeCells,loadCells,loadCellsFrom]
  ·simp[Builtin.append_,run_underlying hu,sizeOf,typeInfo,i1,Builtin.lenOf,Builtin.firstCells,q2,storeCells,loadCells,loadCellsFrom]
 ·have hcs:cs.length=l2.length * inf.size:=by rw[gy.size (λ_ _=>Rd.size sh) rd,i2,hs]
  have hnews:∀j u,cs[j]?=some u→w.cell? ((⟨b,o,none⟩:Addr).add j)=some u:=λj u e=>by rw[add_lit];exact at_ j u e
  have h1:∀u∈cs,u.oneCell'=true:=λu hu'=>(gy.all (λ_ _ r=>Rd.one sh r) rd u hu').2
  rcases row with⟨rfl,rfl⟩ | ⟨ra,rfl,rfl⟩ | ⟨g,cap,cur,rfl,q1,q2,q3,q4,q5⟩
  ·by_cases hm:l2.length=0
   ·have:l2=[]:=LY hm;subst this;refine⟨.slice none 0 0,w,?_,dD _ _,λb hb=>.inl hb,.inl ⟨rfl,rfl⟩⟩
    simp[Builtin.append_,run_underlying hu,sizeOf,typeInfo,i1,Builtin.lenOf,Builtin.firstCells,loadCells,loadCellsFrom]
   ·have r:=run_append_nil (P:=P) w t ty el inf z hu i1 i4 ⟨b,o,none⟩ l2.length c cs hcs hnews (by omega) (by simp at hn;omega) (by rw[i3];simp at room;omega)
    have hge:=grownCap_ge w l2.length 0 el;refine⟨_,_,r,⟨⟨rfl,rfl,rfl,by simp,λk hk _=>(World.grownBy_alloc w.drew _ none).block k hk (by simp)⟩,A98 _⟩,?_,?_⟩
    ·intro b' hb';simp[aC]at hb';obtain⟨_,rfl⟩:=hb';right;simp
    ·refine .inr (.inr ⟨w.heap.size,_,_,rfl,heap_alloc_new w.drew _,by simpa using hge,⟨by omega,grownCap_le_maxLen w l2.length 0 el (by simp only[maxLen];simp at hn;omega)⟩,?_,?_⟩)
     ·simp only[A82,oI,size_zeroCells,YU,hcs,i2,hs,←Td]
      congr 1;omega
     ·simp only[A95,L9];rw[show l2.length * sh.size=cs.length by rw[hcs,i2,hs],A93]
      exact rd
  ·by_cases hm:l2.length=0
   ·have:l2=[]:=LY hm;subst this;refine⟨.slice (some ra) 0 0,w,?_,dD _ _,λb hb=>.inl hb,.inr (.inl ⟨ra,rfl,rfl⟩)⟩
    simp[Builtin.append_,run_underlying hu,sizeOf,typeInfo,i1,Builtin.lenOf,Builtin.firstCells,storeCells,loadCells,loadCellsFrom]
   ·have r:=run_append_grow (P:=P) w t ty el inf z hu i1 i4 ra 0 0 [] (by simp) (λj u e=>by simp at e) ⟨b,o,none⟩ l2.length c cs hcs hnews (by omega) (by simp at hn;omega) (growslice_fits (by omega) (by rw[i3];simpa using room))
    rw[XW]at r;have hge:=grownCap_ge w l2.length 0 el;refine⟨_,_,r,⟨⟨rfl,rfl,rfl,by simp,λk hk _=>(World.grownBy_alloc w.drew _ none).block k hk (by simp)⟩,A98 _⟩,?_,?_⟩
    ·intro b' hb';simp[aC]at hb';obtain⟨_,rfl⟩:=hb';right;simp
    ·refine .inr (.inr ⟨w.heap.size,_,_,rfl,heap_alloc_new w.drew _,by simpa using hge,⟨by omega,grownCap_le_maxLen w l2.length 0 el (by simp only[maxLen];simp at hn;omega)⟩,?_,?_⟩)
     ·simp only[A82,oI,size_zeroCells,YU,L9,hcs,i2,hs,XW,LZ,←Td]
      congr 1;omega
     ·simp only[A95,L9];rw[show l2.length * sh.size=cs.length by rw[hcs,i2,hs],A93]
      exact rd
  ·by_cases hroom:l.length+l2.length≤cap
   ·have hfit:l.length * inf.size+cs.length≤cur.size:=by rw[hcs,q4,i2,hs,←Td];exact sH _ hroom
    have r:=run_append_room (P:=P) w t ty el inf hu i1 g l.length cap cur q1 ⟨b,o,none⟩ l2.length c cs hcs hnews h1 hroom hfit;refine⟨_,_,r,by rw[bC q3.1];exact jv w g _,λb' hb'=>.inl (by rw[bC q3.1]at hb' ⊢;exact hb'),.inr (.inr ⟨g,cap,_,by rw[kD],setRow_heap w g cur _ el _ q1,by rw[kD];exact hroom,q3,?_,?_⟩)⟩
    ·simp only[oI,kD,ku,xB,PV];omega
    ·have e1:(List.take (l.length * sh.size) cur.toList++cs).length=(l++l2).length * sh.size:=by
      rw[kD,kD,Td,hcs,i2,gy.size (λ_ _=>Rd.size sh) q5,hs]
     show gy (Rd h sh) ((List.take (l.length * inf.size) cur.toList++cs++List.drop (l.length * inf.size+cs.length) cur.toList).take ((l++l2).length * sh.size)) (l++l2);rw[i2,←hs,←e1,A93];exact q5.append rd
   ·have lsz:=gy.size (λ_ _=>Rd.size sh) q5
    have hol:(cur.toList.take (l.length * sh.size)).length=l.length * inf.size:=by rw[lsz,i2,hs]
    have holds:∀j u,(cur.toList.take (l.length * sh.size))[j]?=some u→w.cell? ((⟨g,0,none⟩:Addr).add j)=some u:=by
     intro j u e;rw[add_lit,XW,cell_of_row w g j cur el (0,0) q1];rw[uD]at e;split at e
     ·simpa using e
     ·cases e
    have r:=run_append_grow (P:=P) w t ty el inf z hu i1 i4 ⟨g,0,none⟩ l.length cap _ hol holds ⟨b,o,none⟩ l2.length c cs hcs hnews (by omega) (by omega) (growslice_fits (by omega) (by rw[i3];exact room))
    have hge:=grownCap_ge w (l.length+l2.length) cap el;refine⟨_,_,r,⟨⟨rfl,rfl,rfl,by simp,λk hk _=>(World.grownBy_alloc w.drew _ none).block k hk (by simp)⟩,A98 _⟩,?_,?_⟩
    ·intro b' hb';simp[aC]at hb';obtain⟨_,rfl⟩:=hb';right;simp
    ·refine .inr (.inr ⟨w.heap.size,_,_,by rw[kD],heap_alloc_new w.drew _,by rw[kD];exact hge,⟨by omega,grownCap_le_maxLen w _ cap el (by simp only[maxLen];omega)⟩,?_,?_⟩)
     ·have akV:(cur.toList.take (l.length * i.size)).length=l.length * i.size:=by rw[←hs];exact lsz
      simp only[A82,oI,size_zeroCells,YU,hcs,i2,hs,akV,←Td]
      congr 1
      omega
     ·simp only[A95,uO];rw[←uO,show(l++l2).length * sh.size=(List.take (l.length * sh.size) cur.toList++cs).length by rw[kD,kD,Td,hcs,lsz,i2,hs],A93]
      exact q5.append rd
@[reducible] def iU (cx:Cx) (t:TypeId) (K:TypeId→TI→Sh→Prop):Prop:=match descOf cx t with
  | .slice el=>match qo cx.ti el with
    | none=>False
    | some ie=>match ie.iT with
      | none=>False
      | some sh=>match dL (Nat.beq sh.size ie.size) (dL (Nat.ble 1 ie.bytes) (Nat.ble 1 ie.size)) with
        | true=>K el ie sh
        | false=>False
  | _=>False
@[reducible] def Qq (s:St) (sh:Sh) (v:SV):Option (List sh.den):=match v with
  | .c (.sl oW l2)=>jK (.sl oW) l2 (.sl sh)
  | .c (.v (.slice none 0 0))=>some []
  | .c (.row r)=>match fD s.T r with
    | some ([],.row _ oW l2)=>jK (.sl oW) l2 (.sl sh)
    | _=>none
  | _=>none
@[reducible] def vZ (cx:Cx) (s:St) (d:Option Nat) (t:TypeId) (x y:Operand) (K:St→Prop):Prop:=iU cx t λel ie sh=>
  match bU cx s [] y with
  | some (.one v2)=>match Qq s sh v2 with
    | none=>False
    | some l2=>match bU cx s [] x with
      | some (.one (.c (.row r)))=>match fD s.T r with
        | some ([],.row tt fG l1)=>match Nat.beq tt el with
          | true=>match jK (.sl fG) l1 (.sl sh) with
            | some l=>jS (l.length+l2.length) ie.bytes∧K ({ s with T:=dK (Na r s.T) r ([],.row el sh (l++l2)),env:=uj r s.env }.put d [] (.one (.c (.row r))))
            | none=>False
          | false=>False
        | _=>False
      | some (.one (.c (.v (.slice none 0 0))))=>jS l2.length ie.bytes∧K ({ s with T:=snoc s.T ([],.row el sh l2) }.put d [] (.one (.c (.row (aS s.T)))))
      | _=>False
  | _=>False
section
variable {cx:Cx}{P:Program}{N:Nat}{B:Base}{h0:FH}{s:St}{h:FH}{β:List RV}{w:World}{a:Act}{o:Oper}{K:St→Prop}
theorem oZ{fG sh:Sh}{l1:List fG.den}{l:List sh.den} (e:jK (.sl fG) l1 (.sl sh)=some l):∃e':fG=sh,(e'▸l1:List sh.den)=l:=by
 obtain⟨e1,e2⟩:=kP e;cases e1;exact⟨rfl,e2⟩
theorem Dk(ak:Sat N B h0 s h β w a){sh:Sh}{v:SV}{l:List sh.den}{y:Value} (e:Qq s sh v=some l) (c:dJ h β v y):YT h w sh y l:=by
 unfold Qq at e;split at e
 ·rename_i oW l2;obtain⟨e1,e2⟩:=oZ e;subst e1;simp only at e2;subst e2;rcases c.1 with⟨e1,e2⟩ | ⟨ad,cap,e1,e2,_⟩ | ⟨b,off,cap,e1,q1,q2,cs,rd,at_⟩
  ·exact .inl ⟨e1,e2⟩
  ·exact .inr (.inl ⟨ad,cap,e1,e2⟩)
  ·exact .inr (.inr ⟨b,off,cap,cs,e1,rd,λj u hj=>Eh (ak.ok.hw _ _ _ (at_ j u hj)) (gy.all (λ_ _=>Rd.one _) rd u (iF hj)).2⟩)
 ·cases e;exact .inl ⟨c.1.1,rfl⟩
 ·rename_i r;split at e
  ·rename_i tt oW l2 hT;obtain⟨e1,e2⟩:=oZ e;subst e1;simp only at e2;subst e2;rcases ak.ok.holds r _ _ (bJ hT rfl) (ak.ok.row_of (bJ hT rfl) c.1) with⟨e1,e2⟩ | ⟨ra,e1,e2⟩ | ⟨g,cap,cur,e1,q1,q2,q3,q4,rd⟩
   ·exact .inl ⟨e1,e2⟩
   ·exact .inr (.inl ⟨ra,0,e1,e2⟩)
   ·refine .inr (.inr ⟨g,0,cap,_,e1,rd,λj u hj=>?_⟩)
    rw[XW,cell_of_row w g j cur tt (0,0) q1];rw[uD]at hj;split at hj
    ·simpa using hj
    ·cases hj
  ·cases e
 ·cases e
theorem BX(hc:cO P cx.ti) (ak:Sat N B h0 s h β w a) (hg:aO cx.gd h) (hd:lZ N o.dst=true){t:TypeId}{x y:Operand}{c:Call} (ho:o.op=.call c) (dA:c.callee=.builtin .append) (ha:c.args=#[x,y]) (ht:c.argTypes=#[t,t])
 (k:vZ cx s o.dst t x y K):gI P N B h0 h w a o (gv s.gl []) K:=by
 have tr:gv s.gl []=true:=rfl;unfold vZ iU at k;split at k
 ·rename_i el hde;have hu:=bQ hc hde (by simp)
  split at k
  ·exact k.elim
  rename_i ie hie;have tie:=hc.get hie;split at k
  ·exact k.elim
  rename_i sh hsh;split at k
  ·rename_i hz;rw[aF,aF,A8,A8]at hz;have hz1:sh.size=ie.size:=gK hz.1;have hz2:1≤ie.bytes:=qP hz.2.1;have hz3:1≤ie.size:=qP hz.2.2;split at k
   ·rename_i v2 hv2;have c2:=aQ ak hg tr hv2;split at k
    ·exact k.elim
    rename_i l2 hl2;have src:=Dk ak hl2 c2;have exec:∀{u u':Value}{w':World},a.eval x=u→(Builtin.append_ #[t,t] o.type #[u,a.eval y]).run P w=.ok u' w'→(execOp a.eval o).run P w=.ok (.value u') w':=by
     intro u u' w' e r;simp[execOp,ho,resolve,dA,ha,ht,invoke,builtin,e,r]
    split at k
    ·rename_i r hr;have cr:=aQ ak hg tr hr;split at k
     ·rename_i tt fG l1 hT;split at k
      ·rename_i htt;have htt:tt=el:=gK htt;subst htt;split at k
       ·rename_i l hl;obtain⟨e1,e2⟩:=oZ hl;subst e1;simp only at e2;subst e2;have cr1:=ak.ok.row_of (bJ hT tr) cr.1;have row:TK h w tt fG (a.eval x) l1:=ak.ok.holds r _ _ (bJ hT tr) cr1;obtain⟨v',w',r1,r2,r3,r4⟩:=uZ (ty:=o.type) hu tie hz1 hz2 hz3 row src k.1 ak.ok.hw;have iO:r < β.length:=(eU.1 cr1).1;refine WL ak (by rw[ho];simp only[quietly,dA]) hd (v:=.row v') hT rfl cr1 r2 r3 (hold:=show Holds h (β.set r (.row v')) w' (.row tt fG (l1++l2)) (.row v') from r4) (run:=exec rfl r1) (he:=?_) (k:=k.2)
        refine⟨?_,?_⟩
        ·refine⟨.row v',?_,rfl⟩;rw[nP iO]
        ·rcases r4 with⟨rfl,_⟩ | ⟨_,rfl,_⟩ | ⟨g,cap,cur,rfl,_⟩<;>exact⟨rfl,rfl⟩
       ·exact k.elim
      ·exact k.elim
     ·exact k.elim
    ·rename_i hx;have Ij:=aQ ak hg tr hx;obtain⟨v',w',r1,r2,r3,r4⟩:=uZ (ty:=o.type) (l:=[]) hu tie hz1 hz2 hz3 (.inl ⟨Ij.1.1,rfl⟩) src (by simpa using k.1) ak.ok.hw
     refine lK ak rfl hd k.2 λ_=>⟨v',w',.row v',exec rfl r1,?_,?_,?_,?_⟩
     ·rw[Ij.1.1]at r2;exact r2
     ·intro b hb;rcases r3 b (bF.1 hb) with hh | hh
      ·rw[Ij.1.1]at hh;cases hh
      ·exact hh
     ·exact r4
     ·refine⟨⟨_,kR (lM ak) _,rfl⟩,?_⟩;rcases r4 with⟨rfl,_⟩ | ⟨_,rfl,_⟩ | ⟨g,cap,cur,rfl,_⟩<;>exact⟨rfl,rfl⟩
    ·exact k.elim
   ·exact k.elim
  ·exact k.elim
 ·exact k.elim
end
@[reducible] def TL (cx:Cx) (s:St) (G:Gd) (d:Option Nat) (t:TypeId) (ln cp:Operand) (K:St→Prop):Prop:=iU cx t λel ie sh=>
  match bU cx s G ln with
  | some (.one (.c (.v (.int _ n))))=>match bU cx s G cp with
    | some (.one (.c (.v (.int _ c))))=>side s.gl G (0≤n∧n≤c∧jS c.toNat ie.bytes)∧K ({ s with T:=snoc s.T (G,.row el sh (List.replicate n.toNat (qZ sh))) }.put d G (.one (.c (.row (aS s.T)))))
    | _=>False
  | _=>False
theorem JK{α:Type}{R:List Value→α→Prop}{cs:List Value}{d:α} (r:R cs d):∀n:Nat,gy R (iP n cs) (List.replicate n d)
 | 0=>rfl
 | n+1=>⟨cs,iP n cs,by simp only[iP,fV],r,JK r n⟩
theorem AZ{l:List Value}:∀{n m:Nat},n≤m→(iP m l).take (n * l.length)=iP n l
 | 0,m,_=>by simp[iP]
 | n+1,0,h=>by omega
 | n+1,m+1,h=>by
   simp only[iP,fV];rw[PU,Wi,PX,AZ (by omega)]
section
variable {cx:Cx}{P:Program}{N:Nat}{B:Base}{h0:FH}{s:St}{h:FH}{β:List RV}{w:World}{a:Act}{G:Gd}{o:Oper}{K:St→Prop}
theorem WM(hc:cO P cx.ti) (ak:Sat N B h0 s h β w a) (hg:aO cx.gd h) (hG:vU s.gl.length G=true) (hd:lZ N o.dst=true){t:TypeId}{x y:Operand} (ho:o.op=.makeSlice t x y)
 (k:TL cx s G o.dst t x y K):gI P N B h0 h w a o (gv s.gl G) K:=by
 unfold TL iU at k;split at k
 ·rename_i el hde;have hu:=bQ hc hde (by simp)
  split at k
  ·exact k.elim
  rename_i ie hie;have tie:=hc.get hie;split at k
  ·exact k.elim
  rename_i sh hsh;split at k
  ·rename_i hz;rw[aF,aF,A8,A8]at hz;have hz1:sh.size=ie.size:=gK hz.1;have hz2:1≤ie.bytes:=qP hz.2.1;have hz3:1≤ie.size:=qP hz.2.2;split at k
   ·rename_i ik n hn;split at k
    ·rename_i ik' c hcp;refine lK ak hG hd k.2 λhgv=>?_
     obtain⟨s1,s2,s3⟩:=fK k.1 hgv;have e1:a.eval x=.int ik n:=(aQ ak hg hgv hn).1.1;have e2:a.eval y=.int ik' c:=(aQ ak hg hgv hcp).1.1;obtain⟨inf,z,i1,i2,i3,i4,i5⟩:=tie.info;unfold jS at s3;have hcb:c.toNat≤140737488355328:=vO (A76 _ hz2) s3;have hb:(inf.bytes:Int) * c≤281474976710656:=by
      rw[i3];have:((c.toNat * ie.bytes:Nat):Int)≤140737488355328:=by omega
      rw[Int.natCast_mul,Int.toNat_of_nonneg (by omega),Int.mul_comm]at this
      omega
     have r:=run_make (P:=P) w t el inf z hu i1 i4 ik ik' n c s1 s2 hb (by omega)
     have YV:madeCells z.cells (c.toNat * inf.size)=(iP c.toNat ie.zero).toArray:=by
      unfold madeCells;rw[i5,i2,←tie.qc];exact rD (by rw[tie.qc];omega)
     rw[YV]at r;refine⟨.slice (some ⟨w.heap.size,0,none⟩) n.toNat c.toNat,w.alloc (.cells (iP c.toNat ie.zero).toArray el),.row (.slice (some ⟨w.heap.size,0,none⟩) n.toNat c.toNat),?_,oQ _ _ _,?_,?_,?_⟩
     ·simp only[execOp,ho,e1,e2,Sem.run_bind,r,Result.andThen_ok,Sem.run_pure]
     ·intro b hb';rw[bF]at hb';simp[aC]at hb';obtain⟨_,rfl⟩:=hb';simp
     ·by_cases hc0:c.toNat=0
      ·have hn0:n.toNat=0:=by omega
       exact .inr (.inl ⟨⟨w.heap.size,0,none⟩,by rw[hc0,hn0],by rw[hn0];rfl⟩)
      refine .inr (.inr ⟨w.heap.size,c.toNat,_,by rw[wM],nD _ _,by rw[wM];omega,⟨by omega,by simp only[maxLen];omega⟩,?_,?_⟩)
      ·simp only[oI,uX,tie.qc,hz1]
      ·rw[wM];show gy (Rd h sh) ((iP c.toNat ie.zero).take (n.toNat * sh.size)) _;rw[hz1,←tie.qc,AZ (by omega)]
       exact JK (y5 (tie.YC sh hsh).1) _
     ·exact⟨⟨_,kR (lM ak) _,rfl⟩,rfl,rfl⟩
    ·exact k.elim
   ·exact k.elim
  ·exact k.elim
 ·exact k.elim
end
end Go.aV
namespace Go.aV
open Go Go.RowKit
@[reducible] def fJ:(ss:List Sh)→bY ss→List SV
  | [],_=>[]
  | s :: l,d=>iL s d.1 :: fJ l d.2
@[reducible] def y8:(ss:List Sh)→List SV→Option (bY ss)
  | [],vs=>match vs with
    | []=>some ()
    | _=>none
  | s :: l,vs=>match vs with
    | v :: r=>match toDat s v with
      | some d=>match y8 l r with
        | some e=>some (d,e)
        | none=>none
      | none=>none
    | _=>none
theorem y9{h:FH}{β:List RV}:∀{ss:List Sh}{vs:List SV}{ys:List Value}{d:bY ss},y8 ss vs=some d→aW (dJ h β) vs ys→aW (dJ h β) (fJ ss d) ys
 | [],vs,ys,d,e,a=>by
   unfold y8 at e;split at e
   ·cases ys with
    | nil=>trivial
    | cons _ _=>exact a.elim
   ·cases e
 | s :: l,vs,ys,d,e,a=>by
   unfold y8 at e;split at e
   ·rename_i v r;cases ys with
    | nil=>exact a.elim
    | cons y ys=>
      split at e
      ·rename_i d1 hd;split at e
       ·rename_i d2 hr;cases e;obtain⟨cs,e1,rd⟩:=toDat_ok hd a.1;rw[e1];exact⟨jR s rd,y9 hr a.2⟩
       ·cases e
      ·cases e
   ·cases e
structure CT where
 ps:List Sh
 pre:bY ps→Prop
 res:bY ps→List aj×aT
def Nc(P:Program) (gd:Nat→Option (Sigma Sh.den)) (f:FuncId) (ct:CT):Prop:=
 ∀(d:bY ct.ps) (vs:List Value) (h:FH) (B:World),(∀b o v,h b o=some v→vis B b o=some v)→aO gd h→aW (dJ h []) (fJ ct.ps d) vs→ct.pre d →
   Calls P f vs.toArray B (λen w'=>∃h' β y,en=.returned y∧OK (Base.of B) h (ct.res d).1 h' β w'∧kC h' β (ct.res d).2 y)
def CTX(P:Program) (gd:Nat→Option (Sigma Sh.den)) (f:FuncId) (suf:List Value) (ct:CT):Prop:=
 ∀(d:bY ct.ps) (vs:List Value) (h:FH) (B:World),(∀b o v,h b o=some v→vis B b o=some v)→aO gd h→aW (dJ h []) (fJ ct.ps d) vs→ct.pre d →
   Calls P f (vs++suf).toArray B (λen w'=>∃h' β y,en=.returned y∧OK (Base.of B) h (ct.res d).1 h' β w'∧kC h' β (ct.res d).2 y)
def CTS(P:Program) (gd:Nat→Option (Sigma Sh.den)) (f:FuncId) (sv:List SV) (ct:CT):Prop:=
 ∀(d:bY ct.ps) (vs ys:List Value) (h:FH) (B:World),(∀b o v,h b o=some v→vis B b o=some v)→aO gd h→aW (dJ h []) (fJ ct.ps d) vs→aW (dJ h []) sv ys→ct.pre d →
   Calls P f (vs++ys).toArray B (λen w'=>∃h' β y,en=.returned y∧OK (Base.of B) h (ct.res d).1 h' β w'∧kC h' β (ct.res d).2 y)
theorem Nc.x{P:Program}{gd:Nat→Option (Sigma Sh.den)}{f:FuncId}{ct:CT} (h:Nc P gd f ct):CTX P gd f [] ct:=by
 intro d vs h' B;simpa using h d vs h' B
theorem CTX.ok{P:Program}{gd:Nat→Option (Sigma Sh.den)}{f:FuncId}{ct:CT} (h:CTX P gd f [] ct):Nc P gd f ct:=by
 intro d vs h' B;simpa using h d vs h' B
@[reducible] def SC.sh (n:Nat):SC→SC
  | .own i off=>.own (n+i) off
  | .row i=>.row (n+i)
  | .kF i j sz off=>.kF (n+i) j sz off
  | .sub i j=>.sub (n+i) j
  | .l9 i j k sz off=>.l9 (n+i) j k sz off
  | x=>x
@[reducible] def SV.sh (n:Nat):SV→SV
  | .c x=>.c (x.sh n)
  | .agg xs=>.agg (fE (SC.sh n) xs)
  | v=>v
@[reducible] def aT.sh (n:Nat):aT→aT
  | .one v=>.one (v.sh n)
  | .gX vs=>.gX (fE (SV.sh n) vs)
@[reducible] def aj.sh (n:Nat):aj→aj
  | .blk t cs=>.blk t (fE (SC.sh n) cs)
  | r=>r
@[reducible] def iZ:Sh→Bool
  | .int _=>true
  | .bool=>true
  | .str=>true
  | .unit=>true
  | .pair a b=>dL (iZ a) (iZ b)
  | .arr _ s=>iZ s
  | _=>false
@[reducible] def nU:SC→Bool
  | .v _=>true
  | .own _ _=>true
  | .row _=>true
  | _=>false
@[reducible] def allL {α:Type} (p:α→Bool):List α→Bool
  | []=>true
  | x :: l=>dL (p x) (allL p l)
@[reducible] def Qr:SV→Bool
  | .c x=>nU x
  | .agg xs=>allL nU xs
  | .dat s _=>iZ s
  | .und=>true
@[reducible] def JL:aT→Bool
  | .one v=>Qr v
  | .gX vs=>allL Qr vs
@[reducible] def wo:aj→Bool
  | .blk _ cs=>allL nU cs
  | .row _ s _=>iZ s
  | .obj _ s _=>iZ s
  | .deep _ _ _ _ _ _ _ _=>false
  | .mp _ s _=>iZ s
  | .PN _ _ _ _=>false
  | .it _ _ _ _=>false
  | .MG _ _ _ _=>true
  | .Ia _ _ _ _=>false
  | .gone=>true
theorem Rd.flat{h h':FH}:∀(s:Sh){cs:List Value}{d:s.den},iZ s=true→Rd h s cs d→Rd h' s cs d
 | .int _,_,_,_,r=>r
 | .bool,_,_,_,r=>r
 | .str,_,_,_,r=>r
 | .unit,_,_,_,r=>r
 | .any,_,_,f,_=>by simp[iZ]at f
 | .sl _,_,_,f,_=>by simp[iZ]at f
 | .pair a b,_,(_,_),f,⟨c1,c2,e,r1,r2⟩=>by
   simp only[iZ,aF,A8]at f;exact⟨c1,c2,e,r1.flat a f.1,r2.flat b f.2⟩
 | .arr _ s,_,_,f,⟨e,r⟩=>⟨e,r.mono λ_ _=>Rd.flat s f⟩
theorem o7{β β':List RV}{i:Nat}{v:RV} (e:β'[i]?=some v):(β++β')[β.length+i]?=some v:=by
 rw[CP (by omega)];simpa using e
theorem eH.shift{h:FH}{β β':List RV}:∀{x:SC}{y:Value},eH h β' x y→eH h (β++β') (x.sh β.length) y
 | .v _,_,c=>c
 | .sl _ _,_,c=>c
 | .fp _ _,_,c=>c
 | .one _ _,_,c=>c
 | .own _ _,_,⟨b,e,e'⟩=>⟨b,o7 e,e'⟩
 | .row _,_,⟨v,e,e'⟩=>⟨v,o7 e,e'⟩
 | .kF _ _ _ _,_,⟨v,g,e,e'⟩=>⟨v,g,o7 e,e'⟩
 | .sub _ _,_,⟨v,us,e,e'⟩=>⟨v,us,o7 e,e'⟩
 | .l9 _ _ _ _ _,_,⟨v,us,g,e,e'⟩=>⟨v,us,g,o7 e,e'⟩
 | .abs _,_,c=>c
 | .junk,_,_=>trivial
theorem eH.flat{h h':FH}{β:List RV}:∀{x:SC}{y:Value},nU x=true→eH h β x y→eH h' β x y
 | .v _,_,_,c=>c
 | .own _ _,_,_,c=>c
 | .row _,_,_,c=>c
 | .sl _ _,_,f,_=>by simp[nU]at f
 | .fp _ _,_,f,_=>by simp[nU]at f
 | .one _ _,_,f,_=>by simp[nU]at f
 | .kF _ _ _ _,_,f,_=>by simp[nU]at f
 | .sub _ _,_,f,_=>by simp[nU]at f
 | .l9 _ _ _ _ _,_,f,_=>by simp[nU]at f
 | .abs _,_,f,_=>by simp[nU]at f
 | .junk,_,f,_=>by simp[nU]at f
theorem aW.fE{α β:Type}{R R':α→β→Prop}{f:α→α} (hR:∀a b,R a b→R' (f a) b):∀{l:List α}{m:List β},aW R l m→aW R' (fE f l) m
 | [],[],_=>trivial
 | _ :: _,_ :: _,⟨a,b⟩=>⟨hR _ _ a,aW.fE hR b⟩
theorem aW.allL{α β:Type}{R R':α→β→Prop}{p:α→Bool} (hR:∀a b,p a=true→R a b→R' a b):∀{l:List α}{m:List β},allL p l=true→aW R l m→aW R' l m
 | [],[],_,_=>trivial
 | _ :: _,_ :: _,f,⟨a,b⟩=>by
   simp only[aV.allL,aF,A8]at f;exact⟨hR _ _ f.1 a,aW.allL hR f.2 b⟩
theorem dJ.shift{h:FH}{β β':List RV}:∀{x:SV}{y:Value},dJ h β' x y→dJ h (β++β') (x.sh β.length) y
 | .c _,_,c=>⟨c.1.shift,c.2⟩
 | .agg _,_,⟨ys,e,a⟩=>⟨ys,e,a.fE λ_ _ ⟨p,q⟩=>⟨p.shift,q⟩⟩
 | .dat _ _,_,c=>c
 | .und,_,c=>c
theorem dJ.flat{h h':FH}{β:List RV}:∀{x:SV}{y:Value},Qr x=true→dJ h β x y→dJ h' β x y
 | .c _,_,f,c=>⟨c.1.flat f,c.2⟩
 | .agg _,_,f,⟨ys,e,a⟩=>⟨ys,e,a.allL (λ_ _ f ⟨p,q⟩=>⟨p.flat f,q⟩) f⟩
 | .dat s _,_,f,⟨g,cs,e,r⟩=>⟨g,cs,e,r.flat s f⟩
 | .und,_,_,c=>c
theorem kC.shift{h:FH}{β β':List RV}:∀{x:aT}{y:Value},kC h β' x y→kC h (β++β') (x.sh β.length) y
 | .one _,_,c=>dJ.shift c
 | .gX _,_,⟨ys,e,a⟩=>⟨ys,e,a.fE (f:=SV.sh β.length) λ_ _ c=>dJ.shift c⟩
theorem kC.flat{h h':FH}{β:List RV}:∀{x:aT}{y:Value},JL x=true→kC h β x y→kC h' β x y
 | .one _,_,f,c=>dJ.flat f c
 | .gX _,_,f,⟨ys,e,a⟩=>⟨ys,e,a.allL (λ_ _=>dJ.flat) f⟩
theorem Holds.shift{h:FH}{β β':List RV}{w:World}:∀{r:aj}{v:RV},Holds h β' w r v→Holds h (β++β') w (r.sh β.length) v
 | .blk _ _,.blk _,⟨ys,e,a⟩=>⟨ys,e,a.fE λ_ _ ⟨p,q⟩=>⟨p.shift,q⟩⟩
 | .row _ _ _,.row _,c=>c
 | .obj _ _ _,.blk _,c=>c
 | .deep _ _ _ _ _ _ _ _,.deep _ _,c=>c
 | .mp _ _ _,.row _,c=>c
 | .PN _ _ _ _,.deep _ _,c=>c
 | .it _ _ _ _,.blk _,c=>c
 | .MG _ _ _ _,.row _,c=>c
 | .Ia _ _ _ _,.deep _ _,c=>c
 | .gone,_,_=>trivial
theorem Holds.flat{h h':FH}{β:List RV}{w:World}:∀{r:aj}{v:RV},wo r=true→Holds h β w r v→Holds h' β w r v
 | .blk _ _,.blk _,f,⟨ys,e,a⟩=>⟨ys,e,a.allL (λ_ _ f ⟨p,q⟩=>⟨p.flat f,q⟩) f⟩
 | .row _ s _,.row _,f,c=>c.elim .inl λc=>c.elim (λc=>.inr (.inl c)) λ⟨g,cap,cur,e,q1,q2,q3,q4,q5⟩=>.inr (.inr ⟨g,cap,cur,e,q1,q2,q3,q4,q5.mono λ_ _=>Rd.flat s f⟩)
 | .obj _ s _,.blk _,f,⟨ys,e,r⟩=>⟨ys,e,r.flat s f⟩
 | .deep _ _ _ _ _ _ _ _,.deep _ _,f,_=>by cases f
 | .mp _ s _,.row _,f,⟨b,es,c,e,e1,m⟩=>⟨b,es,c,e,e1,m.mono λ_ _ ⟨cs,q,r⟩=>⟨cs,q,r.flat s f⟩⟩
 | .PN _ _ _ _,.deep _ _,f,_=>by cases f
 | .it _ _ _ _,.blk _,f,_=>by cases f
 | .MG _ _ _ _,.row _,_,c=>c
 | .Ia _ _ _ _,.deep _ _,f,_=>by cases f
 | .gone,_,_,_=>trivial
theorem aj.zf(n:Nat) (r:aj):(r.sh n).live=r.live:=by cases r<;>rfl
theorem OK.call{B:Base}{h0:FH}{T:List aj}{h:FH}{β:List RV}{w:World} (ok:OK B h0 T h β w){hb:FH}{T':List aj}{h':FH}{β':List RV}{w':World} (ok':OK (Base.of w) hb T' h' β' w'){hn:FH} (le:h.le hn)
 (conv:∀(j:Nat) r v,T'[j]?=some r→Holds h' β' w' r v→Holds hn (β++β') w' (r.sh β.length) v)
 (hnw:∀b o v,hn b o=some v→vis w' b o=some v) (hng:∀b o v,hn b o=some v→h b o=some v∨(w.heap.size≤b∧h' b o=some v)):
 OK B h0 (T++T'.map (aj.sh β.length)) hn (β++β') w':=by
 have L:=ok.len;have L':=ok'.len;have own':∀(i:Nat) r v b,T'[i]?=some r→r.live=true→β'[i]?=some v→v.has b→w.heap.size≤b∧b < w'.heap.size∧∀o,h' b o=none:=ok'.own;have below':Below w.heap.size w w':=Bw.bel ok'.below;have dr':w.drawn≤w'.drawn:=ok'.dr;have split:∀{i:Nat}{r:aj}{v:RV},(T++T'.map (aj.sh β.length))[i]?=some r→(β++β')[i]?=some v →
  (T[i]?=some r∧β[i]?=some v)∨∃j r',i=β.length+j∧T'[j]?=some r'∧r=r'.sh β.length∧β'[j]?=some v:=by
  intro i r v e e'
  by_cases hi:i < T.length
  ·rw[XV hi]at e;rw[XV (by omega)]at e'
   exact .inl ⟨e,e'⟩
  ·rw[CP (by omega),LX]at e
   rw[CP (by omega)]at e'
   cases hj:T'[i - T.length]? with
   | none=>rw[hj]at e;cases e
   | some r'=>rw[hj]at e;cases e;exact .inr ⟨i - T.length,r',by omega,hj,rfl,by rw[show i - T.length=i - β.length by omega];exact e'⟩
 have ae0:∀{i:Nat}{r:aj}{v:RV}{b:Nat},T[i]?=some r→r.live=true→β[i]?=some v→v.has b→∀o,hn b o=none:=by
  intro i r v b e1 e2 e3 e4 o;obtain⟨a1,a2,a3⟩:=ok.own i r v b e1 e2 e3 e4;cases hh:hn b o with
  | none=>rfl
  | some u=>
    rcases hng b o u hh with h1 | h1
    ·rw[a3 o]at h1;cases h1
    ·omega
 have ae1:∀{i:Nat}{r:aj}{v:RV}{b:Nat},T'[i]?=some r→r.live=true→β'[i]?=some v→v.has b→∀o,hn b o=none:=by
  intro i r v b e1 e2 e3 e4 o;obtain⟨a1,a2,a3⟩:=own' i r v b e1 e2 e3 e4;cases hh:hn b o with
  | none=>rfl
  | some u=>
    rcases hng b o u hh with h1 | h1
    ·have:=oP (ok.hw b o u h1);omega
    ·rw[a3 o]at h1;cases h1.2
 exact {
  below:=ok.below.below below'
  dr:=vO ok.dr dr'
  len:=by simp[L,L']
  holds:=by
   intro i r v e e';rcases split e e' with⟨f1,f2⟩ | ⟨j,r',hi,f1,hr,f2⟩
   ·exact(ok.holds i r v f1 f2).move le (Ext.append _ _) λhl b hb=>below'.block b (ok.own i r v b f1 hl f2 hb).2.1
   ·rw[hr];exact conv j r' v f1 (ok'.holds j r' v f1 f2)
  own:=by
   intro i r v b e hl e' hb';rcases split e e' with⟨f1,f2⟩ | ⟨j,r',hi,f1,hr,f2⟩
   ·obtain⟨a1,a2,a3⟩:=ok.own i r v b f1 hl f2 hb';exact⟨a1,A55 a2 below'.size,ae0 f1 hl f2 hb'⟩
   ·rw[hr,aj.zf]at hl;obtain⟨a1,a2,a3⟩:=own' j r' v b f1 hl f2 hb';exact⟨B.up _ (vO ok.below.size a1),a2,ae1 f1 hl f2 hb'⟩
  inj:=by
   intro i j r1 r2 u v b e1 l1 e2 l2 e3 e4 b1 b2;rcases split e1 e3 with⟨f1,f3⟩ | ⟨i',r1',hi,f1,hr1,f3⟩<;>rcases split e2 e4 with⟨f2,f4⟩ | ⟨j',r2',hj,f2,hr2,f4⟩
   ·exact ok.inj i j r1 r2 u v b f1 l1 f2 l2 f3 f4 b1 b2
   ·rw[hr2,aj.zf]at l2;have a1:=ok.own i r1 u b f1 l1 f3 b1;have a2:=own' j' r2' v b f2 l2 f4 b2;omega
   ·rw[hr1,aj.zf]at l1;have a1:=ok.own j r2 v b f2 l2 f4 b2;have a2:=own' i' r1' u b f1 l1 f3 b1;omega
   ·rw[hr1,aj.zf]at l1;rw[hr2,aj.zf]at l2;rw[hi,hj,ok'.inj i' j' r1' r2' u v b f1 l1 f2 l2 f3 f4 b1 b2]
  hle:=ok.hle.trans le
  hw:=hnw
  hg:=by
   intro b o v hh;rcases hng b o v hh with h1 | h1
   ·exact ok.hg b o v h1
   ·exact .inr (B.up _ (vO ok.below.size h1.1))
  kn:=λk o hk=>by
   have h1:=ok.kn k o hk;exact(below'.block k (nR.1 h1).1).trans h1 }
theorem OK.TM{B:Base}{h0 h:FH}{w:World}:∀(m:Nat){T:List aj}{β:List RV},OK B h0 T h β w→OK B h0 (T++List.replicate m .gone) h (β++List.replicate m .no) w
 | 0,T,β,ok=>by simpa using ok
 | m+1,T,β,ok=>by
   have:=OK.TM m (ok.add (r:=.gone) (v:=.no) (dD w none) (λb hb=>(Qb hb).elim) trivial)
   simpa[Yi]using this
@[reducible] def Nh (G:Gd) (n:Nat):List (Gd×aj)→List aj→List (Gd×aj)
  | T,[]=>T
  | T,r :: l=>Nh G n (snoc T (G,r.sh n)) l
theorem Dl(G:Gd) (n:Nat):∀(l:List aj) (T:List (Gd×aj)),Nh G n T l=T++l.map λr=>(G,r.sh n)
 | [],T=>by simp[Nh]
 | r :: l,T=>by simp[Nh,Dl G n l,iR]
theorem o8(gl:List Bool):∀(T U:List (Gd×aj)),eff gl (T++U)=eff gl T++eff gl U
 | [],_=>rfl
 | (g,r) :: l,U=>by simp[eff,o8 gl l U]
theorem zh{gl:List Bool}{G:Gd}{n:Nat} (hG:gv gl G=true):∀(l:List aj),eff gl (l.map λr=>(G,r.sh n))=l.map (aj.sh n)
 | []=>rfl
 | r :: l=>by simp[eff,hG,kL,zh hG l]
theorem wV{gl:List Bool}{G:Gd}{n:Nat} (hG:gv gl G=false):∀(l:List aj),eff gl (l.map λr=>(G,r.sh n))=List.replicate l.length .gone
 | []=>rfl
 | r :: l=>by simp[eff,hG,kL,wV hG l,Yi]
theorem gy.Qs{α:Type}{R:List Value→α→Prop}{k:Nat}:∀{l:List α}{cs:List Value},cs.length=l.length * k→(∀j d,l[j]?=some d→R ((cs.drop (j * k)).take k) d)→gy R cs l
 | [],cs,h,_=>LY (by simpa using h)
 | d :: l,cs,h,hR=>by
   rw[yK,PU]at h;refine⟨cs.take k,cs.drop k,(Ef k cs).symm,?_,gy.Qs (k:=k) (by rw[xB];omega) λj d' hd=>?_⟩
   ·have:=hR 0 d rfl;simpa using this
   ·have:=hR (j+1) d' (by simpa using hd)
    rw[Yk]
    rwa [show k+j * k=(j+1) * k by rw[PU];omega]
theorem mM.sl{h h':FH}{w:World}{t:TypeId}{s:Sh}{l:List s.den}{v:Value} (x:mM h w t s l v) (le:h.le h') (hb:∀b,aC v=some b→∀o u,vis w b o=some u→h' b o=some u):qR h' (Rd h' s) v l:=by
 rcases x with⟨e1,e2⟩ | ⟨ra,e1,e2⟩ | ⟨g,cap,cur,e1,q1,q2,q3,q4,q5⟩
 ·exact .inl ⟨e1,e2⟩
 ·exact .inr (.inl ⟨ra,0,e1,e2,XY _⟩)
 ·refine .inr (.inr ⟨g,0,cap,e1,q2,q3.2,_,q5.mono λ_ _=>Rd.mono le s,λj u hj=>?_⟩)
  refine hb g (by rw[e1];exact bC q3.1) _ _ ?_
  rw[XW];have h1:=gy.all (λ_ _=>Rd.one s) q5 u (iF hj)
  rw[uD]at hj;split at hj
  ·exact oJ q1 (by simpa using hj) h1.2
  ·cases hj
theorem YW{cs:List Value}{o:Nat}{u:Value} (h:cs[o]?=some u) (x:Value):(cs.set o x).set o u=cs:=by
 rw[List.set_set];exact iq h
theorem AL.rd{h h':FH}{w:World}{s:Sh}{tt:TypeId}{e:Sh}{so:Nat}{own:Bool}{u:Value}{cs:List Value}{d:s.den} (x:AL h w s tt e so own false u cs d) (le:h.le h') (hb:∀b,aC u=some b→∀o z,vis w b o=some z→h' b o=some z):Rd h' s cs d:=by
 unfold AL at x;cases own with
 | false=>exact x.1.mono le s
 | true=>
   obtain⟨d0,y,r,p,c,q⟩:=x;have:=p.rd (r.mono le s) (q.sl le hb)
   rwa [YW c]at this
theorem fA.data{h h':FH}{w:World}{t:TypeId}{s:Sh}{l:List s.den}{tt:TypeId}{e:Sh}{so:Nat}{own:Nat→Bool}{v:Value}{us:Nat→Value} (x:fA h w t s l tt e so own [] v us) (le:h.le h')
 (hb:∀b,(RV.deep v us).has b→∀o z,vis w b o=some z→h' b o=some z):qR h' (Rd h' s) v l:=by
 obtain⟨_,_,x⟩:=x;rcases x with⟨e1,e2⟩ | ⟨ra,e1,e2⟩ | ⟨g,cap,cur,e1,q1,q2,q3,q4,q5,q6⟩
 ·exact .inl ⟨e1,e2⟩
 ·exact .inr (.inl ⟨ra,0,e1,e2,XY _⟩)
 ·have hm:l.length * s.size≤cap * s.size:=sH _ q2;have lc:cur.toList.length=cap * s.size:=by simpa using q4
  have rdl:gy (Rd h' s) (cur.toList.take (l.length * s.size)) l:=by
   refine gy.Qs (k:=s.size) (by rw[ku];omega) λj d hd=>?_
   have hj:=(eU.1 hd).1;have hm:(j+1) * s.size≤l.length * s.size:=sH _ hj;rw[PU]at hm;have e5:List.take s.size (List.drop (j * s.size) (List.take (l.length * s.size) cur.toList))=List.take s.size (List.drop (j * s.size) cur.toList):=by
    apply yJ;intro p;simp only[uD,Dc];split
    ·rw[if_pos (by omega)]
    ·rfl
   rw[e5];exact(q6 j d hd).rd le λb hu=>hb b (bg.2 (.inr ⟨j,hu⟩))
  refine .inr (.inr ⟨g,0,cap,e1,q2,q3.2,cur.toList.take (l.length * s.size),rdl,λj u hj=>?_⟩)
  ·refine hb g (bg.2 (.inl (by rw[e1];exact bC (n:=l.length) q3.1))) _ _ ?_
   rw[XW];have h1:=gy.all (λ_ _=>Rd.one s) rdl u (iF hj)
   rw[uD]at hj;split at hj
   ·exact oJ q1 (by simpa using hj) h1.2
   ·cases hj
@[reducible] def ae2 (s:St) (G:Gd) (x:SC):Option SC:=match x with
  | .v u=>some (.v u)
  | .sl sh l=>some (.sl sh l)
  | .fp sh d=>some (.fp sh d)
  | .one sh d=>some (.one sh d)
  | .row r=>match fD s.T r with
    | some (Gr,.row _ sh l)=>match qX Gr G with
      | true=>some (.sl sh l)
      | false=>none
    | some (Gr,.deep _ sh l _ _ _ _ [])=>match qX Gr G with
      | true=>some (.sl sh l)
      | false=>none
    | some (Gr,.mp k sh l)=>match qX Gr G with
      | true=>some (.one (.mp k sh) l)
      | false=>none
    | _=>none
  | _=>none
@[reducible] def YX (s:St) (G:Gd):List SC→Option (List SC)
  | []=>some []
  | x :: l=>match ae2 s G x with
    | some y=>match YX s G l with
      | some m=>some (y :: m)
      | none=>none
    | none=>none
@[reducible] def ae3 (s:St) (G:Gd) (v:SV):Option SV:=match v with
  | .c x=>match ae2 s G x with
    | some y=>some (.c y)
    | none=>none
  | .agg xs=>match YX s G xs with
    | some ys=>some (.agg ys)
    | none=>none
  | .dat sh d=>some (.dat sh d)
  | .und=>none
@[reducible] def isRow:SC→Bool
  | .row _=>true
  | _=>false
@[reducible] def noRow:SV→Bool
  | .c x=>!(isRow x)
  | .agg xs=>allL (λx=>!(isRow x)) xs
  | _=>true
@[reducible] def vg (cx:Cx) (s:St) (G:Gd):List Operand→Option (List SV)
  | []=>some []
  | x :: l=>match bU cx s G x with
    | some (.one v)=>match vg cx s G l with
      | some r=>some (v :: r)
      | none=>none
    | _=>none
@[reducible] def Ho (s:St) (G:Gd):List SV→Option (List SV)
  | []=>some []
  | x :: l=>match ae3 s G x with
    | some v=>match Ho s G l with
      | some r=>some (v :: r)
      | none=>none
    | none=>none
@[reducible] def orB:Bool→Bool→Bool
  | true,_=>true
  | false,b=>b
@[reducible] def jy (cx:Cx) (ct:Nat→Option CT) (s:St) (G:Gd) (d:Option Nat) (f:Nat) (args:List Operand) (K:St→Prop):Prop:=match ct f with
  | none=>False
  | some c=>match vg cx s G args with
    | none=>False
    | some vs=>match Ho s G vs with
      | none=>False
      | some bs=>match y8 c.ps bs with
        | none=>False
        | some dd=>match orB (allL noRow vs) (dL (JL (c.res dd).2) (allL wo (c.res dd).1)) with
          | true=>side s.gl G (c.pre dd)∧K ({ s with T:=Nh G (aS s.T) s.T (c.res dd).1 }.put d G ((c.res dd).2.sh (aS s.T)))
          | false=>False
theorem aW.ajT{α β:Type}{R:α→β→Prop}:∀{a c:List α}{l:List β},aW R (a++c) l→∃b d,l=b++d∧aW R a b∧aW R c d
 | [],c,l,h=>⟨[],l,rfl,trivial,h⟩
 | x :: a,c,[],h=>h.elim
 | x :: a,c,y :: l,⟨h1,h2⟩=>by
   obtain⟨b,d,e,p,q⟩:=aW.ajT (a:=a) h2;exact⟨y :: b,d,by rw[e];rfl,⟨h1,p⟩,q⟩
theorem aW.zi{α β:Type}{R:α→β→Prop}{x:α}:∀{l:List β},aW R [x] l→∃y,l=[y]∧R x y
 | [],h=>h.elim
 | [y],h=>⟨y,rfl,h.1⟩
 | _ :: _ :: _,h=>h.2.elim
theorem EM{h:FH}{β:List RV}:∀(s:Sh){d:s.den}{xs:List SC}{ys:List Value},flat s d=some xs→aW (λx y=>eH h β x y∧dO y) xs ys→Rd h s ys d
 | .int k,n,xs,ys,e,a=>by simp[flat]at e;subst e;obtain⟨y,rfl,r⟩:=a.zi;rw[r.1.1];rfl
 | .bool,n,xs,ys,e,a=>by simp[flat]at e;subst e;obtain⟨y,rfl,r⟩:=a.zi;rw[r.1.1];rfl
 | .str,n,xs,ys,e,a=>by simp[flat]at e;subst e;obtain⟨y,rfl,r⟩:=a.zi;rw[r.1.1];rfl
 | .any,n,xs,ys,e,a=>by simp[flat]at e
 | .sl s,l,xs,ys,e,a=>by simp[flat]at e;subst e;obtain⟨y,rfl,r⟩:=a.zi;exact⟨y,rfl,r.1⟩
 | .unit,n,xs,ys,e,a=>by
   simp[flat]at e;subst e;cases ys with
   | nil=>rfl
   | cons _ _=>exact a.elim
 | .arr _ _,n,xs,ys,e,a=>by simp[flat]at e
 | .mp k s,l,xs,ys,e,a=>by simp[flat]at e;subst e;obtain⟨y,rfl,r⟩:=a.zi;exact r.1
 | .pair a b,(x,y),xs,ys,e,al=>by
   unfold flat at e;split at e
   ·rename_i p hp;split at e
    ·rename_i q hq;cases e;rw[fV]at al;obtain⟨c1,c2,rfl,r1,r2⟩:=al.ajT;exact⟨c1,c2,rfl,EM a hp r1,EM b hq r2⟩
    ·cases e
   ·cases e
theorem Ik{h:FH}{β:List RV}:∀(s:Sh){d:s.den}{y:Value},dJ h β (iL s d) y→DV h s d y
 | .int k,n,y,c=>⟨[y],rfl,by rw[c.1.1];rfl⟩
 | .bool,n,y,c=>⟨[y],rfl,by rw[c.1.1];rfl⟩
 | .str,n,y,c=>⟨[y],rfl,by rw[c.1.1];rfl⟩
 | .any,n,y,c=>⟨[y],rfl,by rw[c.1.1];exact⟨rfl,c.1.2⟩⟩
 | .sl s,l,y,c=>⟨[y],rfl,y,rfl,c.1⟩
 | .unit,n,y,⟨ys,e,a⟩=>by
   cases ys with
   | nil=>exact⟨[],e,rfl⟩
   | cons _ _=>exact a.elim
 | .arr n s,l,y,⟨_,cs,e,r⟩=>⟨cs,e,r⟩
 | .mp k s,l,y,c=>⟨[y],rfl,c.1⟩
 | .pair a b,d,y,c=>by
   have e:iL (.pair a b) d=match flat (.pair a b) d with
    | some xs=>.agg xs
    | none=>.dat (.pair a b) d:=rfl
   rw[e]at c;cases hx:flat (.pair a b) d with
   | some xs=>
     rw[hx]at c;obtain⟨ys,e,al⟩:=c;exact⟨ys,e,EM (.pair a b) hx al⟩
   | none=>
     rw[hx]at c;obtain⟨_,cs,e,r⟩:=c;exact⟨cs,e,r⟩
theorem EN{h:FH}:∀{ss:List Sh}{d:bY ss}{ys:List Value},aW (dJ h []) (fJ ss d) ys→BR h ss d ys
 | [],_,[],_=>trivial
 | [],_,_ :: _,x=>x.elim
 | _ :: _,_,[],x=>x.elim
 | s :: l,d,y :: ys,⟨a,b⟩=>⟨Ik s a,EN b⟩
section
variable {cx:Cx}{P:Program}{N:Nat}{B:Base}{h0:FH}{s:St}{h:FH}{β:List RV}{w:World}{a:Act}{G:Gd}{o:Oper}{K:St→Prop}
theorem rG(ak:Sat N B h0 s h β w a) (hg:aO cx.gd h) (hG:gv s.gl G=true):∀{l:List Operand}{vs:List SV},vg cx s G l=some vs→aW (dJ h β) vs (l.map a.eval)
 | [],vs,e=>by simp[vg]at e;subst e;trivial
 | x :: l,vs,e=>by
   unfold vg at e;split at e
   ·rename_i v hv;split at e
    ·rename_i r hr;cases e;exact⟨aQ ak hg hG hv,rG ak hg hG hr⟩
    ·cases e
   ·cases e
def FH.all(w:World):FH:=λb o=>vis w b o
theorem OK.ajU{B:Base}{h0:FH}{T:List aj}{h:FH}{β:List RV}{w:World} (ok:OK B h0 T h β w){i:Nat}{k:IntKind}{s:Sh}{l:List (Int×s.den)}{y:Value} (hT:T[i]?=some (.mp k s l)) (hx:eH h β (.row i) y):β[i]?=some (.row y):=by
 obtain⟨v,e,es⟩:=hx;have hold:=ok.holds i _ _ hT e
 match v,hold,es with
 | .row v,_,es=>cases es;exact e
theorem OK.ajV{B:Base}{h0:FH}{T:List aj}{h:FH}{β:List RV}{w:World} (ok:OK B h0 T h β w){i:Nat}{k:IntKind}{s:Sh}{l:List (Int×s.den)}{y:Value} (hT:T[i]?=some (.mp k s l)) (hx:eH h β (.row i) y):
 ∃b es c,y=.map (some b)∧w.heap[b]?=some (.map es c)∧xE k (DW h s) es c l:=ok.holds i _ _ hT (ok.ajU hT hx)
theorem TN(ak:Sat N B h0 s h β w a) (hG:gv s.gl G=true){x y:SC}{v:Value} (e:ae2 s G x=some y) (c:eH h β x v):
 eH (FH.all w) [] y v∧(isRow x=false→eH h [] y v):=by
 have le:h.le (FH.all w):=ak.ok.hw;unfold ae2 at e;split at e
 ·cases e;exact⟨c,λ_=>c⟩
 ·cases e;exact⟨qR.mono le (λ_ _=>Rd.mono le _) c,λ_=>c⟩
 ·cases e;obtain⟨b,o,cs,e,r,at_⟩:=c;exact⟨⟨b,o,cs,e,r.mono le _,at_.mono le⟩,λ_=>⟨b,o,cs,e,r,at_⟩⟩
 ·cases e;exact⟨Rd.mono le _ c,λ_=>c⟩
 ·rename_i r;split at e
  ·rename_i Gr tt sh l hT;split at e
   ·rename_i hs;cases e;refine⟨?_,λhh=>by cases hh⟩
    rcases ak.ok.holds r _ _ (bJ hT (fQ hs hG)) (ak.ok.row_of (bJ hT (fQ hs hG)) c) with⟨e1,e2⟩ | ⟨ra,e1,e2⟩ | ⟨g,cap,cur,e1,q1,q2,q3,q4,q5⟩
    ·exact .inl ⟨e1,e2⟩
    ·exact .inr (.inl ⟨ra,0,e1,e2,XY _⟩)
    ·refine .inr (.inr ⟨g,0,cap,e1,q2,q3.2,_,q5.mono λ_ _=>Rd.mono le sh,λj u hj=>?_⟩)
     show vis w g (0+j)=some u;rw[XW];have h1:=gy.all (λ_ _=>Rd.one sh) q5 u (iF hj)
     rw[uD]at hj;split at hj
     ·exact oJ q1 (by simpa using hj) h1.2
     ·cases hj
   ·cases e
  ·rename_i Gr tt sh l t2 e2 so own hT;split at e
   ·rename_i hs;cases e;refine⟨?_,λhh=>by cases hh⟩
    obtain⟨us,_,hd⟩:=ak.ok.vX (bJ hT (fQ hs hG)) c;exact hd.data le λb _ o z hz=>hz
   ·cases e
  ·rename_i Gr k sh l hT;split at e
   ·rename_i hs;cases e;refine⟨?_,λhh=>by cases hh⟩
    obtain⟨b,es,cl,hb,hw,m⟩:=ak.ok.ajV (bJ hT (fQ hs hG)) c;exact⟨_,rfl,.inr ⟨b,es,cl,hb,Tf hw,m.mono λ_ _=>DW.mono le⟩⟩
   ·cases e
  ·cases e
 ·cases e
theorem TP(ak:Sat N B h0 s h β w a) (hG:gv s.gl G=true):∀{xs ys:List SC}{vs:List Value},YX s G xs=some ys→aW (λx y=>eH h β x y∧dO y) xs vs →
 aW (λx y=>eH (FH.all w) [] x y∧dO y) ys vs∧(allL (λx=>!(isRow x)) xs=true→aW (λx y=>eH h [] x y∧dO y) ys vs)
 | [],ys,[],e,_=>by simp[YX]at e;subst e;exact⟨trivial,λ_=>trivial⟩
 | x :: l,ys,v :: vs,e,⟨c,r⟩=>by
   unfold YX at e;split at e
   ·rename_i y hy;split at e
    ·rename_i m hm;cases e;obtain⟨h1,h2⟩:=TN ak hG hy c.1;obtain⟨h3,h4⟩:=TP ak hG hm r;refine⟨⟨⟨h1,c.2⟩,h3⟩,λhh=>?_⟩
     simp only[allL,aF,A8]at hh;exact⟨⟨h2 (by simpa using hh.1),c.2⟩,h4 hh.2⟩
    ·cases e
   ·cases e
theorem TQ(ak:Sat N B h0 s h β w a) (hG:gv s.gl G=true){x y:SV}{v:Value} (e:ae3 s G x=some y) (c:dJ h β x v):
 dJ (FH.all w) [] y v∧(noRow x=true→dJ h [] y v):=by
 have le:h.le (FH.all w):=ak.ok.hw;unfold ae3 at e;split at e
 ·split at e
  ·rename_i y hy;cases e;obtain⟨h1,h2⟩:=TN ak hG hy c.1;exact⟨⟨h1,c.2⟩,λhh=>⟨h2 (by simpa[noRow]using hh),c.2⟩⟩
  ·cases e
 ·split at e
  ·rename_i ys hy;cases e;obtain⟨vs,e1,e2⟩:=c;obtain⟨h1,h2⟩:=TP ak hG hy e2;exact⟨⟨vs,e1,h1⟩,λhh=>⟨vs,e1,h2 hh⟩⟩
  ·cases e
 ·cases e;obtain⟨g,cs,e1,r⟩:=c;exact⟨⟨g,cs,e1,r.mono le _⟩,λ_=>⟨g,cs,e1,r⟩⟩
 ·cases e
theorem zk(ak:Sat N B h0 s h β w a) (hG:gv s.gl G=true):∀{xs ys:List SV}{vs:List Value},Ho s G xs=some ys→aW (dJ h β) xs vs →
 aW (dJ (FH.all w) []) ys vs∧(allL noRow xs=true→aW (dJ h []) ys vs)
 | [],ys,[],e,_=>by simp[Ho]at e;subst e;exact⟨trivial,λ_=>trivial⟩
 | x :: l,ys,v :: vs,e,⟨c,r⟩=>by
   unfold Ho at e;split at e
   ·rename_i y hy;split at e
    ·rename_i m hm;cases e;obtain⟨h1,h2⟩:=TQ ak hG hy c;obtain⟨h3,h4⟩:=zk ak hG hm r;refine⟨⟨h1,h3⟩,λhh=>?_⟩
     simp only[allL,aF,A8]at hh;exact⟨h2 hh.1,h4 hh.2⟩
    ·cases e
   ·cases e
theorem EO{lb:Array Value}{ct:Nat→Option CT}{suf:List Value}{f:FuncId} (hct:∀c,ct f=some c→∀(d:bY c.ps) (vs:List Value) (h':FH),h.le h'→(∀b o v,h' b o=some v→vis w b o=some v)→aO cx.gd h'→aW (dJ h' []) (fJ c.ps d) vs→c.pre d→Calls P f (vs++suf).toArray w (λen w'=>∃h'' β y,en=.returned y∧OK (Base.of w) h' (c.res d).1 h'' β w'∧kC h'' β (c.res d).2 y)) (ak:Sat N B h0 s h β w a) (hg:aO cx.gd h) (hG:vU s.gl.length G=true) (hd:lZ N o.dst=true){c:Call} (ho:o.op=.call c)
 {x:Operand}{xs:List Operand} (dA:c.callee=.value x) (hx:gv s.gl G=true→a.eval x=.func (.func f) #[] lb) (hxs:c.args.map a.eval++lb=(xs.map a.eval++suf).toArray)
 (hf:∃fn,P.funcs[f]?=some fn∧fn.body.isSome=true∧(fn.name == "runtime.NumGoroutine")=false)
 (k:jy cx ct s G o.dst f xs K):gI P N B h0 h w a o (gv s.gl G) K:=by
 unfold jy at k;split at k
 ·exact k.elim
 rename_i cc hcc;split at k
 ·exact k.elim
 rename_i vs hvs;split at k
 ·exact k.elim
 rename_i bs hbs;split at k
 ·exact k.elim
 rename_i dd hdd;split at k
 ·rename_i Nj;obtain⟨T',gu⟩:∃T',T'=(cc.res dd).1:=⟨_,rfl⟩;obtain⟨e,he0⟩:∃e,e=(cc.res dd).2:=⟨_,rfl⟩;rw[←gu,←he0]at k Nj;have gT:∀p∈Nh G (aS s.T) s.T T',vU s.gl.length p.1=true:=by
   intro p hp;rw[Dl,GV]at hp;rcases hp with hp | hp
   ·exact ak.gT p hp
   ·simp only[List.mem_map]at hp;obtain⟨r,_,rfl⟩:=hp;exact hG
  have hlen:=lM ak;intro Nx Q next
  cases hgv:gv s.gl G with
  | false=>
    rw[if_neg (by simp)]
    refine next _ h (β++List.replicate T'.length .no) _ _ k.2 (FH.le.refl h) (λ_=>nS.refl w) ?_
    have ok:OK B h0 (eff s.gl (Nh G (aS s.T) s.T T')) h (β++List.replicate T'.length .no) w:=by
     rw[Dl,o8,wV hgv];exact ak.ok.TM _
    exact(ak.mem ok (FH.le.refl h) (Ext.append _ _) gT).put (eG hd) hG (λhh=>by simp only at hh;rw[hgv]at hh;cases hh) λ_=>rfl
  | true=>
    rw[if_pos rfl];obtain⟨fn,hfn,hbody,hname⟩:=hf;have hav:=rG ak hg hgv hvs;have aA:=fK k.1 hgv;have exec:(execOp a.eval o).run P w=.ok (.enter f (c.args.map a.eval++lb)) w:=by
     simp only[execOp,ho,resolve,dA,hx hgv,Deferred.ofValue,invoke,Sem.run_bind,Sem.run_pure,Result.andThen_ok,callFunc,run_program,Yp,Array.append_empty,hfn,hname];simp[hbody];cases hb:fn.body with
     | none=>rw[hb]at hbody;cases hbody
     | some _=>simp
    have hargs:=hxs;unfold Oper.wp;rw[exec];simp only[Oper.upon];rw[hargs];obtain⟨b1,b2⟩:=zk ak hgv hbs hav;have fin:∀{hb:FH}{h':FH}{β':List RV}{w':World}{y:Value}{hn:FH},OK (Base.of w) hb T' h' β' w'→h.le hn →
     (∀(j:Nat) r v,T'[j]?=some r→Holds h' β' w' r v→Holds hn (β++β') w' (r.sh β.length) v)→(∀b o v,hn b o=some v→vis w' b o=some v) →
     (∀b o v,hn b o=some v→h b o=some v∨(w.heap.size≤b∧h' b o=some v))→kC hn (β++β') (e.sh β.length) y→Nx (a.put o.dst y) w':=by
     intro hb h' β' w' y hn ok' le conv hnw hng he;have ok:=ak.ok.call ok' le conv hnw hng;refine next _ hn (β++β') _ _ k.2 le (λ_=>nS.of_below (Bw.bel ok'.below)) ?_
     have okT:OK B h0 (eff s.gl (Nh G (aS s.T) s.T T')) hn (β++β') w':=by
      rw[Dl,o8,zh hgv,←hlen];exact ok
     rw[hlen]at he;exact(ak.mem okT le (Ext.append _ _) gT).put (eG hd) hG (λ_=>he) λhh=>by simp only at hh;rw[hgv]at hh;cases hh
    have keep:∀{hb h':FH}{β':List RV}{w':World},OK (Base.of w) hb T' h' β' w'→∀b o v,h b o=some v→vis w' b o=some v:=by
     intro hb h' β' w' ok' b o v hh;have h1:=ak.ok.hw b o v hh;exact(kE ((Bw.bel ok'.below).block b (oP h1))).trans h1
    cases hnr:allL noRow vs with
    | true=>
      refine(hct cc hcc dd _ h (FH.le.refl h) ak.ok.hw hg (y9 hdd (b2 hnr)) aA).mono ?_;rintro en w' ⟨h',β',y,rfl,ok',he⟩;rw[←gu]at ok';rw[←he0]at he;refine fin ok' ok'.hle (λj r v _ hh=>hh.shift) ok'.hw (λb o v hh=>?_) he.shift
      rcases ok'.hg b o v hh with h1 | h1
      ·exact .inl h1
      ·exact .inr ⟨h1,hh⟩
    | false=>
      rw[hnr]at Nj;simp only[orB,aF,A8]at Nj;refine(hct cc hcc dd _ (FH.all w) ak.ok.hw (λ_ _ _ hh=>hh) (hg.mono ak.ok.hw) (y9 hdd b1) aA).mono ?_
      rintro en w' ⟨h',β',y,rfl,ok',he⟩;rw[←gu]at ok';rw[←he0]at he;refine fin ok' (FH.le.refl h) (λj r v hj hh=>(hh.flat ?_).shift) (keep ok') (λb o v hh=>.inl hh) (he.flat Nj.1).shift
      have:∀{l:List aj}{j:Nat}{r:aj},allL wo l=true→l[j]?=some r→wo r=true:=by
       intro l
       induction l with
       | nil=>intro j r _ e;simp at e
       | cons x l ih=>
         intro j r hh e;simp only[allL,aF,A8]at hh;cases j with
         | zero=>simp at e;subst e;exact hh.1
         | succ j=>exact ih hh.2 (by simpa using e)
      exact this Nj.2 hj
 ·exact k.elim
theorem xO{ct:Nat→Option CT}{suf:List Value}{f:FuncId} (hct:∀c,ct f=some c→∀(d:bY c.ps) (vs:List Value) (h':FH),h.le h'→(∀b o v,h' b o=some v→vis w b o=some v)→aO cx.gd h'→aW (dJ h' []) (fJ c.ps d) vs→c.pre d→Calls P f (vs++suf).toArray w (λen w'=>∃h'' β y,en=.returned y∧OK (Base.of w) h' (c.res d).1 h'' β w'∧kC h'' β (c.res d).2 y)) (ak:Sat N B h0 s h β w a) (hg:aO cx.gd h) (hG:vU s.gl.length G=true) (hd:lZ N o.dst=true){c:Call} (ho:o.op=.call c)
 {x:Operand}{xs:List Operand} (dA:c.callee=.value x) (hx:gv s.gl G=true→a.eval x=.func (.func f) #[] #[]) (hxs:c.args.map a.eval=(xs.map a.eval++suf).toArray)
 (hf:∃fn,P.funcs[f]?=some fn∧fn.body.isSome=true∧(fn.name == "runtime.NumGoroutine")=false)
 (k:jy cx ct s G o.dst f xs K):gI P N B h0 h w a o (gv s.gl G) K:=
 EO hct ak hg hG hd ho dA hx (by rw[Array.append_empty];exact hxs) hf k
theorem sS{ct:Nat→Option CT}{suf:List Value} (hct:∀f c,ct f=some c→CTX P cx.gd f suf c) (ak:Sat N B h0 s h β w a) (hg:aO cx.gd h) (hG:vU s.gl.length G=true) (hd:lZ N o.dst=true){c:Call}{f:FuncId} (ho:o.op=.call c)
 {x:Operand}{xs:List Operand} (dA:c.callee=.value x) (hx:gv s.gl G=true→a.eval x=.func (.func f) #[] #[]) (hxs:c.args.map a.eval=(xs.map a.eval++suf).toArray)
 (hf:∃fn,P.funcs[f]?=some fn∧fn.body.isSome=true∧(fn.name == "runtime.NumGoroutine")=false)
 (k:jy cx ct s G o.dst f xs K):gI P N B h0 h w a o (gv s.gl G) K:=
 xO (λc e d vs h' _ hw hg' ha hp=>hct f c e d vs h' w hw hg' ha hp) ak hg hG hd ho dA hx hxs hf k
theorem WO{ct:Nat→Option CT} (hct:∀f c,ct f=some c→Nc P cx.gd f c) (ak:Sat N B h0 s h β w a) (hg:aO cx.gd h) (hG:vU s.gl.length G=true) (hd:lZ N o.dst=true){c:Call}{f:FuncId} (ho:o.op=.call c) (dA:c.callee=.value (.func f))
 (hf:∃fn,P.funcs[f]?=some fn∧fn.body.isSome=true∧(fn.name == "runtime.NumGoroutine")=false)
 (k:jy cx ct s G o.dst f (tl c.args) K):gI P N B h0 h w a o (gv s.gl G) K:=
 sS (suf:=[]) (λf c e=>(hct f c e).x) ak hg hG hd ho dA (λ_=>rfl) (by cases c.args;simp) hf k
end
end Go.aV
namespace Go.aV
open Go Go.RowKit
section
variable {P:Program}{ops:Array Oper}{md:Region.Mode}{sf:Nat→Bool}
abbrev JM:Exit→Act→World→Prop:=λ_ _ _=>False
def Au(P:Program) (ops:Array Oper) (i:Nat) (K:Act→World→Prop) (a:Act) (w:World):Prop:=
 match ops[i]? with
 | none=>K a w
 | some o=>if Region.wanted o (yielded ops a.tmps)=true then o.wp P a w K JM else K (a.put o.dst undef) w
theorem xQ{Q:Exit→Act→World→Prop} (h:LetsOut JM):LetsOut Q:=by
 unfold LetsOut at *;obtain⟨_,_,hh⟩:=h;exact False.elim hh
theorem Nk{i:Nat}{K K':Act→World→Prop}{a:Act}{w:World} (h:∀a w,K a w→K' a w) (hh:Au P ops i K a w):Au P ops i K' a w:=by
 unfold Au at *;split
 ·exact h _ _ (by simpa[*]using hh)
 ·rename_i o ho;simp only[ho]at hh;split
  ·rename_i hw;rw[if_pos hw]at hh;exact Oper.wp_mono h hh
  ·rename_i hw;rw[if_neg hw]at hh;exact h _ _ hh
@[reducible] def xR (ops:Array Oper) (i:Nat):Bool:=match ops[i]? with
  | some o=>quietly o.op
  | none=>true
def anyI(P:Program) (md:Region.Mode) (ops:Array Oper) (sf:Nat→Bool) (R:Act→World→Prop):Nat→Array Bool→Act→World→Prop
 | 0,listed,a,w=>Region.ready md ops listed=[]∧R a w
 | fuel+1,listed,a,w=>(Region.ready md ops listed=[]→R a w) ∧
   ∀i∈Region.ready md ops listed,Au P ops i (λa' w'=>(sf i=true→nS w w')∧anyI P md ops sf R fuel (listed.setIfInBounds i true) a' w') a w
def YI(P:Program) (ops:Array Oper) (ld:Bool) (w0:World) (o:Oper) (v:Value) (a:Act):Prop:=
 (Region.wanted o (yielded ops a.tmps)=true∧∀w,(ld=true→nS w0 w)→(execOp a.eval o).run P w=.ok (.value v) w) ∨
 (Region.wanted o (yielded ops a.tmps)=false∧v=undef)
theorem YI.of_same{ld:Bool}{w0:World}{o:Oper}{v:Value}{a a':Act} (hy:YI P ops ld w0 o v a) (he:execOp a'.eval o=execOp a.eval o)
 (hw:Region.wanted o (yielded ops a'.tmps)=Region.wanted o (yielded ops a.tmps)):YI P ops ld w0 o v a':=by
 unfold YI at *;rw[he,hw];exact hy
theorem YI.Au{ld:Bool}{w0:World}{i:Nat}{o:Oper}{v:Value}{a:Act} (hi:ops[i]?=some o) (hy:YI P ops ld w0 o v a){K:Act→World→Prop}{w:World} (hg:ld=true→nS w0 w)
 (h:K (a.put o.dst v) w):Au P ops i K a w:=by
 unfold Go.aV.Au;simp only[hi];rcases hy with⟨hw,hv⟩ | ⟨hw,rfl⟩
 ·rw[if_pos hw];unfold Oper.wp;rw[hv w hg];exact h
 ·rw[if_neg (by rw[hw];simp)];exact h
theorem ae4{ld:Bool}{w0:World}{j:Nat}{oi oj:Oper}{v:Value} (hj:ops[j]?=some oj) (hap:oi.apart ops oj=true)
 (hsi:∀cs b,oi.op≠.select cs b) (hsj:∀cs b,oj.op≠.select cs b){K:Act→World→Prop}{a:Act}{w:World}
 (hy:YI P ops ld w0 oi v a) (h:Au P ops j K (a.put oi.dst v) w):
 Au P ops j (λa' w'=>YI P ops ld w0 oi v a'∧K (a'.put oi.dst v) w') a w:=by
 obtain⟨h1,h2,h3⟩:=Oper.apart_spec hap;have keep:∀(a:Act),YI P ops ld w0 oi v a→∀u,YI P ops ld w0 oi v (a.put oj.dst u):=λa hy u=>
  hy.of_same (execOp_put oi hsi a oj.dst u h3) (wanted_put oi a oj.dst u h3)
 have keepD:∀d,YI P ops ld w0 oi v { a with defers:=d :: a.defers }:=λd=>hy.of_same rfl rfl
 unfold Au at *;simp only[hj]at *;rw[wanted_put oj a oi.dst v h1]at h;split
 ·rename_i hw;rw[if_pos hw]at h;unfold Oper.wp at *;rw[execOp_put oj hsj a oi.dst v h1]at h;generalize (execOp a.eval oj).run P w=r at *;cases r with
  | ok n w'=>
    cases n<;>simp only[Oper.upon]at h ⊢
    case value u=>exact⟨keep a hy u,by rw[←Act.put_comm a v u h2];exact h⟩
    case skip=>exact⟨keep a hy _,by rw[←Act.put_comm a v undef h2];exact h⟩
    case defer d=>
     refine⟨(keep _ (keepD d) _),?_⟩;rw[←Act.put_comm _ v undef h2,←Act.put_defers];exact h
    case enter f args=>
     refine h.mono λe w'' he=>?_
     cases e with
     | returned u=>exact⟨keep a hy u,by rw[←Act.put_comm a v u h2];exact he⟩
     | panicked c=>exact he
     | outgrown=>exact he
    case row r args=>
     refine Rows.mono h λu w'' he=>?_
     exact⟨keep a hy u,by rw[←Act.put_comm a v u h2];exact he⟩
    all_goals exact h
  | halt x w'=>cases x<;>simp only[Oper.upon]at h ⊢<;>exact h
 ·rename_i hw;rw[if_neg hw]at h;exact⟨keep a hy _,by rw[←Act.put_comm a v undef h2];exact h⟩
def Waits(md:Region.Mode) (ops:Array Oper) (listed:Array Bool) (i:Nat) (bl:List Nat):Prop:=
 ∀j∈bl,listed.getD j true=false∧∃o,ops[j]?=some o∧∃e∈o.after,Region.binds md e=true∧(e.on=i∨e.on∈bl)
theorem wu{listed:Array Bool}{i:Nat} (h:listed.getD i true=false):listed.getD i false=false:=by
 rcases akE i listed.size with h' | h'
 ·simp[h']at h ⊢;exact h
 ·simp[PZ h']at h
theorem Il{listed:Array Bool}{i j:Nat}{bl:List Nat} (hi:listed.getD i true=false) (hw:Waits md ops listed i bl) (hj:j∈bl):j∉Region.ready md ops listed:=by
 intro hr;obtain⟨_,oj,hoj,hall⟩:=mem_ready.1 hr;obtain⟨_,o,ho,e,he,hb,hh⟩:=hw j hj;rw[hoj]at ho;cases ho;have h1:=hall e he hb;rcases hh with hh | hh
 ·rw[hh,wu hi]at h1;cases h1
 ·rw[wu (hw _ hh).1]at h1;cases h1
theorem EP{R:Act→World→Prop}{ld:Bool}{w0:World}{i:Nat}{oi:Oper}{v:Value}{bl:List Nat} (hi:ops[i]?=some oi) (hsel:∀(j:Nat) (o:Oper) cs b,ops[j]?=some o→o.op≠.select cs b)
 (hq:sf i=true):
 ∀(fuel:Nat) (listed:Array Bool) (a:Act) (w:World),
   (∀j oj,ops[j]?=some oj→j≠i→listed.getD j true=false→(∀e∈oj.after,Region.binds md e=true→e.on≠i)→oi.apart ops oj=true) →
   (ld=true→Waits md ops listed i bl∧∀j,j≠i→listed.getD j true=false→sf j=false→j∈bl) →
   i∈Region.ready md ops listed→YI P ops ld w0 oi v a→(ld=true→nS w0 w) →
   anyI P md ops sf R fuel (listed.setIfInBounds i true) (a.put oi.dst v) w→anyI P md ops sf R (fuel+1) listed a w:=by
 intro fuel
 induction fuel with
 | zero=>
   intro listed a w _ _ hr hy hg H;refine⟨λh=>(by rw[h]at hr;cases hr),λj hj=>?_⟩
   by_cases hji:j=i
   ·subst hji;exact hy.Au hi hg ⟨λ_=>nS.refl w,H⟩
   ·have:=ready_mono hj hji;rw[H.1]at this;cases this
 | succ fuel ih=>
   intro listed a w hfree hbl hr hy hg H;refine⟨λh=>(by rw[h]at hr;cases hr),λj hj=>?_⟩
   by_cases hji:j=i
   ·subst hji;exact hy.Au hi hg ⟨λ_=>nS.refl w,H⟩
   ·have h1:=H.2 j (ready_mono hj hji);obtain⟨hjun,oj,hoj,hall⟩:=mem_ready.1 hj;have YZ:=(mem_ready.1 hr).1;have hnot:∀e∈oj.after,Region.binds md e=true→e.on≠i:=λe he hb heq=>by
     have h1:=hall e he hb;rw[heq,wu YZ]at h1;cases h1
    have h2:=ae4 hoj (hfree j oj hoj hji hjun hnot) (λcs b=>hsel i oi cs b hi) (λcs b=>hsel j oj cs b hoj) hy h1
    have hfree':∀k ok,ops[k]?=some ok→k≠i→(listed.setIfInBounds j true).getD k true=false →
     (∀e∈ok.after,Region.binds md e=true→e.on≠i)→oi.apart ops ok=true:=λk ok hk hki hun hno=>by
     refine hfree k ok hk hki ?_ hno
     by_cases gq:j=k
     ·subst gq;exact hjun
     ·rw[getD_set_ne true gq]at hun;exact hun
    have Y0:ld=true→j∉bl:=λe hm=>Il YZ (hbl e).1 hm hj
    have hsj:ld=true→sf j=true:=λe=>by
     cases hs:sf j with
     | true=>rfl
     | false=>exact absurd ((hbl e).2 j hji hjun hs) (Y0 e)
    have akY:ld=true→Waits md ops (listed.setIfInBounds j true) i bl∧∀k,k≠i→(listed.setIfInBounds j true).getD k true=false→sf k=false→k∈bl:=λe=>by
     refine⟨λk hk=>?_,λk hki hun hs=>?_⟩
     ·obtain⟨g1,g2⟩:=(hbl e).1 k hk;refine⟨?_,g2⟩;rw[getD_set_ne true (λhh=>Y0 e (by rw[hh];exact hk))];exact g1
     ·refine(hbl e).2 k hki ?_ hs
      by_cases gq:j=k
      ·subst gq;exact hjun
      ·rw[getD_set_ne true gq]at hun;exact hun
    refine Nk (λa' w' h3=>⟨h3.2.1,ih (listed.setIfInBounds j true) a' w' hfree' akY (ready_mono hr (Ne.symm hji)) h3.1 (λe=>(hg e).trans (h3.2.1 (hsj e))) ?_⟩) h2
    rw[Array.setIfInBounds_comm _ _ hji];exact h3.2.2
end
end Go.aV
namespace Go.aV
open Go Go.RowKit
@[reducible] def Io (i k n:Nat):Nat:=match Nat.beq n i with
  | true=>k
  | false=>match Nat.beq n k with
    | true=>i
    | false=>n
theorem Za{n i:Nat} (h:¬n=i):Nat.beq n i=false:=by
 cases hb:Nat.beq n i with
 | true=>exact absurd (gK hb) h
 | false=>rfl
theorem Qu(i k n:Nat):Io i k n=if n=i then k else if n=k then i else n:=by
 unfold Io
 by_cases h:n=i
 ·subst h;simp
 ·rw[if_neg h,Za h]
  by_cases h2:n=k
  ·subst h2;simp
  ·rw[if_neg h2,Za h2]
theorem zl(i k n:Nat):Io i k (Io i k n)=n:=by
 simp only[Qu];split<;>split<;>simp_all<;>omega
@[reducible] def SC.sw (i k:Nat):SC→SC
  | .own a o=>.own (Io i k a) o
  | .row a=>.row (Io i k a)
  | .kF a j sz o=>.kF (Io i k a) j sz o
  | .sub a j=>.sub (Io i k a) j
  | .l9 a j m sz o=>.l9 (Io i k a) j m sz o
  | x=>x
@[reducible] def SV.sw (i k:Nat):SV→SV
  | .c x=>.c (x.sw i k)
  | .agg xs=>.agg (fE (SC.sw i k) xs)
  | v=>v
@[reducible] def aT.sw (i k:Nat):aT→aT
  | .one x=>.one (x.sw i k)
  | .gX xs=>.gX (fE (SV.sw i k) xs)
@[reducible] def aj.sw (i k:Nat):aj→aj
  | .blk t cs=>.blk t (fE (SC.sw i k) cs)
  | r=>r
def wz(i k:Nat) (β β':List RV):Prop:=∀j,β'[Io i k j]?=β[j]?
theorem eH.sw{h:FH}{β β':List RV}{i k:Nat} (sb:wz i k β β'):∀{x:SC}{y:Value},eH h β x y→eH h β' (x.sw i k) y
 | .v _,_,e=>e
 | .sl _ _,_,e=>e
 | .fp _ _,_,e=>e
 | .one _ _,_,e=>e
 | .own a o,_,⟨b,e,e'⟩=>⟨b,by rw[sb];exact e,e'⟩
 | .row a,y,⟨v,e,e'⟩=>⟨v,by rw[sb];exact e,e'⟩
 | .sub _ _,_,⟨v,us,e,e'⟩=>⟨v,us,by rw[sb];exact e,e'⟩
 | .l9 _ _ _ _ _,_,⟨v,us,g,e,e'⟩=>⟨v,us,g,by rw[sb];exact e,e'⟩
 | .kF _ _ _ _,_,⟨v,g,e,e'⟩=>⟨v,g,by rw[sb];exact e,e'⟩
 | .abs _,_,e=>e
 | .junk,_,_=>trivial
theorem wB{α β:Type}{R R':α→β→Prop}{f:α→α} (hR:∀a b,R a b→R' (f a) b):∀{l:List α}{m:List β},aW R l m→aW R' (fE f l) m
 | [],[],_=>trivial
 | _ :: _,_ :: _,⟨a,b⟩=>⟨hR _ _ a,wB hR b⟩
theorem dJ.sw{h:FH}{β β':List RV}{i k:Nat} (sb:wz i k β β'):∀{x:SV}{y:Value},dJ h β x y→dJ h β' (x.sw i k) y
 | .c _,_,⟨e,o⟩=>⟨e.sw sb,o⟩
 | .agg _,_,⟨ys,e,a⟩=>⟨ys,e,wB (λ_ _ ⟨p,q⟩=>⟨p.sw sb,q⟩) a⟩
 | .dat _ _,_,e=>e
 | .und,_,e=>e
theorem kC.sw{h:FH}{β β':List RV}{i k:Nat} (sb:wz i k β β'):∀{x:aT}{y:Value},kC h β x y→kC h β' (x.sw i k) y
 | .one _,_,e=>dJ.sw sb e
 | .gX _,_,⟨ys,e,a⟩=>⟨ys,e,wB (λ_ _ p=>dJ.sw sb p) a⟩
theorem Holds.sw{h:FH}{β β':List RV}{w:World}{i k:Nat} (sb:wz i k β β'):∀{r:aj}{v:RV},Holds h β w r v→Holds h β' w (r.sw i k) v
 | .blk _ _,.blk _,⟨ys,e,a⟩=>⟨ys,e,wB (λ_ _ ⟨p,q⟩=>⟨p.sw sb,q⟩) a⟩
 | .row _ _ _,.row _,e=>e
 | .obj _ _ _,.blk _,e=>e
 | .deep _ _ _ _ _ _ _ _,.deep _ _,e=>e
 | .mp _ _ _,.row _,e=>e
 | .PN _ _ _ _,.deep _ _,e=>e
 | .it _ _ _ _,.blk _,e=>e
 | .MG _ _ _ _,.row _,e=>e
 | .Ia _ _ _ _,.deep _ _,e=>e
 | .gone,_,_=>trivial
theorem aj.JO{i k:Nat} (r:aj):(r.sw i k).live=r.live:=by cases r<;>rfl
theorem OK.sw{B:Base}{h0:FH}{T T':List aj}{h:FH}{β β':List RV}{w:World}{i k:Nat} (ok:OK B h0 T h β w) (sb:wz i k β β') (hl:β'.length=T'.length)
 (sT:∀j,T'[Io i k j]?=(T[j]?).map (aj.sw i k)):OK B h0 T' h β' w:=by
 have gT:∀{j:Nat}{r:aj},T'[j]?=some r→∃r0,T[Io i k j]?=some r0∧r=r0.sw i k:=by
  intro j r e;have:=sT (Io i k j);rw[zl,e]at this;cases hT:T[Io i k j]? with
  | none=>rw[hT]at this;cases this
  | some r0=>rw[hT]at this;exact⟨r0,rfl,by simpa using this⟩
 have gB:∀{j:Nat}{v:RV},β'[j]?=some v→β[Io i k j]?=some v:=by
  intro j v e;have:=sb (Io i k j);rw[zl,e]at this;exact this.symm
 refine⟨ok.below,ok.dr,hl,λj r v e1 e2=>?_,λj r v b e1 l1 e2 e3=>?_,λj j' r r' u v b e1 l1 e2 l2 e3 e4 e5 e6=>?_,ok.hle,ok.hw,ok.hg,ok.kn⟩
 ·obtain⟨r0,f1,rfl⟩:=gT e1;exact(ok.holds _ _ _ f1 (gB e2)).sw sb
 ·obtain⟨r0,f1,rfl⟩:=gT e1;exact ok.own _ _ _ _ f1 (by rw[←aj.JO];exact l1) (gB e2) e3
 ·obtain⟨r0,f1,rfl⟩:=gT e1;obtain⟨r1,f2,rfl⟩:=gT e2;have:=ok.inj _ _ _ _ _ _ _ f1 (by rw[←aj.JO];exact l1) f2 (by rw[←aj.JO];exact l2) (gB e3) (gB e4) e5 e6
  have h2:=Ec (Io i k) this
  rwa [zl,zl]at h2
@[reducible] def swE (i k:Nat):List (Nat×Gd×aT)→List (Nat×Gd×aT)
  | []=>[]
  | (t,g,e) :: l=>(t,g,e.sw i k) :: swE i k l
@[reducible] def swT (i k:Nat) (T:List (Gd×aj)):List (Gd×aj):=match fD T i with
  | some a=>match fD T k with
    | some b=>fE (λp=>(p.1,p.2.sw i k)) (dK (dK T i b) k a)
    | none=>T
  | none=>T
abbrev swS(i k:Nat) (s:St):St:={ s with T:=swT i k s.T,env:=swE i k s.env }
theorem JQ{i k:Nat}:∀{l:List (Nat×Gd×aT)}{t:Nat},iG (swE i k l) t=(iG l t).map λp=>(p.1,p.2.sw i k)
 | [],_=>rfl
 | (u,g,e) :: l,t=>by
   rw[show swE i k ((u,g,e) :: l)=(u,g,e.sw i k) :: swE i k l from rfl,bD,bD]
   split
   ·rfl
   ·exact JQ
theorem ER{α β:Type} (f:α→β):∀l:List α,fE f l=l.map f
 | []=>rfl
 | _ :: l=>by simp[fE,ER f l]
theorem TR{i k:Nat}{T:List (Gd×aj)} (hi:i < T.length) (hk:k < T.length) (j:Nat):(swT i k T)[Io i k j]?=(T[j]?).map λp=>(p.1,p.2.sw i k):=by
 unfold swT;rw[fP,l7 hi];simp only;rw[fP,l7 hk];simp only;rw[ER,LX,gG,gG]
 congr 1
 rw[Qu]
 by_cases h1:j=i
 ·subst h1;rw[if_pos rfl,nP (by simpa using hk),l7 hi]
 ·rw[if_neg h1]
  by_cases h2:j=k
  ·subst h2;rw[if_pos rfl,lD (by omega),nP hi,l7 hk]
  ·rw[if_neg h2,lD (by omega),lD (by omega)]
theorem ae5{i k:Nat}{T:List (Gd×aj)}:(swT i k T).length=T.length:=by
 unfold swT;split
 ·split
  ·rw[ER,gG,gG];simp
  ·rfl
 ·rfl
theorem Qv{β:List RV}{i k:Nat} (hi:i < β.length) (hk:k < β.length):∃β',β'.length=β.length∧wz i k β β':=by
 refine⟨(β.set i β[k]).set k β[i],by simp,λj=>?_⟩
 rw[Qu]
 by_cases h1:j=i
 ·subst h1;rw[if_pos rfl,nP (by simpa using hk),l7 hi]
 ·rw[if_neg h1]
  by_cases h2:j=k
  ·subst h2;rw[if_pos rfl,lD (by omega),nP hi,l7 hk]
  ·rw[if_neg h2,lD (by omega),lD (by omega)]
theorem Sat.sw{N:Nat}{B:Base}{h0:FH}{s:St}{h:FH}{β:List RV}{w:World}{a:Act} (ak:Sat N B h0 s h β w a){i k:Nat} (hi:i < s.T.length) (hk:k < s.T.length):
 ∃β',Sat N B h0 (swS i k s) h β' w a:=by
 have hlen:β.length=s.T.length:=by rw[ak.ok.len,jr]
 obtain⟨β',hl,sb⟩:=Qv (β:=β) (i:=i) (k:=k) (by omega) (by omega)
 refine⟨β',?_,?_,?_,ak.defers,ak.sz,?_,?_⟩
 ·refine ak.ok.sw sb (by rw[hl,jr,ae5,hlen]) λj=>?_
  rw[jJ,jJ,TR hi hk];cases s.T[j]? with
  | none=>rfl
  | some p=>
    simp only[L8];cases gv s.gl p.1<;>rfl
 ·intro t G e ht;rw[show(swS i k s).env=swE i k s.env from rfl,JQ]at ht
  cases hl:iG s.env t with
  | none=>rw[hl]at ht;cases ht
  | some p=>
    rw[hl]at ht;cases ht;obtain⟨z,q1,q2,q3⟩:=ak.env t p.1 p.2 hl;exact⟨z,q1,λhh=>(q2 hh).sw sb,q3⟩
 ·intro d j hd;obtain⟨G,b,q1,q2⟩:=ak.gs d j hd;exact⟨G,b,by rw[show(swS i k s).env=swE i k s.env from rfl,JQ,q1];rfl,q2⟩
 ·intro t G e ht;rw[show(swS i k s).env=swE i k s.env from rfl,JQ]at ht
  cases hl:iG s.env t with
  | none=>rw[hl]at ht;cases ht
  | some p=>
    rw[hl]at ht;cases ht;exact ak.gb t p.1 p.2 hl
 ·intro p hp;obtain⟨j,hj⟩:=wQ hp;have h1:=TR hi hk (Io i k j);rw[zl]at h1;rw[show(swS i k s).T=swT i k s.T from rfl,h1]at hj
  cases hT:s.T[Io i k j]? with
  | none=>rw[hT]at hj;cases hj
  | some q=>
    rw[hT]at hj;cases hj;exact ak.gT q (iF hT)
@[reducible] def og:List (Nat×Nat)→St→St
  | [],s=>s
  | (i,k) :: l,s=>match dL (Nat.ble (i+1) (aS s.T)) (Nat.ble (k+1) (aS s.T)) with
    | true=>og l (swS i k s)
    | false=>s
theorem Sat.og{N:Nat}{B:Base}{h0 h:FH}{w:World}{a:Act}:∀(l:List (Nat×Nat)){s:St}{β:List RV},Sat N B h0 s h β w a→∃β',Sat N B h0 (og l s) h β' w a
 | [],s,β,ak=>⟨β,ak⟩
 | (i,k) :: l,s,β,ak=>by
   unfold Go.aV.og;split
   ·rename_i hc;rw[aF,A8,bH]at hc;have h1:=qP hc.1;have h2:=qP hc.2;obtain⟨β',aY⟩:=ak.sw (i:=i) (k:=k) (by omega) (by omega)
    exact Sat.og l aY
   ·exact⟨β,ak⟩
inductive Loc where
 | slot (t:Nat)
 | cell (i c:Nat)
@[reducible] def ajX:SC→Option Nat
  | .own i _=>some i
  | .row i=>some i
  | _=>none
@[reducible] def asC (s:St):Loc→Option Nat
  | .slot t=>match iG s.env t with
    | some ([],.one (.c x))=>ajX x
    | _=>none
  | .cell i c=>match fD s.T i with
    | some ([],.blk _ cs)=>match fD cs c with
      | some x=>ajX x
      | none=>none
    | _=>none
@[reducible] def uF:List (Nat×Loc)→St→St
  | [],s=>s
  | (k,loc) :: l,s=>match asC s loc with
    | none=>uF l s
    | some i=>match dL (Nat.ble (i+1) (aS s.T)) (Nat.ble (k+1) (aS s.T)) with
      | true=>uF l (swS i k s)
      | false=>s
theorem Sat.uF{N:Nat}{B:Base}{h0 h:FH}{w:World}{a:Act}:∀(l:List (Nat×Loc)){s:St}{β:List RV},Sat N B h0 s h β w a→∃β',Sat N B h0 (uF l s) h β' w a
 | [],s,β,ak=>⟨β,ak⟩
 | (k,loc) :: l,s,β,ak=>by
   unfold Go.aV.uF;split
   ·exact Sat.uF l ak
   ·rename_i i _;split
    ·rename_i hc;rw[aF,A8,bH]at hc;have h1:=qP hc.1;have h2:=qP hc.2;obtain⟨β',aY⟩:=ak.sw (i:=i) (k:=k) (by omega) (by omega)
     exact Sat.uF l aY
    ·exact⟨β,ak⟩
end Go.aV
namespace Go.aV
open Go Go.RowKit
structure IP where
 sh:Sh
 ps:List Sh
 pre:List sh.den→bY ps→Prop
 res:List sh.den→bY ps→List sh.den
 back:Bool
def WQ(P:Program) (gd:Nat→Option (Sigma Sh.den)) (f:FuncId) (ip:IP):Prop:=
 ∀(t:TypeId) (l:List ip.sh.den) (d:bY ip.ps) (v:Value) (vs:List Value) (h:FH) (w:World),(∀b o u,h b o=some u→vis w b o=some u)→aO gd h →
   Holds h [] w (.row t ip.sh l) (.row v)→(∀b,aC v=some b→∀o,h b o=none)→aW (dJ h []) (fJ ip.ps d) vs→ip.pre l d →
   Calls P f (v :: vs).toArray w (λen w'=>∃v' y,en=.returned y∧Gb w w' (aC v)∧(∀b,aC v'=some b→aC v=some b∨(w.heap.size≤b∧b < w'.heap.size)) ∧
    Holds h [] w' (.row t ip.sh (ip.res l d)) (.row v')∧(ip.back=true→y=v')∧(ip.back=false→y=.tuple #[]∧v'=v))
@[reducible] def ipK (cx:Cx) (ip:IP) (s:St) (d:Option Nat) (args:List Operand) (K:St→Prop):Prop:=match args with
  | []=>False
  | x :: r=>match bU cx s [] x with
    | some (.one (.c (.row i)))=>match fD s.T i with
      | some ([],.row t sh l)=>match jK (.sl sh) l (.sl ip.sh) with
        | none=>False
        | some l=>match vg cx s [] r with
          | none=>False
          | some vs=>match allL noRow vs with
            | false=>False
            | true=>match Ho s [] vs with
              | none=>False
              | some bs=>match y8 ip.ps bs with
                | none=>False
                | some dd=>ip.pre l dd∧(match ip.back with
                  | false=>K ({ s with T:=dK s.T i ([],.row t ip.sh (ip.res l dd)) }.put d [] (.gX []))
                  | true=>K ({ s with T:=dK (Na i s.T) i ([],.row t ip.sh (ip.res l dd)),env:=uj i s.env }.put d [] (.one (.c (.row i)))))
      | _=>False
    | _=>False
def BZ(P:Program) (N:Nat) (B:Base) (h0 h:FH) (w:World) (a:Act) (o:Oper) (wanted:Bool) (K:St→Prop):Prop:=
 ∀(Nx:Act→World→Prop) (Q:Exit→Act→World→Prop),
   (∀s' h' β' w' v,K s'→h.le h'→Sat N B h0 s' h' β' w' (a.put o.dst v)→Nx (a.put o.dst v) w') →
   if wanted=true then o.wp P a w Nx Q else Nx (a.put o.dst undef) w
theorem gI.weak{P:Program}{N:Nat}{B:Base}{h0 h:FH}{w:World}{a:Act}{o:Oper}{b:Bool}{K:St→Prop} (k:gI P N B h0 h w a o b K):BZ P N B h0 h w a o b K:=
 λNx Q next=>k Nx Q λs' h' β' w' v k' le _ ak=>next s' h' β' w' v k' le ak
section
variable {cx:Cx}{P:Program}{N:Nat}{B:Base}{h0:FH}{s:St}{h:FH}{β:List RV}{w:World}{a:Act}{o:Oper}{K:St→Prop}
theorem Zb(ak:Sat N B h0 s h β w a){r:Nat}{x x':aj}{u v:RV}{w':World} (hT:fD s.T r=some ([],x)) (hl:x.live=true) (hu:β[r]?=some u)
 (hg:Gb w w' u.block) (hv:∀b,v.block=some b→u.block=some b∨(w.heap.size≤b∧b < w'.heap.size)) (hvs:∀b,¬v.sub b:=by exact λ_ h=>h) (hold:Holds h (β.set r v) w' x' v):
 Sat N B h0 { s with T:=dK (Na r s.T) r ([],x'),env:=uj r s.env } h (β.set r v) w' a:=by
 have tr:gv s.gl []=true:=rfl;have gu:=bJ hT tr;have okj:=ak.ok.jk r;have hTj:((eff s.gl s.T).map (jkR r))[r]?=some (jkR r x):=by rw[LX,gu];rfl
 have ok:OK B h0 (eff s.gl (dK (Na r s.T) r ([],x'))) h (β.set r v) w':=by
  rw[fZ,Qp];refine okj.upd hTj (by rw[uY];exact hl) hu hg (λk e=>.inl e) (λb hb=>hb.elim (λq=>(hv b q).imp .inl id) λq=>(hvs b q).elim) (.inr λj rj _ ej=>?_) hold
  rw[LX]at ej;cases hj:(eff s.gl s.T)[j]? with
  | none=>rw[hj]at ej;cases ej
  | some q=>rw[hj]at ej;cases ej;exact Nb r q
 refine⟨ok,?_,?_,ak.defers,ak.sz,?_,?_⟩
 ·intro t G e ht;obtain⟨e0,h1,rfl⟩:=EL r ht;obtain⟨z,q1,q2,q3⟩:=ak.env t G e0 h1;exact⟨z,q1,λhG=>(q2 hG).jk v,q3⟩
 ·intro d i hi;obtain⟨G,b,q1,q2⟩:=ak.gs d i hi;exact⟨G,b,JJ r q1,q2⟩
 ·intro t G e ht;obtain⟨e0,h1,rfl⟩:=EL r ht;exact ak.gb t G e0 h1
 ·intro p hp;simp only at hp;rw[gG]at hp;rcases yL hp with hp | hp
  ·have:∀{l:List (Gd×aj)},p∈Na r l→∃q∈l,q.1=p.1:=by
    intro l
    induction l with
    | nil=>intro hh;simp[Na]at hh
    | cons q l ih=>
      obtain⟨g,q⟩:=q;intro hh;simp only[Na,mX]at hh;rcases hh with rfl | hh
      ·exact⟨(g,q),by simp,rfl⟩
      ·obtain⟨q',h1,h2⟩:=ih hh;exact⟨q',by simp[h1],h2⟩
   obtain⟨q,h1,h2⟩:=this hp;rw[←h2];exact ak.gT q h1
  ·subst hp;rfl
theorem Holds.ak0{h:FH}{β β':List RV}{w:World}{t:TypeId}{s:Sh}{l:List s.den}{v:RV} (x:Holds h β w (.row t s l) v):Holds h β' w (.row t s l) v:=by
 cases v<;>exact x
theorem ae6{f:FuncId}{ip:IP} (TS:WQ P cx.gd f ip) (hf:∃fn,P.funcs[f]?=some fn∧fn.body.isSome=true∧(fn.name == "runtime.NumGoroutine")=false)
 (ak:Sat N B h0 s h β w a) (hg:aO cx.gd h) (hd:lZ N o.dst=true){c:Call} (ho:o.op=.call c) (dA:c.callee=.value (.func f))
 (k:ipK cx ip s o.dst (tl c.args) K):BZ P N B h0 h w a o true K:=by
 have tr:gv s.gl []=true:=rfl;unfold ipK at k;split at k
 ·exact k.elim
 rename_i x r hargs0;split at k
 ·rename_i i hx;split at k
  ·rename_i t sh l0 hT;split at k
   ·exact k.elim
   rename_i l hl;split at k
   ·exact k.elim
   rename_i vs hvs;split at k
   ·exact k.elim
   rename_i hnr;split at k
   ·exact k.elim
   rename_i bs hbs;split at k
   ·exact k.elim
   rename_i dd hdd;obtain⟨aA,k⟩:=k;obtain⟨e1,e2⟩:=oZ hl;subst e1;simp only at e2;subst e2;have cr:dJ h β (.c (.row i)) (a.eval x):=aQ ak hg tr hx;have hu:β[i]?=some (.row (a.eval x)):=ak.ok.row_of (bJ hT tr) cr.1;have hold:=ak.ok.holds i _ _ (bJ hT tr) hu;have hav:=rG ak hg tr hvs;obtain⟨_,b2⟩:=zk ak tr hbs hav;intro Nx Q next
   rw[if_pos rfl];obtain⟨fn,hfn,hbody,hname⟩:=hf;have exec:(execOp a.eval o).run P w=.ok (.enter f (c.args.map a.eval)) w:=by
    simp only[execOp,ho,resolve,dA,Act.eval,Deferred.ofValue,invoke,Sem.run_bind,Sem.run_pure,Result.andThen_ok,callFunc,run_program,hfn,hname];simp[hbody];cases hb:fn.body with
    | none=>rw[hb]at hbody;cases hbody
    | some _=>simp
   have hargs:(c.args.map a.eval)=(a.eval x :: r.map a.eval).toArray:=by
    have:c.args=(x :: r).toArray:=by
     cases hc:c.args with
     | mk q=>rw[hc]at hargs0;simp only[tl]at hargs0;rw[hargs0]
    rw[this];simp
   unfold Oper.wp;rw[exec];simp only[Oper.upon];rw[hargs];refine(TS t l0 dd (a.eval x) _ h w ak.ok.hw hg hold.ak0 (λb hb=>(ak.ok.own i _ _ b (bJ hT tr) rfl hu (bF.2 hb)).2.2) (y9 hdd (b2 hnr)) aA).mono ?_
   rintro en w' ⟨v',y,rfl,hgr,hv,hold',hb1,hb2⟩;have hi:i < β.length:=(eU.1 hu).1;cases hb:ip.back with
   | false=>
     rw[hb]at k;obtain⟨rfl,rfl⟩:=hb2 hb;have gu:=bJ hT tr;have ok:OK B h0 (eff s.gl (dK s.T i ([],.row t ip.sh (ip.res l0 dd)))) h β w':=by
      rw[xM];have:=ak.ok.upd (r':=.row t ip.sh (ip.res l0 dd)) (v:=.row (a.eval x)) gu rfl hu hgr (λk e=>bF.2 e) (λb hb=>.inl hb) (.inl rfl) hold'.ak0
      rwa [iq hu]at this
     exact next _ _ _ _ _ k (FH.le.refl h) ((ak.mem ok (FH.le.refl h) (Ext.refl β) (qK ak)).put (eG hd) rfl (λ_=>⟨[],rfl,trivial⟩) λhh=>by cases hh)
   | true=>
     rw[hb]at k;obtain rfl:=hb1 hb;refine next _ _ _ _ _ k (FH.le.refl h) ((Zb ak hT rfl hu hgr hv (x':=.row t ip.sh (ip.res l0 dd)) (v:=.row y) (hold:=hold'.ak0)).put (eG hd) rfl (λ_=>?_) λhh=>by cases hh)
     refine⟨?_,?_⟩
     ·refine⟨.row y,?_,rfl⟩;rw[nP hi]
     ·rcases hold' with⟨rfl,_⟩ | ⟨_,rfl,_⟩ | ⟨g,cap,cur,rfl,_⟩<;>exact⟨rfl,rfl⟩
  ·exact k.elim
 ·exact k.elim
end
end Go.aV
namespace Go.aV
open Go Go.RowKit
def ak1:Int→Bool
 | .ofNat 0=>true
 | _=>false
theorem ae7{n:Int} (h:ak1 n=true):n=0:=by
 unfold ak1 at h;split at h
 ·rfl
 ·cases h
@[reducible] def Hq:Operand→Bool
  | .const v=>match v with
    | .int _ n=>ak1 n
    | _=>false
  | _=>false
theorem zn{x:Operand} (h:Hq x=true):∃k,x=.const (.int k 0):=by
 unfold Hq at h;split at h
 ·split at h
  ·rename_i k n;rw[ae7 h];exact⟨k,rfl⟩
  ·cases h
 ·cases h
@[reducible] def ak2:Option Operand→Bool
  | none=>true
  | some x=>Hq x
@[reducible] def apY:Option Operand→Bool
  | none=>false
  | some x=>Hq x
@[reducible] def Zc:SC→Bool
  | .sl _ _=>true
  | .v v=>match v with
    | .slice none 0 0=>true
    | _=>false
  | _=>false
@[reducible] def ak3 (cx:Cx) (s:St) (d:Option Nat) (t:TypeId) (x:Operand) (lo hi:Option Operand) (K:St→Prop):Prop:=match descOf cx t with
  | .slice el=>match qo cx.ti el with
    | none=>False
    | some ie=>match ie.iT with
      | none=>False
      | some sh=>match bU cx s [] x with
        | some (.one (.c y))=>match dL (Zc y) (dL (ak2 lo) (apY hi)) with
          | true=>K ({ s with T:=snoc s.T ([],.row el sh []) }.put d [] (.one (.c (.row (aS s.T)))))
          | false=>False
        | _=>False
  | _=>False
@[reducible] def Qw (cx:Cx) (s:St) (d:Option Nat) (t:TypeId) (i:Nat) (lo hi:Option Operand) (K:St→Prop):Prop:=match descOf cx t with
  | .slice el=>match qo cx.ti el with
    | none=>False
    | some _=>match ak2 lo with
      | false=>False
      | true=>match hi with
        | none=>False
        | some h=>match bU cx s [] h with
          | some (.one (.c (.v (.int _ n))))=>match fD s.T i with
            | some ([],.row el' sh l)=>(0≤n∧n≤l.length)∧K ({ s with T:=dK (Na i s.T) i ([],.row el' sh (l.take n.toNat)),env:=uj i s.env }.put d [] (.one (.c (.row i))))
            | _=>False
          | _=>False
  | _=>False
@[reducible] def ak4 (cx:Cx) (s:St) (d:Option Nat) (t:TypeId) (lo hi:Option Operand) (K:St→Prop):Prop:=match descOf cx t with
  | .slice el=>match qo cx.ti el with
    | none=>False
    | some _=>match Hl cx s [] lo 0 with
      | none=>False
      | some a=>match Hl cx s [] hi 0 with
        | none=>False
        | some b=>(0≤a∧a≤b∧b≤0)∧K (s.put d [] (.one (.c (.v (.slice none 0 0)))))
  | _=>False
def dX(a b:Int):Int:=if b > a then b else a
@[reducible] def Qx (cx:Cx) (s:St) (d:Option Nat) (x y:Operand) (K:St→Prop):Prop:=match bU cx s [] x with
  | some (.one (.c (.v (.int .i64 a))))=>match bU cx s [] y with
    | some (.one (.c (.v (.int .i64 b))))=>K (s.put d [] (vI .i64 (dX a b)))
    | _=>False
  | _=>False
@[reducible] def ak5 (cx:Cx) (s:St) (d:Option Nat) (t:TypeId) (x:Operand) (K:St→Prop):Prop:=match descOf cx t with
  | .slice _=>match bU cx s [] x with
    | some (.one (.c (.v (.slice none 0 0))))=>K (s.put d [] (vI .i64 0))
    | _=>False
  | _=>False
@[reducible] def ak6 (cx:Cx) (s:St) (d:Option Nat) (t:TypeId) (x:Operand) (lo hi:Option Operand) (m:Operand) (K:St→Prop):Prop:=match descOf cx t with
  | .slice el=>match qo cx.ti el with
    | none=>False
    | some ie=>match ak2 lo with
      | false=>False
      | true=>match hi with
        | none=>False
        | some h=>match bU cx s [] h with
          | some (.one (.c (.v (.int _ n))))=>match bU cx s [] m with
            | some (.one (.c (.v (.int _ n'))))=>match bU cx s [] x with
              | some (.one (.c (.sl sh l)))=>match Nat.beq ie.size sh.size with
                | true=>(0≤n∧n≤l.length∧n=n')∧K (s.put d [] (.one (.c (.abs (.Wp sh (l.take n.toNat))))))
                | false=>False
              | _=>False
            | _=>False
          | _=>False
  | _=>False
@[reducible] def Qy (s:St) (d:Option Nat) (eq:Bool) (x:SC) (K:St→Prop):Prop:=match x with
  | .v _=>K (s.put d [] (vB eq))
  | .sl _ l=>∀b:Bool,(b=true→l=[])→K (s.put d [] (vB (cnd eq b (!b))))
  | .row i=>match fD s.T i with
    | some ([],.row _ _ l)=>∀b:Bool,(b=true→l=[])→K (s.put d [] (vB (cnd eq b (!b))))
    | _=>False
  | _=>False
@[reducible] def JR:BinOp→Option Bool
  | .eql=>some true
  | .neq=>some false
  | _=>none
@[reducible] def Zd (cx:Cx) (t:TypeId):Bool:=match descOf cx t with
  | .slice _=>true
  | _=>false
@[reducible] def Qz:SC→Bool
  | .sl _ _=>true
  | .row _=>true
  | .v v=>match v with
    | .slice none 0 0=>true
    | _=>false
  | _=>false
@[reducible] def Ze (cx:Cx) (s:St) (d:Option Nat) (t t':TypeId) (y:Operand) (K:St→Prop):Prop:=match descOf cx t' with
  | .int .i64=>match descOf cx t with
    | .slice el=>match qo cx.ti el with
      | none=>False
      | some ie=>match ie.iT with
        | none=>False
        | some sh=>match dL (Nat.beq sh.size ie.size) (dL (Nat.ble 1 ie.bytes) (Nat.ble 1 ie.size)) with
          | true=>match bU cx s [] y with
            | some (.one (.c (.v (.int .i64 n))))=>(0≤n∧jS n.toNat ie.bytes)∧K ({ s with T:=snoc s.T ([],.row el sh (List.replicate n.toNat (qZ sh))) }.put d [] (.one (.c (.row (aS s.T)))))
            | _=>False
          | false=>False
    | _=>False
  | _=>False
@[reducible] def WR (i:Nat) (z x:SC):SC:=match x with
  | .row j=>match Nat.beq i j with
    | true=>z
    | false=>.row j
  | .kF j k sz off=>match Nat.beq i j with
    | true=>.junk
    | false=>.kF j k sz off
  | .own j off=>match Nat.beq i j with
    | true=>.junk
    | false=>.own j off
  | .sub j k=>match Nat.beq i j with
    | true=>.junk
    | false=>.sub j k
  | .l9 j k m sz off=>match Nat.beq i j with
    | true=>.junk
    | false=>.l9 j k m sz off
  | x=>x
@[reducible] def ae8 (i:Nat) (z:SC):SV→SV
  | .c x=>.c (WR i z x)
  | .agg xs=>.agg (fE (WR i z) xs)
  | v=>v
@[reducible] def ae9 (i:Nat) (z:SC):aT→aT
  | .one v=>.one (ae8 i z v)
  | .gX vs=>.gX (fE (ae8 i z) vs)
@[reducible] def WS (i:Nat) (z:SC):aj→aj
  | .blk t cs=>.blk t (fE (WR i z) cs)
  | r=>r
@[reducible] def o9 (i:Nat) (z:SC):List (Nat×Gd×aT)→List (Nat×Gd×aT)
  | []=>[]
  | (k,g,e) :: r=>(k,g,ae9 i z e) :: o9 i z r
@[reducible] def sU (i:Nat) (z:SC):List (Gd×aj)→List (Gd×aj)
  | []=>[]
  | (g,r) :: t=>(g,WS i z r) :: sU i z t
@[reducible] def Nl (s:St) (i:Nat):St:=match fD s.T i with
  | some ([],.row _ sh l)=>{ s with T:=dK (sU i (.sl sh l) s.T) i ([],.gone),env:=o9 i (.sl sh l) s.env }
  | some ([],.deep _ sh l _ _ _ _ [])=>{ s with T:=dK (sU i (.sl sh l) s.T) i ([],.gone),env:=o9 i (.sl sh l) s.env }
  | some ([],.mp k sh l)=>{ s with T:=dK (sU i (.one (.mp k sh) l) s.T) i ([],.gone),env:=o9 i (.one (.mp k sh) l) s.env }
  | _=>s
@[reducible] def nV (s:St):List Nat→St
  | []=>s
  | i :: r=>nV (Nl s i) r
@[reducible] def TT:List SC→List Nat→List Nat
  | [],r=>r
  | x :: xs,r=>match x with
    | .row i=>i :: TT xs r
    | _=>TT xs r
@[reducible] def rowsOf (cx:Cx) (s:St):List (Nat×Operand)→List Nat
  | []=>[]
  | (_,x) :: r=>match bU cx s [] x with
    | some (.one (.c (.row i)))=>i :: rowsOf cx s r
    | some (.one (.agg xs))=>TT xs (rowsOf cx s r)
    | _=>rowsOf cx s r
@[reducible] def JU (cx:Cx) (s:St) (d:Option Nat) (t:TypeId) (x y:Operand) (K:St→Prop):Prop:=iU cx t λel ie sh=>
  match bU cx s [] x with
  | some (.one (.c (.abs (.Wp fG l1))))=>match jK (.sl fG) l1 (.sl sh) with
    | some l=>match bU cx s [] y with
      | some (.one v2)=>match Qq s sh v2 with
        | some l2=>jS (l.length+l2.length) ie.bytes∧K ({ s with T:=snoc (sU (aS s.T) (.sl sh (l++l2)) s.T) ([],.gone),env:=o9 (aS s.T) (.sl sh (l++l2)) s.env }.put d [] (.one (.c (.sl sh (l++l2)))))
        | none=>False
      | _=>False
    | none=>False
  | _=>False
@[reducible] def QA:List Value→Bool
  | []=>false
  | v :: l=>match l with
    | []=>match v with
      | .slice none 0 0=>true
      | _=>false
    | _ :: _=>false
theorem WT{l:List Value} (h:QA l=true):l=[nT]:=by
 unfold QA at h;split at h
 ·cases h
 ·split at h
  ·split at h
   ·rfl
   ·cases h
  ·cases h
abbrev ak7:Nat→Bool:=λ_=>true
@[reducible] def QB (cx:Cx) (s:St) (d:Option Nat) (t:TypeId) (ln cp:Operand) (K:St→Prop):Option Prop:=match descOf cx t with
  | .slice el=>match qo cx.ti el with
    | none=>none
    | some ie=>match ie.iT with
      | some (.sl e)=>match descOf cx el with
        | .slice tt=>match dL (Nat.beq 1 ie.size) (dL (Nat.ble 1 ie.bytes) (QA ie.zero)) with
          | true=>match bU cx s [] ln with
            | some (.one (.c (.v (.int _ n))))=>match bU cx s [] cp with
              | some (.one (.c (.v (.int _ c))))=>some ((0≤n∧n≤c∧jS c.toNat ie.bytes)∧K ({ s with T:=snoc s.T ([],.deep el (.sl e) (List.replicate n.toNat []) tt e 0 ak7 []) }.put d [] (.one (.c (.row (aS s.T))))))
              | _=>none
            | _=>none
          | false=>none
        | _=>none
      | _=>none
  | _=>none
@[reducible] def ak8 (cx:Cx) (s:St) (o:Oper) (K:St→Prop):Option Prop:=match o.guard with
  | some _=>none
  | none=>match o.op with
    | .slice t x lo hi mx=>match mx with
      | some m=>match Hq m with
        | true=>some (ak3 cx s o.dst t x lo hi K)
        | false=>some (ak6 cx s o.dst t x lo hi m K)
      | none=>match bU cx s [] x with
        | some (.one (.c (.row i)))=>some (Qw cx s o.dst t i lo hi K)
        | some (.one (.c (.v (.slice none 0 0))))=>some (ak4 cx s o.dst t lo hi K)
        | _=>none
    | .binOp op t x y t'=>match JR op with
      | none=>none
      | some eq=>match bU cx s [] y with
        | some (.one (.c (.v (.slice none 0 0))))=>match bU cx s [] x with
          | some (.one (.c z))=>match dL (Qz z) (Zd cx t) with
            | true=>some (Qy s o.dst eq z K)
            | false=>none
          | _=>none
        | _=>none
    | .call c=>match c.callee with
      | .builtin .append=>match tl c.args with
        | [x,y]=>match tl c.argTypes with
          | [t,t']=>match Nat.beq t t' with
            | true=>match bU cx s [] x with
              | some (.one (.c (.abs (.Wp _ _))))=>some (JU cx s o.dst t x y K)
              | _=>none
            | false=>match bU cx s [] x with
              | some (.one (.c (.v (.slice none 0 0))))=>some (Ze cx s o.dst t t' y K)
              | _=>none
          | _=>none
        | _=>none
      | .builtin .cap=>match tl c.args with
        | [x]=>match tl c.argTypes with
          | [t]=>some (ak5 cx s o.dst t x K)
          | _=>none
        | _=>none
      | .builtin .max=>match tl c.args with
        | [x,y]=>some (Qx cx s o.dst x y K)
        | _=>none
      | _=>none
    | .makeSlice t ln cp=>match cx.dm with
      | true=>QB cx s o.dst t ln cp K
      | false=>none
    | .buildSlice t n ps=>match rowsOf cx s (tl ps) with
      | []=>none
      | i :: r=>some (nG cx (nV s (i :: r)) [] o.dst t n (tl ps) K)
    | _=>none
section
variable {cx:Cx}{P:Program}{N:Nat}{B:Base}{h0:FH}{s:St}{h:FH}{β:List RV}{w:World}{a:Act}{o:Oper}{K:St→Prop}
theorem TU{h h':FH}{β:List RV}{i:Nat}{z:SC}{v:Value} (le:h.le h') (hu:∃u,β[i]?=some u∧u.sl=some v) (sl:eH h' β z v){x:SC}{y:Value} (c:eH h β x y):eH h' β (WR i z x) y:=by
 unfold WR;split
 ·rename_i j;split
  ·rename_i hj;have:=gK hj;subst this;obtain⟨u,e,es⟩:=c;obtain⟨u',e',es'⟩:=hu;rw[e']at e;cases e;rw[es']at es;cases es;exact sl
  ·exact eH.mono (x:=.row j) le (Ext.refl β) c
 ·split
  ·trivial
  ·exact c.mono le (Ext.refl β)
 ·split
  ·trivial
  ·exact c.mono le (Ext.refl β)
 ·split
  ·trivial
  ·exact c.mono le (Ext.refl β)
 ·split
  ·trivial
  ·exact c.mono le (Ext.refl β)
 ·exact c.mono le (Ext.refl β)
theorem JV{h h':FH}{β:List RV}{i:Nat}{z:SC}{v:Value} (le:h.le h') (hu:∃u,β[i]?=some u∧u.sl=some v) (sl:eH h' β z v):∀{xs:List SC}{ys:List Value},
 aW (λx y=>eH h β x y∧dO y) xs ys→aW (λx y=>eH h' β x y∧dO y) (fE (WR i z) xs) ys
 | [],[],_=>trivial
 | _ :: _,_ :: _,⟨a,b⟩=>⟨⟨TU le hu sl a.1,a.2⟩,JV le hu sl b⟩
theorem ajY{h h':FH}{β:List RV}{i:Nat}{z:SC}{v:Value} (le:h.le h') (hu:∃u,β[i]?=some u∧u.sl=some v) (sl:eH h' β z v):∀{x:SV}{y:Value},dJ h β x y→dJ h' β (ae8 i z x) y
 | .c _,_,c=>⟨TU le hu sl c.1,c.2⟩
 | .agg _,_,⟨ys,e,a⟩=>⟨ys,e,JV le hu sl a⟩
 | .dat s _,_,⟨g,cs,e,r⟩=>⟨g,cs,e,r.mono le s⟩
 | .und,_,c=>c
theorem apZ{h h':FH}{β:List RV}{i:Nat}{z:SC}{v:Value} (le:h.le h') (hu:∃u,β[i]?=some u∧u.sl=some v) (sl:eH h' β z v):∀{x:aT}{y:Value},kC h β x y→kC h' β (ae9 i z x) y
 | .one _,_,c=>ajY le hu sl c
 | .gX _,_,⟨ys,e,a⟩=>⟨ys,e,go a⟩
where
 go:∀{xs:List SV}{ys:List Value},aW (dJ h β) xs ys→aW (dJ h' β) (fE (ae8 i z) xs) ys
  | [],[],_=>trivial
  | _ :: _,_ :: _,⟨a,b⟩=>⟨ajY le hu sl a,go b⟩
theorem WU{h h':FH}{β:List RV}{w:World}{i:Nat}{z:SC}{v:Value} (le:h.le h') (hu:∃u,β[i]?=some u∧u.sl=some v) (sl:eH h' β z v):∀{r:aj}{u:RV},Holds h β w r u→Holds h' β w (WS i z r) u
 | .blk _ _,.blk _,⟨ys,e,a⟩=>⟨ys,e,JV le hu sl a⟩
 | .row _ s _,.row _,x=>mM.move le x λ_ _=>rfl
 | .deep _ _ _ _ _ _ _ _,.deep _ _,x=>fA.move le x λ_ _=>rfl
 | .mp k s l,.row v,x=>Holds.move (r:=.mp k s l) (v:=.row v) le (Ext.refl β) x λ_ _ _=>rfl
 | .PN k s l n,.deep v us,x=>Holds.move (r:=.PN k s l n) (v:=.deep v us) le (Ext.refl β) x λ_ _ _=>rfl
 | .MG _ _ _ _,.row _,x=>x
 | .Ia _ _ _ _,.deep _ _,x=>Ei.move le x λ_ _=>rfl
 | .it k s l dn,.blk v,x=>Holds.move (r:=.it k s l dn) (v:=.blk v) le (Ext.refl β) x λ_ _ _=>rfl
 | .obj _ s _,.blk _,⟨ys,e,r⟩=>⟨ys,e,r.mono le s⟩
 | .gone,_,_=>trivial
theorem Ba(i:Nat) (z:SC) (r:aj):(WS i z r).live=r.live:=by cases r<;>rfl
theorem JW{i:Nat}{z:SC}:∀{env:List (Nat×Gd×aT)}{t:Nat}{G:Gd}{e:aT},iG (o9 i z env) t=some (G,e)→∃e0,iG env t=some (G,e0)∧e=ae9 i z e0
 | [],_,_,_,h=>by simp[o9,iG]at h
 | (k,g,e0) :: r,t,G,e,h=>by
   simp only[o9]at h;rw[bD]at h ⊢
   split at h
   ·rename_i hk;cases h;exact⟨e0,by rw[if_pos hk],rfl⟩
   ·rename_i hk;rw[if_neg hk];exact JW h
theorem Np{i:Nat}{z:SC}:∀{env:List (Nat×Gd×aT)}{t:Nat}{G:Gd}{e:aT},iG env t=some (G,e)→iG (o9 i z env) t=some (G,ae9 i z e)
 | [],_,_,_,h=>by simp[iG]at h
 | (k,g,e0) :: r,t,G,e,h=>by
   simp only[o9];rw[bD]at h ⊢
   split at h
   ·rename_i hk;cases h;rw[if_pos hk]
   ·rename_i hk;rw[if_neg hk];exact Np h
theorem TV(gl:List Bool) (i:Nat) (z:SC):∀{T:List (Gd×aj)},eff gl (sU i z T)=(eff gl T).map (WS i z)
 | []=>rfl
 | (g,r) :: t=>by
   simp only[sU,eff,X9,TV gl i z (T:=t)]
   congr 1
   cases gv gl g<;>rfl
theorem TW{i:Nat}{z:SC}{p:Gd×aj}:∀{T:List (Gd×aj)},p∈sU i z T→∃q∈T,q.1=p.1
 | [],h=>by simp[sU]at h
 | (g,r) :: t,h=>by
   simp only[sU,mX]at h;rcases h with rfl | h
   ·exact⟨(g,r),by simp,rfl⟩
   ·obtain⟨q,h1,h2⟩:=TW h;exact⟨q,by simp[h1],h2⟩
theorem Sat.JX(ak:Sat N B h0 s h β w a){i:Nat}{r:aj}{z:SC}{u:RV}{v:Value} (gu:(eff s.gl s.T)[i]?=some r) (hu:β[i]?=some u) (hus:u.sl=some v){h':FH} (le:h.le h') (ok':OK B h0 ((eff s.gl s.T).set i .gone) h' β w) (sl:eH h' β z v):
 Sat N B h0 { s with T:=dK (sU i z s.T) i ([],.gone),env:=o9 i z s.env } h' β w a:=by
 have hu:∃u,β[i]?=some u∧u.sl=some v:=⟨u,hu,hus⟩;refine⟨?_,?_,?_,ak.defers,ak.sz,?_,?_⟩
 ·show OK B h0 (eff s.gl (dK (sU i z s.T) i ([],.gone))) h' β w;rw[fZ,TV];have key:∀{j:Nat}{r:aj},(((eff s.gl s.T).map (WS i z)).set i .gone)[j]?=some r→∃r0,((eff s.gl s.T).set i .gone)[j]?=some r0∧r=WS i z r0:=by
   intro j r e
   by_cases hj:j=i
   ·subst hj;have iO:j < (eff s.gl s.T).length:=(eU.1 gu).1;rw[nP (by simpa using iO)]at e
    cases e;exact⟨.gone,by rw[nP iO],rfl⟩
   ·rw[lD (Ne.symm hj),LX]at e;cases hj':(eff s.gl s.T)[j]? with
    | none=>rw[hj']at e;cases e
    | some r0=>rw[hj']at e;cases e;exact⟨r0,by rw[lD (Ne.symm hj)];exact hj',rfl⟩
  exact {
   below:=ok'.below
   dr:=ok'.dr
   len:=by have:=ok'.len;simpa using this
   holds:=λj r v' e e'=>by
    obtain⟨r0,e0,rfl⟩:=key e
    by_cases hj:j=i
    ·subst hj;have iO:j < (eff s.gl s.T).length:=(eU.1 gu).1;rw[nP iO]at e0;cases e0;cases v'<;>trivial
    ·rw[lD (Ne.symm hj)]at e0;exact WU le hu sl (ak.ok.holds j r0 v' e0 e')
   own:=λj r v' b e hl e' hb=>by
    obtain⟨r0,e0,rfl⟩:=key e;exact ok'.own j r0 v' b e0 (by rw[←Ba i z];exact hl) e' hb
   inj:=λj k r1 r2 u v' b e1 l1 e2 l2 e3 e4 b1 b2=>by
    obtain⟨r0,f1,rfl⟩:=key e1;obtain⟨r0',f2,rfl⟩:=key e2;exact ok'.inj j k r0 r0' u v' b f1 (by rw[←Ba i z];exact l1) f2 (by rw[←Ba i z];exact l2) e3 e4 b1 b2
   hle:=ok'.hle
   hw:=ok'.hw
   hg:=ok'.hg
   kn:=ok'.kn }
 ·intro t' G e ht;obtain⟨e0,h1,rfl⟩:=JW ht;obtain⟨z,q1,q2,q3⟩:=ak.env t' G e0 h1;exact⟨z,q1,λhG=>apZ le hu sl (q2 hG),q3⟩
 ·intro d j hj;obtain⟨G,b,q1,q2⟩:=ak.gs d j hj;exact⟨G,b,Np q1,q2⟩
 ·intro t' G e ht;obtain⟨e0,h1,rfl⟩:=JW ht;exact ak.gb t' G e0 h1
 ·intro p hp;simp only at hp;rw[gG]at hp;rcases yL hp with hp | hp
  ·obtain⟨q,h1,h2⟩:=TW hp;rw[←h2];exact ak.gT q h1
  ·subst hp;rfl
theorem TY{h h':FH}{β:List RV}{w:World}{k:IntKind}{sh:Sh}{l:List (Int×sh.den)}{v:Value} (x:Holds h β w (.mp k sh l) (.row v)) (le:h.le h') (hb:∀b,(RV.row v).has b→∀o z,vis w b o=some z→h' b o=some z):Rd h' (.mp k sh) [v] l:=by
 obtain⟨b,es,c,e,e1,m⟩:=x;exact⟨v,rfl,.inr ⟨b,es,c,e,hb b (bF.2 (by rw[e];rfl)) _ _ (Tf e1),m.mono λ_ _=>DW.mono le⟩⟩
theorem Sat.ak9(ak:Sat N B h0 s h β w a) (i:Nat):∃h',h.le h'∧Sat N B h0 (Nl s i) h' β w a:=by
 unfold Nl;split
 ·rename_i t sh l hT;have gu:(eff s.gl s.T)[i]?=some (.row t sh l):=by rw[jJ,←fP,hT];rfl
  have iO:i < β.length:=by rw[ak.ok.len];exact(eU.1 gu).1
  have hu:=l7 iO;have hold:=ak.ok.holds i _ _ gu hu;cases hb:β[i]with
  | blk b=>rw[hb]at hold;exact hold.elim
  | no=>rw[hb]at hold;exact hold.elim
  | deep _ _=>rw[hb]at hold;exact hold.elim
  | row v=>
    rw[hb]at hold hu;obtain⟨h',le,ok',sl⟩:=ak.ok.freeze gu hu;exact⟨h',le,ak.JX (z:=.sl sh l) gu hu rfl le ok' sl⟩
 ·rename_i t sh l t2 e so own hT;have gu:(eff s.gl s.T)[i]?=some (.deep t sh l t2 e so own []):=by rw[jJ,←fP,hT];rfl
  have iO:i < β.length:=by rw[ak.ok.len];exact(eU.1 gu).1
  have hu:=l7 iO;have hold:=ak.ok.holds i _ _ gu hu;cases hb:β[i]with
  | blk b=>rw[hb]at hold;exact hold.elim
  | no=>rw[hb]at hold;exact hold.elim
  | row _=>rw[hb]at hold;exact hold.elim
  | deep v us=>
    rw[hb]at hold hu;obtain⟨le,ok',vis⟩:=ak.ok.vT gu rfl hu;exact⟨_,le,ak.JX (z:=.sl sh l) gu hu rfl le ok' (fA.data hold le λb hb o z hz=>vis b hb o z hz)⟩
 ·rename_i k sh l hT;have gu:(eff s.gl s.T)[i]?=some (.mp k sh l):=by rw[jJ,←fP,hT];rfl
  have iO:i < β.length:=by rw[ak.ok.len];exact(eU.1 gu).1
  have hu:=l7 iO;have hold:=ak.ok.holds i _ _ gu hu;cases hb:β[i]with
  | blk b=>rw[hb]at hold;exact hold.elim
  | no=>rw[hb]at hold;exact hold.elim
  | deep _ _=>rw[hb]at hold;exact hold.elim
  | row v=>
    rw[hb]at hold hu;obtain⟨le,ok',vs⟩:=ak.ok.vT gu rfl hu;exact⟨_,le,ak.JX (z:=.one (.mp k sh) l) gu hu rfl le ok' (TY hold le λb hb o z hz=>vs b hb o z hz)⟩
 ·exact⟨h,FH.le.refl h,ak⟩
theorem Sat.GZ:∀{l:List Nat}{s:St}{h:FH},Sat N B h0 s h β w a→∃h',h.le h'∧Sat N B h0 (nV s l) h' β w a
 | [],s,h,ak=>⟨h,FH.le.refl h,ak⟩
 | i :: r,s,h,ak=>by
   obtain⟨h1,le1,jA⟩:=ak.ak9 i;obtain⟨h2,iH,bK⟩:=Sat.GZ (l:=r) jA;exact⟨h2,le1.trans iH,bK⟩
theorem BZ.le{h h':FH}{b:Bool} (le:h.le h') (k:BZ P N B h0 h' w a o b K):BZ P N B h0 h w a o b K:=λNx Q next=>k Nx Q λs' h2 β' w' v k' le' ak=>next s' h2 β' w' v k' (le.trans le') ak
theorem Zf{h:FH}{β:List RV}{y:SC}{v:Value} (hy:Zc y=true) (c:eH h β y v):∃ad len cap,v=.slice ad len cap∧len≤cap∧(ad=none→len=0∧cap=0):=by
 unfold Zc at hy;split at hy
 ·rcases c with⟨rfl,_⟩ | ⟨ad,cap,rfl,_⟩ | ⟨b,off,cap,rfl,h1,_⟩
  ·exact⟨none,0,0,rfl,Eb _,λ_=>⟨rfl,rfl⟩⟩
  ·exact⟨some ad,0,cap,rfl,XY _,λh=>by cases h⟩
  ·exact⟨_,_,cap,rfl,h1,λh=>by cases h⟩
 ·split at hy
  ·obtain⟨rfl,_⟩:=c;exact⟨none,0,0,rfl,Eb _,λ_=>⟨rfl,rfl⟩⟩
  ·cases hy
 ·cases hy
theorem Zg(hc:cO P cx.ti) (ak:Sat N B h0 s h β w a) (hg:aO cx.gd h) (hd:lZ N o.dst=true){t:TypeId}{x m:Operand}{lo hi:Option Operand} (ho:o.op=.slice t x lo hi (some m)) (hm:Hq m=true)
 (k:ak3 cx s o.dst t x lo hi K):BZ P N B h0 h w a o true K:=by
 have tr:gv s.gl []=true:=rfl;unfold ak3 at k;split at k
 ·rename_i el hde;have hu:=bQ hc hde (by simp)
  split at k
  ·exact k.elim
  rename_i ie hie;have tie:=hc.get hie;split at k
  ·exact k.elim
  rename_i sh hsh;split at k
  ·rename_i y hy;split at k
   ·rename_i hz;rw[aF,aF,A8,A8]at hz;obtain⟨hz1,hz2,hz3⟩:=hz;have cy:=(aQ ak hg tr hy:dJ h β (.c y) (a.eval x));obtain⟨ad,len,cap,ev,hle,hnil⟩:=Zf hz1 cy.1;obtain⟨km,rfl⟩:=zn hm;obtain⟨hx,rfl⟩:∃x,hi=some x:=by cases hi with | none=>simp[apY]at hz3 | some x=>exact⟨x,rfl⟩
    obtain⟨kh,rfl⟩:=zn (show Hq hx=true from hz3)
    have run:(Instr.sliceAt t (a.eval x) (lo.map a.eval) ((some (Operand.const (.int kh 0))).map a.eval) ((some (Operand.const (.int km 0))).map a.eval)).run P w=.ok (.slice ad 0 0) w:=by
     rw[ev];have e1:(Instr.sliceBounds true len cap (lo.map a.eval) (some (.int kh 0)) (some (.int km 0))).run P w=.ok (0,0,0) w:=by
      cases lo with
      | none=>simp[Instr.sliceBounds,Instr.sliceBound,asIntOf]
      | some z=>
        obtain⟨kz,rfl⟩:=zn (show Hq z=true from hz2)
        simp[Instr.sliceBounds,Instr.sliceBound,asIntOf,Act.eval]
     simp only[Instr.sliceAt,Instr.slice,Sem.run_bind,run_underlying hu,Result.andThen_ok,L8,Act.eval,e1,run_sizeOf tie,Sem.run_pure];simp
    have nw:=lK (P:=P) ak (o:=o) (G:=[]) rfl hd (r:=.row el sh []) (e:=.one (.c (.row (aS s.T)))) (K:=K) k λ_=>
     ⟨.slice ad 0 0,w,.row (.slice ad 0 0),by simp only[execOp,ho,Sem.run_bind];rw[run];rfl,dD _ _,λb hb=>by rw[bF]at hb;cases ad<;>simp[aC]at hb,by
      cases ad with
      | none=>exact .inl ⟨rfl,rfl⟩
      | some ad=>exact .inr (.inl ⟨ad,rfl,rfl⟩),by
      refine⟨⟨_,kR (lM ak) _,rfl⟩,rfl,rfl⟩⟩
    exact nw.weak
   ·exact k.elim
  ·exact k.elim
 ·exact k.elim
theorem pq(ak:Sat N B h0 s h β w a) (hd:lZ N o.dst=true){v:Value}{e:aT} (run:(execOp a.eval o).run P w=.ok (.value v) w) (c:kC h β e v) (k:K (s.put o.dst [] e)):BZ P N B h0 h w a o true K:=by
 intro Nx Q next
 rw[if_pos rfl];exact kQ run (next _ _ _ _ _ k (FH.le.refl h) (ak.put (eG hd) rfl (λ_=>c) λhh=>by cases hh))
theorem QC(hc:cO P cx.ti) (ak:Sat N B h0 s h β w a) (hg:aO cx.gd h) (hd:lZ N o.dst=true){t:TypeId}{x:Operand}{lo hi:Option Operand}{i:Nat} (ho:o.op=.slice t x lo hi none)
 (hx:bU cx s [] x=some (.one (.c (.row i)))) (k:Qw cx s o.dst t i lo hi K):BZ P N B h0 h w a o true K:=by
 have tr:gv s.gl []=true:=rfl;unfold Qw at k;split at k
 ·rename_i el hde;have hu:=bQ hc hde (by simp)
  split at k
  ·exact k.elim
  rename_i ie hie;have tie:=hc.get hie;split at k
  ·exact k.elim
  rename_i hlo;split at k
  ·exact k.elim
  rename_i hh;split at k
  ·rename_i ik n hn;split at k
   ·rename_i el' sh l hT;obtain⟨hb,k⟩:=k;have ch:=(aQ ak hg tr hn:dJ h β (.c (.v (.int ik n))) (a.eval hh));have eh:a.eval hh=.int ik n:=ch.1.1;have cr:=(aQ ak hg tr hx:dJ h β (.c (.row i)) (a.eval x));have hβ:β[i]?=some (.row (a.eval x)):=ak.ok.row_of (bJ hT tr) cr.1;have hold:=ak.ok.holds i _ _ (bJ hT tr) hβ;have hi':i < β.length:=(eU.1 hβ).1;have ala:(lo.map a.eval=none∧(0:Int)=0)∨∃k,lo.map a.eval=some (.int k 0):=by
     cases lo with
     | none=>exact .inl ⟨rfl,rfl⟩
     | some z=>
       obtain⟨kz,rfl⟩:=zn (show Hq z=true from hlo)
       exact .inr ⟨kz,rfl⟩
    have run:∀(ad:Option Addr) (cap:Nat),a.eval x=.slice ad l.length cap→l.length≤cap→(execOp a.eval o).run P w=.ok (.value (.slice ad n.toNat cap)) w:=by
     intro ad cap ev hle;have:=oV (P:=P) (w:=w) (isS:=true) (len:=l.length) (cap:=cap) (lo:=lo.map a.eval) (hi:=some (.int ik n)) (a:=0) (b:=n) ala (.inr ⟨ik,rfl⟩) (by omega) hle
     have r2:(Instr.sliceAt t (a.eval x) (lo.map a.eval) ((some hh).map a.eval) none).run P w=.ok (.slice ad n.toNat cap) w:=by
      rw[ev];simp only[Instr.sliceAt,Instr.slice,Sem.run_bind,run_underlying hu,Result.andThen_ok,L8,eh,this,run_sizeOf tie,Sem.run_pure];cases ad<;>simp[Addr.add]
     simp only[execOp,ho,Sem.run_bind,aeH];rw[r2];rfl
    have fin:∀(v':Value),(execOp a.eval o).run P w=.ok (.value v') w→(∀b,aC v'=some b→aC (a.eval x)=some b)→Holds h (β.set i (.row v')) w (.row el' sh (l.take n.toNat)) (.row v')→dO v'→BZ P N B h0 h w a o true K:=by
     intro v' r hv hold' h1;intro Nx Q next
     rw[if_pos rfl];refine kQ r (next _ _ _ _ _ k (FH.le.refl h) ((Zb ak hT rfl hβ (dD _ _) (v:=.row v') (λb hb=>.inl (hv b hb)) (hold:=hold')).put (eG hd) rfl (λ_=>⟨?_,h1⟩) λhh=>by cases hh))
     refine⟨.row v',?_,rfl⟩;rw[nP hi']
    rcases hold with⟨ev,hl⟩ | ⟨ra,ev,hl⟩ | ⟨g,cap,cur,ev,q1,q2,q3,q4,q5⟩
    ·have hn0:n.toNat=0:=by rw[hl]at hb;simp at hb;omega
     refine fin _ (run none 0 (by rw[ev,hl];rfl) (by rw[hl];exact Eb _)) (λb hb=>by simp[aC]at hb) (.inl ⟨by rw[hn0],by rw[hl];simp⟩) ⟨rfl,rfl⟩
    ·have hn0:n.toNat=0:=by rw[hl]at hb;simp at hb;omega
     refine fin _ (run (some ra) 0 (by rw[ev,hl];rfl) (by rw[hl];exact Eb _)) (λb hb=>by simp[aC]at hb) (.inr (.inl ⟨ra,by rw[hn0],by rw[hl];simp⟩)) ⟨rfl,rfl⟩
    ·have hlen:(l.take n.toNat).length=n.toNat:=by rw[ku];omega
     refine fin _ (run (some ⟨g,0,none⟩) cap ev q2) (λb hb=>by rw[ev,bC q3.1];rw[bC q3.1]at hb;exact hb) (.inr (.inr ⟨g,cap,cur,by rw[hlen],q1,by rw[hlen];omega,q3,q4,?_⟩)) ⟨rfl,rfl⟩
     have:=gy.uQ (λ_ _=>Rd.size sh) q5 (a:=0) (b:=n.toNat) (XY _) (by omega)
     simp only[P5,X7]at this;rw[hlen];rw[List.take_take,AB (sH _ (by omega))]at this
     exact this
   ·exact k.elim
  ·exact k.elim
 ·exact k.elim
theorem Zh(hc:cO P cx.ti) (ak:Sat N B h0 s h β w a) (hg:aO cx.gd h) (hd:lZ N o.dst=true){t:TypeId}{x:Operand}{lo hi:Option Operand} (ho:o.op=.slice t x lo hi none)
 (hx:bU cx s [] x=some (.one (.c (.v (.slice none 0 0))))) (k:ak4 cx s o.dst t lo hi K):BZ P N B h0 h w a o true K:=by
 have tr:gv s.gl []=true:=rfl;unfold ak4 at k;split at k
 ·rename_i el hde;have hu:=bQ hc hde (by simp)
  split at k
  ·exact k.elim
  rename_i ie hie;have tie:=hc.get hie;split at k
  ·exact k.elim
  rename_i p hp;split at k
  ·exact k.elim
  rename_i q hq;obtain⟨hb,k⟩:=k;have Ij:=(aQ ak hg tr hx:dJ h β (.c (.v (.slice none 0 0))) (a.eval x));have ev:a.eval x=.slice none 0 0:=Ij.1.1;have bnd:∀{o:Option Operand}{n:Int},Hl cx s [] o 0=some n→(o.map a.eval=none∧n=0)∨∃k,o.map a.eval=some (.int k n):=by
   intro o n e;rcases TF ak hg tr e with⟨rfl,rfl⟩ | ⟨x,ik,rfl,e'⟩
   ·exact .inl ⟨rfl,rfl⟩
   ·exact .inr ⟨ik,by simp[e']⟩
  have:=oV (P:=P) (w:=w) (isS:=true) (len:=0) (cap:=0) (bnd hp) (bnd hq) (by simpa using hb) (Eb _)
  refine pq ak hd (v:=.slice none 0 0) (e:=.one (.c (.v (.slice none 0 0)))) ?_ ⟨⟨rfl,rfl,rfl⟩,rfl,rfl⟩ k;have h1:p.toNat=0:=by omega
  have h2:q.toNat=0:=by omega
  have r2:(Instr.sliceAt t (a.eval x) (lo.map a.eval) (hi.map a.eval) none).run P w=.ok (.slice none 0 0) w:=by
   rw[ev];simp only[Instr.sliceAt,Instr.slice,Sem.run_bind,run_underlying hu,Result.andThen_ok,this,run_sizeOf tie,Sem.run_pure,h1,h2];simp
  simp only[execOp,ho,Sem.run_bind,aeH];rw[r2];rfl
 ·exact k.elim
theorem Zi(hc:cO P cx.ti) (ak:Sat N B h0 s h β w a) (hg:aO cx.gd h) (hd:lZ N o.dst=true){t:TypeId}{x:Operand}{c:Call} (ho:o.op=.call c) (dA:c.callee=.builtin .cap) (ha:c.args=#[x]) (ht:c.argTypes=#[t])
 (k:ak5 cx s o.dst t x K):BZ P N B h0 h w a o true K:=by
 have tr:gv s.gl []=true:=rfl;unfold ak5 at k;split at k
 ·rename_i el hde;have hu:=bQ hc hde (by simp)
  split at k
  ·rename_i hx;have Ij:=(aQ ak hg tr hx:dJ h β (.c (.v (.slice none 0 0))) (a.eval x));have ev:a.eval x=.slice none 0 0:=Ij.1.1;refine pq ak hd (v:=goInt 0) (e:=vI .i64 0) ?_ ⟨⟨rfl,bT _ _⟩,bT _ _⟩ k;simp[execOp,ho,resolve,dA,ha,ht,invoke,builtin,ev,Builtin.cap_,run_underlying hu]
  ·exact k.elim
 ·exact k.elim
theorem Zj(ak:Sat N B h0 s h β w a) (hg:aO cx.gd h) (hd:lZ N o.dst=true){x y:Operand}{c:Call} (ho:o.op=.call c) (dA:c.callee=.builtin .max) (ha:c.args=#[x,y])
 (k:Qx cx s o.dst x y K):BZ P N B h0 h w a o true K:=by
 have tr:gv s.gl []=true:=rfl;unfold Qx at k;split at k
 ·rename_i n hx;have ex:a.eval x=.int .i64 n:=(aQ ak hg tr hx:dJ h β (.c (.v (.int .i64 n))) (a.eval x)).1.1;split at k
  ·rename_i m hy;have ey:a.eval y=.int .i64 m:=(aQ ak hg tr hy:dJ h β (.c (.v (.int .i64 m))) (a.eval y)).1.1;refine pq ak hd (v:=.int .i64 (dX n m)) (e:=vI .i64 (dX n m)) ?_ ⟨⟨rfl,bT _ _⟩,bT _ _⟩ k;simp[execOp,ho,resolve,dA,ha,invoke,builtin,ex,ey,Builtin.max_,Builtin.max2,dX]
  ·exact k.elim
 ·exact k.elim
theorem WV{P:Program}{w:World}{t el:TypeId} (hu:P.underlying t=some (.slice el)) (ad:Option Addr) (n c:Nat) (op:BinOp) (eq:Bool) (he:JR op=some eq) (x y:Operand):
 (eqGuard op t x y (.slice ad n c) (.slice none 0 0)).run P w=.ok () w∧(binOp op t (.slice ad n c) (.slice none 0 0)).run P w=.ok (.bool (cnd eq ad.isNone (!ad.isNone))) w:=by
 refine⟨sQ P op t x y (by rfl) w,?_⟩
 have key:∀d,(Op.equalIn (d+1) t (.slice ad n c) (.slice none 0 0)).run P w=.ok ad.isNone w:=by
  intro d;cases ad<;>simp[Op.equalIn,run_underlying hu]
 have k2:=key 9999;have hq2:Op.equal t (.slice ad n c) (.slice none 0 0)=Op.equalIn (9999+1) t (.slice ad n c) (.slice none 0 0):=rfl;unfold JR at he;split at he
 ·cases he;have e:(binOp .eql t (.slice ad n c) (.slice none 0 0)).run P w=((Op.equal t (.slice ad n c) (.slice none 0 0)).run P w).andThen λb w=>.ok (.bool b) w:=by
   simp only[binOp];generalize Op.equal t (.slice ad n c) (.slice none 0 0)=q;simp
  rw[e,hq2,k2];rfl
 ·cases he;have e:(binOp .neq t (.slice ad n c) (.slice none 0 0)).run P w=((Op.equal t (.slice ad n c) (.slice none 0 0)).run P w).andThen λb w=>.ok (.bool (!b)) w:=by
   simp only[binOp];generalize Op.equal t (.slice ad n c) (.slice none 0 0)=q;simp
  rw[e,hq2,k2];rfl
 ·cases he
theorem QD(hc:cO P cx.ti) (ak:Sat N B h0 s h β w a) (hg:aO cx.gd h) (hd:lZ N o.dst=true){t t':TypeId}{x y:Operand}{op:BinOp}{eq:Bool} (ho:o.op=.binOp op t x y t') (he:JR op=some eq)
 (hy:bU cx s [] y=some (.one (.c (.v (.slice none 0 0))))){z:SC} (hx:bU cx s [] x=some (.one (.c z))) (hz:Qz z=true) (ht:Zd cx t=true) (k:Qy s o.dst eq z K):BZ P N B h0 h w a o true K:=by
 have tr:gv s.gl []=true:=rfl;obtain⟨el,hu⟩:∃el,P.underlying t=some (.slice el):=by
  unfold Zd at ht;split at ht
  ·rename_i el hde;exact⟨el,bQ hc hde (by simp)⟩
  ·cases ht
 have cy:=(aQ ak hg tr hy:dJ h β (.c (.v (.slice none 0 0))) (a.eval y));have ey:a.eval y=.slice none 0 0:=cy.1.1;have cz:=(aQ ak hg tr hx:dJ h β (.c z) (a.eval x));have exec:∀ad n c,a.eval x=.slice ad n c→(execOp a.eval o).run P w=.ok (.value (.bool (cnd eq ad.isNone (!ad.isNone)))) w:=by
  intro ad n c e;obtain⟨g1,g2⟩:=WV (P:=P) (w:=w) hu ad n c op eq he x y;simp only[execOp,ho,Sem.run_bind,e,ey,g1,g2,Result.andThen_ok,Sem.run_pure]
 have fin:∀ad n c (b:Bool),a.eval x=.slice ad n c→K (s.put o.dst [] (vB (cnd eq ad.isNone (!ad.isNone))))→BZ P N B h0 h w a o true K:=λad n c b e k=>
  pq ak hd (e:=vB (cnd eq ad.isNone (!ad.isNone))) (exec ad n c e) ⟨⟨rfl,dF _⟩,dF _⟩ k
 unfold Qy at k;split at k
 ·rename_i v;unfold Qz at hz;have ev:a.eval x=.slice none 0 0:=by
   simp only at hz;split at hz
   ·exact cz.1.1
   ·cases hz
  refine fin none 0 0 true ev ?_;cases eq<;>exact k
 ·rename_i sh l;rcases cz.1 with⟨e,hl⟩ | ⟨ad,cap,e,hl,_⟩ | ⟨b,off,cap,e,_⟩
  ·exact fin _ _ _ true e (k true λ_=>hl)
  ·exact fin _ _ _ true e (k false λhh=>by cases hh)
  ·exact fin _ _ _ true e (k false λhh=>by cases hh)
 ·rename_i i;split at k
  ·rename_i t2 sh l hT;have hβ:β[i]?=some (.row (a.eval x)):=ak.ok.row_of (bJ hT tr) cz.1;rcases ak.ok.holds i _ _ (bJ hT tr) hβ with⟨e,hl⟩ | ⟨ra,e,hl⟩ | ⟨g,cap,cur,e,_⟩
   ·exact fin _ _ _ true e (k true λ_=>hl)
   ·exact fin _ _ _ true e (k false λhh=>by cases hh)
   ·exact fin _ _ _ true e (k false λhh=>by cases hh)
  ·exact k.elim
 ·exact k.elim
theorem Zk{P:Program}{w:World}{t t' ty el:TypeId}{i:TypeInfo}{z:Value} (ht:P.underlying t=some (.slice el)) (ht':P.underlying t'=some (.int .i64)) (hi:P.info? el=some i) (hz:i.zero=some z) (hs:1≤i.size) (n:Nat) (h0:0 < n) (h48:n * i.bytes≤140737488355328) (hb:1≤i.bytes):
 (Builtin.append_ #[t,t'] ty #[.slice none 0 0,.int .i64 n]).run P w =
  .ok (.slice (some ⟨w.heap.size,0,none⟩) n (grownCap w n 0 el)) (w.drew.alloc (.cells (Builtin.zeroCells z.cells n++Builtin.zeroCells z.cells (grownCap w n 0 el - n)) el)):=by
 have hn63:n≤140737488355328:=vO (A76 _ hb) h48;have hn:n≠0:=by omega
 have hw:IntKind.i64.wrap (n:Int)=n:=by simp[IntKind.wrap,IntKind.bits,IntKind.signed];omega
 have hneg:¬((n:Int) < 0):=by omega
 have h48i:¬((281474976710656:Int) < (n:Int) * (i.bytes:Int)):=by
  have:((n * i.bytes:Nat):Int)≤140737488355328:=by omega
  rw[Int.natCast_mul]at this;omega
 have h63':¬(9223372036854775807 < (n:Int)):=by omega
 have h48':¬(281474976710656 < Builtin.nextslicecap n 0 * i.bytes):=by rw[nextslicecap_zero h0];omega
 have hns:¬(n * i.size=0):=by
  intro hh;rcases Nat.mul_eq_zero.1 hh with h | h<;>omega
 have asF:¬(i.size=0):=by omega
 simp[Builtin.append_,run_underlying ht,run_underlying ht',sizeOf,typeInfo,zeroValue,hi,hz,Builtin.lenOf,hn,hw,hneg,h48i,h63',h48',Question.forced,run_firstCells_none,newRow,grownCap,asInt,asIntOf,hns,asF]
theorem WW(hc:cO P cx.ti) (ak:Sat N B h0 s h β w a) (hg:aO cx.gd h) (hd:lZ N o.dst=true){t t':TypeId}{x y:Operand}{c:Call} (ho:o.op=.call c) (dA:c.callee=.builtin .append) (ha:c.args=#[x,y]) (ht:c.argTypes=#[t,t'])
 (hx:bU cx s [] x=some (.one (.c (.v (.slice none 0 0))))) (k:Ze cx s o.dst t t' y K):BZ P N B h0 h w a o true K:=by
 have tr:gv s.gl []=true:=rfl;unfold Ze at k;split at k
 ·rename_i hdi;have hui:=bQ hc hdi (by simp)
  split at k
  ·rename_i el hde;have hu:=bQ hc hde (by simp)
   split at k
   ·exact k.elim
   rename_i ie hie;have tie:=hc.get hie;split at k
   ·exact k.elim
   rename_i sh hsh;split at k
   ·rename_i hz;rw[aF,aF,A8,A8]at hz;have hz1:sh.size=ie.size:=gK hz.1;have hz2:1≤ie.bytes:=qP hz.2.1;have hz3:1≤ie.size:=qP hz.2.2;split at k
    ·rename_i n hn;obtain⟨⟨hn0,hroom⟩,k⟩:=k;have ex:a.eval x=.slice none 0 0:=(aQ ak hg tr hx:dJ h β (.c (.v (.slice none 0 0))) (a.eval x)).1.1;have ey:a.eval y=.int .i64 n:=(aQ ak hg tr hn:dJ h β (.c (.v (.int .i64 n))) (a.eval y)).1.1;obtain⟨inf,z,i1,i2,i3,i4,i5⟩:=tie.info;obtain⟨m,rfl⟩:∃m:Nat,n=m:=⟨n.toNat,by omega⟩
     rw[Ya]at hroom k;unfold jS at hroom;refine gI.weak (lK (P:=P) ak (o:=o) (G:=[]) rfl hd (r:=.row el sh (List.replicate m (qZ sh))) (e:=.one (.c (.row (aS s.T)))) (K:=K) k λ_=>?_)
     by_cases hm:m=0
     ·subst hm;refine⟨.slice none 0 0,w,.row (.slice none 0 0),?_,dD _ _,λb hb=>by rw[bF]at hb;simp[aC]at hb,.inl ⟨rfl,rfl⟩,⟨_,kR (lM ak) _,rfl⟩,rfl,rfl⟩
      simp[execOp,ho,resolve,dA,ha,ht,invoke,builtin,ex,ey,Builtin.append_,run_underlying hu,run_underlying hui,sizeOf,typeInfo,i1,asInt,asIntOf,IntKind.wrap,IntKind.bits,IntKind.signed]
     ·have r:=Zk (P:=P) (w:=w) (ty:=o.type) hu hui i1 i4 (by omega) m (by omega) (by rw[i3];exact hroom) (by omega)
      have hge:=grownCap_ge w m 0 el;have hle:m≤140737488355328:=vO (A76 _ hz2) hroom;refine⟨.slice (some ⟨w.heap.size,0,none⟩) m (grownCap w m 0 el),w.drew.alloc (.cells (Builtin.zeroCells z.cells m++Builtin.zeroCells z.cells (grownCap w m 0 el - m)) el),.row (.slice (some ⟨w.heap.size,0,none⟩) m (grownCap w m 0 el)),?_,⟨⟨rfl,rfl,rfl,by simp,λk hk _=>(World.grownBy_alloc w.drew _ none).block k hk (by simp)⟩,A98 _⟩,?_,?_,⟨_,kR (lM ak) _,rfl⟩,rfl,rfl⟩
      ·simp only[execOp,ho,resolve,dA,ha,ht,invoke,builtin,Sem.run_bind,Sem.run_pure,Result.andThen_ok];simp[ex,ey,r]
      ·intro b hb;rw[bF]at hb;simp[aC]at hb;obtain⟨_,rfl⟩:=hb;simp
      ·have YU:z.cells.size=ie.size:=by rw[i5];simpa using tie.qc
       have hzz:∀q,Builtin.zeroCells z.cells q=(iP q ie.zero).toArray:=by
        intro q;unfold Builtin.zeroCells;rw[i5];have:=rD (zero:=ie.zero) (n:=q) (by rw[tie.qc];omega)
        simpa using this
       refine .inr (.inr ⟨w.heap.size,_,_,by rw[wM],heap_alloc_new w.drew _,by rw[wM];omega,⟨by omega,grownCap_le_maxLen w m 0 el (by simp only[maxLen];omega)⟩,?_,?_⟩)
       ·simp only[A82,size_zeroCells,YU,hz1,←Td];congr 1;omega
       ·rw[wM,hzz,hzz];simp only[A95,List.toList_toArray];rw[VN (by rw[uX,tie.qc,hz1];exact Eb _),hz1,←tie.qc,AZ (Eb _)]
        exact JK (y5 (tie.YC sh hsh).1) _
    ·exact k.elim
   ·exact k.elim
  ·exact k.elim
 ·exact k.elim
theorem Ua{l:List Value}:∀{m j:Nat},j < m→((iP m l).drop (j * l.length)).take l.length=l
 | m+1,0,_=>by simp[iP,fV]
 | m+1,j+1,h=>by
   simp only[iP,fV];rw[PU,Wi,X8];exact Ua (by omega)
theorem QE(hc:cO P cx.ti) (ak:Sat N B h0 s h β w a) (hg:aO cx.gd h) (hd:lZ N o.dst=true){t:TypeId}{x y:Operand} (ho:o.op=.makeSlice t x y){p:Prop}
 (hp:QB cx s o.dst t x y K=some p) (k:p):BZ P N B h0 h w a o true K:=by
 have tr:gv s.gl []=true:=rfl;unfold QB at hp;split at hp
 ·rename_i el hde;have hu:=bQ hc hde (by simp)
  split at hp
  ·cases hp
  rename_i ie hie;have tie:=hc.get hie;split at hp
  ·rename_i e hsh;split at hp
   ·rename_i tt hte;split at hp
    ·rename_i hz;rw[aF,aF,A8,A8]at hz;have hz1:1=ie.size:=gK hz.1;have hz2:1≤ie.bytes:=qP hz.2.1;have hz3:ie.zero=[nT]:=WT hz.2.2;split at hp
     ·rename_i ik n hn;split at hp
      ·rename_i ik' c hcp;cases hp;refine(lK (G:=[]) ak rfl hd k.2 λhgv=>?_).weak
       obtain⟨s1,s2,s3⟩:=k.1;have e1:a.eval x=.int ik n:=(aQ ak hg hgv hn).1.1;have e2:a.eval y=.int ik' c:=(aQ ak hg hgv hcp).1.1;obtain⟨inf,z,i1,i2,i3,i4,i5⟩:=tie.info;unfold jS at s3;have hcb:c.toNat≤140737488355328:=vO (A76 _ hz2) s3;have hb:(inf.bytes:Int) * c≤281474976710656:=by
        rw[i3];have:((c.toNat * ie.bytes:Nat):Int)≤140737488355328:=by omega
        rw[Int.natCast_mul,Int.toNat_of_nonneg (by omega),Int.mul_comm]at this
        omega
       have r:=run_make (P:=P) w t el inf z hu i1 i4 ik ik' n c s1 s2 hb (by omega)
       have YV:madeCells z.cells (c.toNat * inf.size)=(iP c.toNat ie.zero).toArray:=by
        unfold madeCells;rw[i5,i2,←tie.qc];exact rD (by rw[tie.qc];omega)
       rw[YV]at r;have hbn:∀{b:Nat},¬aC nT=some b:=by intro b hb';simp[nT,aC]at hb'
       refine⟨.slice (some ⟨w.heap.size,0,none⟩) n.toNat c.toNat,w.alloc (.cells (iP c.toNat ie.zero).toArray el),.deep (.slice (some ⟨w.heap.size,0,none⟩) n.toNat c.toNat) (λ_=>nT),?_,oQ _ _ _,?_,?_,?_⟩
       ·simp only[execOp,ho,e1,e2,Sem.run_bind,r,Result.andThen_ok,Sem.run_pure]
       ·intro b hb';rw[bg]at hb';rcases hb' with hb' | ⟨j,hb'⟩
        ·simp[aC]at hb';obtain⟨_,rfl⟩:=hb';simp
        ·exact absurd hb' hbn
       ·refine⟨λj k b hb'=>absurd hb' hbn,λj b hb'=>absurd hb' hbn,?_⟩
        by_cases hc0:c.toNat=0
        ·have hn0:n.toNat=0:=by omega
         exact .inr (.inl ⟨⟨w.heap.size,0,none⟩,by rw[hc0,hn0],by rw[hn0];rfl⟩)
        refine .inr (.inr ⟨w.heap.size,c.toNat,_,by rw[wM],nD _ _,by rw[wM];omega,⟨by omega,by simp only[maxLen];omega⟩,?_,λj=>hbn,λj dd hj=>?_⟩)
        ·simp only[oI,uX,hz3];rfl
        ·have hj':=(eU.1 hj).1;rw[wM]at hj';have ed:dd=[]:=by
          have:=iF hj;exact List.eq_of_mem_replicate this
         subst ed;have ecs:((iP c.toNat ie.zero).drop (j * 1)).take 1=[nT]:=by
          have:=Ua (l:=ie.zero) (m:=c.toNat) (j:=j) (by omega)
          rw[hz3]at this ⊢;exact this
         show AL h _ (.sl e) tt e 0 true false nT (((iP c.toNat ie.zero).drop (j * 1)).take 1) [];rw[ecs];exact⟨[],[],⟨nT,rfl,.inl ⟨rfl,rfl⟩⟩,⟨rfl,rfl,rfl⟩,rfl,.inl ⟨rfl,rfl⟩⟩
       ·exact⟨⟨_,kR (lM ak) _,rfl⟩,rfl,rfl⟩
      ·cases hp
     ·cases hp
    ·cases hp
   ·cases hp
  ·cases hp
 ·cases hp
theorem OK.Zl{T:List aj} (ok:OK B h0 T h β w) (v:RV):OK B h0 (T++[.gone]) h (β++[v]) w where
 below:=ok.below
 dr:=ok.dr
 len:=by simp[ok.len]
 holds:=by
  intro i r' v' e e';rcases aG e with⟨hi,e⟩ | ⟨hi,rfl⟩
  ·rcases aG e' with⟨_,e'⟩ | ⟨hj,_⟩
   ·exact(ok.holds i r' v' e e').move (FH.le.refl h) (Ext.append _ _) λhl b hb=>rfl
   ·have:=ok.len;omega
  ·cases v'<;>trivial
 own:=by
  intro i r' v' b e hl e' hb;rcases aG e with⟨hi,e⟩ | ⟨hi,rfl⟩
  ·rcases aG e' with⟨_,e'⟩ | ⟨hj,_⟩
   ·exact ok.own i r' v' b e hl e' hb
   ·have:=ok.len;omega
  ·cases hl
 inj:=by
  intro i j r1 r2 u v' b ei hl1 ej hl2 eu ev hu hv';have L:=ok.len;rcases aG ei with⟨hi,ei⟩ | ⟨hi,rfl⟩
  ·rcases aG ej with⟨hj,ej⟩ | ⟨hj,rfl⟩
   ·rcases aG eu with⟨_,eu⟩ | ⟨hi',_⟩
    ·rcases aG ev with⟨_,ev⟩ | ⟨hj',_⟩
     ·exact ok.inj i j r1 r2 u v' b ei hl1 ej hl2 eu ev hu hv'
     ·omega
    ·omega
   ·cases hl2
  ·cases hl1
 hle:=ok.hle
 hw:=ok.hw
 hg:=ok.hg
 kn:=ok.kn
theorem wW{i:Nat}{z:SC}{g g':Gd×aj}:∀{T:List (Gd×aj)},dK (sU i z (snoc T g)) (aS T) g'=snoc (sU i z T) g'
 | []=>rfl
 | x :: T=>by
   show dK (_ :: sU i z (snoc T g)) (aS T+1) g'=_ :: snoc (sU i z T) g';show _ :: dK (sU i z (snoc T g)) (aS T) g'=_;rw[wW]
theorem Zm(hc:cO P cx.ti) (ak:Sat N B h0 s h β w a) (hg:aO cx.gd h) (hd:lZ N o.dst=true){t:TypeId}{x m:Operand}{lo hi:Option Operand} (ho:o.op=.slice t x lo hi (some m))
 (k:ak6 cx s o.dst t x lo hi m K):BZ P N B h0 h w a o true K:=by
 have tr:gv s.gl []=true:=rfl;unfold ak6 at k;split at k
 ·rename_i el hde;have hu:=bQ hc hde (by simp)
  split at k
  ·exact k.elim
  rename_i ie hie;have tie:=hc.get hie;split at k
  ·exact k.elim
  rename_i hlo;split at k
  ·exact k.elim
  rename_i hh;split at k
  ·rename_i ik n hn;split at k
   ·rename_i ik' n' hn';split at k
    ·rename_i sh l hx;split at k
     ·rename_i hz;have hz:ie.size=sh.size:=gK hz;obtain⟨⟨b1,b2,b3⟩,k⟩:=k;subst b3;have eh:a.eval hh=.int ik n:=(aQ ak hg tr hn:dJ h β (.c (.v (.int ik n))) (a.eval hh)).1.1;have em:a.eval m=.int ik' n:=(aQ ak hg tr hn':dJ h β (.c (.v (.int ik' n))) (a.eval m)).1.1;have Ij:=(aQ ak hg tr hx:dJ h β (.c (.sl sh l)) (a.eval x));have ala:lo.map a.eval=none∨∃k,lo.map a.eval=some (.int k 0):=by
       cases lo with
       | none=>exact .inl rfl
       | some z=>
         obtain⟨kz,rfl⟩:=zn (show Hq z=true from hlo)
         exact .inr ⟨kz,rfl⟩
      have run:∀(ad:Option Addr) (len cap:Nat),a.eval x=.slice ad len cap→n≤len→len≤cap→(execOp a.eval o).run P w=.ok (.value (.slice ad n.toNat n.toNat)) w:=by
       intro ad len cap ev h1 h2;have hb:(0:Int)≤n∧n≤cap:=by omega
       have asG:(Instr.sliceBounds true len cap (lo.map a.eval) (some (.int ik n)) (some (.int ik' n))).run P w=.ok (0,n.toNat,n.toNat) w:=by
        unfold Instr.sliceBounds;rcases ala with e | ⟨k,e⟩
        ·rw[e];simp[Instr.sliceBound,asIntOf,hb];omega
        ·rw[e];simp[Instr.sliceBound,asIntOf,hb];omega
       have r2:(Instr.sliceAt t (a.eval x) (lo.map a.eval) ((some hh).map a.eval) ((some m).map a.eval)).run P w=.ok (.slice ad n.toNat n.toNat) w:=by
        rw[ev];simp only[Instr.sliceAt,Instr.slice,Sem.run_bind,run_underlying hu,Result.andThen_ok,L8,eh,em,asG,run_sizeOf tie,Sem.run_pure];cases ad<;>simp[Addr.add]
       simp only[execOp,ho,Sem.run_bind];rw[r2];rfl
      rcases Ij.1 with⟨ev,hl⟩ | ⟨ra,cap,ev,hl,hc'⟩ | ⟨b,off,cap,ev,q1,q2,cs,rd,at_⟩
      ·have hn0:n.toNat=0:=by rw[hl]at b2;simp at b2;omega
       refine pq ak hd (e:=.one (.c (.abs (.Wp sh (l.take n.toNat))))) (run none 0 0 ev (by rw[hl]at b2;simpa using b2) (Eb _)) ⟨⟨?_,none,_,rfl⟩,rfl,rfl⟩ k
       rw[hn0,hl];exact .inl ⟨rfl,rfl⟩
      ·have hn0:n.toNat=0:=by rw[hl]at b2;simp at b2;omega
       refine pq ak hd (e:=.one (.c (.abs (.Wp sh (l.take n.toNat))))) (run (some ra) 0 cap ev (by rw[hl]at b2;simpa using b2) (XY _)) ⟨⟨?_,some ra,_,rfl⟩,rfl,rfl⟩ k
       rw[hn0,hl];exact .inr (.inl ⟨ra,0,rfl,rfl,XY _⟩)
      ·have hlen:(l.take n.toNat).length=n.toNat:=by rw[ku];omega
       refine pq ak hd (e:=.one (.c (.abs (.Wp sh (l.take n.toNat))))) (run (some ⟨b,off,none⟩) l.length cap ev b2 q1) ⟨⟨.inr (.inr ⟨b,off,n.toNat,by rw[hlen],by rw[hlen];exact Eb _,by omega,cs.take (n.toNat * sh.size),?_,?_⟩),_,_,rfl⟩,rfl,rfl⟩ k
       ·have:=gy.uQ (λ_ _=>Rd.size sh) rd (a:=0) (b:=n.toNat) (XY _) (by omega)
        simpa using this
       ·have:=at_.shift (n.toNat * sh.size) 0;simpa using this
     ·exact k.elim
    ·exact k.elim
   ·exact k.elim
  ·exact k.elim
 ·exact k.elim
theorem ES{t ty el:TypeId}{i:TI}{sh:Sh}{v sv:Value}{l l2:List sh.den} (hu:P.underlying t=some (.slice el)) (k:aP P el i) (hs:sh.size=i.size)
 (hb1:1≤i.bytes) (hs1:1≤i.size) (row:qR h (Rd h sh) v l∧∃a n,v=.slice a n n) (src:YT h w sh sv l2) (room:jS (l.length+l2.length) i.bytes)
 (hw:∀b o u,h b o=some u→vis w b o=some u):
 ∃v' w',(Builtin.append_ #[t,t] ty #[v,sv]).run P w=.ok v' w'∧((l2=[]∧v'=v∧w'=w)∨(Gb w w' none∧(∀b,aC v'=some b→w.heap.size≤b∧b < w'.heap.size)∧TK h w' el sh v' (l++l2))):=by
 obtain⟨inf,z,i1,i2,i3,i4,i5⟩:=k.info;unfold jS at room;obtain⟨row,va,vn,ve⟩:=row;have hn:l.length+l2.length≤140737488355328:=vO (A76 _ hb1) room;have YU:z.cells.size=i.size:=by rw[i5];simpa using k.qc
 rcases src with⟨rfl,rfl⟩ | ⟨sa,sc,rfl,rfl⟩ | ⟨b,o,c,cs,rfl,rd,at_⟩
 ·refine⟨v,w,?_,.inl ⟨rfl,rfl,rfl⟩⟩;rcases row with⟨rfl,rfl⟩ | ⟨_,cp,rfl,rfl,_⟩ | ⟨g,off,cap,rfl,q1,q2,q3⟩
  ·simp[Builtin.append_,run_underlying hu,sizeOf,typeInfo,i1,Builtin.lenOf,Builtin.firstCells]
  ·simp[Builtin.append_,run_underlying hu,sizeOf,typeInfo,i1,Builtin.lenOf,Builtin.firstCells,storeCells]
  ·simp[Builtin.append_,run_underlying hu,sizeOf,typeInfo,i1,Builtin.lenOf,Builtin.firstCells,q1,storeCells]
 ·refine⟨v,w,?_,.inl ⟨rfl,rfl,rfl⟩⟩;rcases row with⟨rfl,rfl⟩ | ⟨_,cp,rfl,rfl,_⟩ | ⟨g,off,cap,rfl,q1,q2,q3⟩
  ·simp[Builtin.append_,run_underlying hu,sizeOf,typeInfo,i1,Builtin.lenOf,Builtin.firstCells,loadCells,loadCellsFrom]
  ·simp[Builtin.append_,run_underlying hu,sizeOf,typeInfo,i1,Builtin.lenOf,Builtin.firstCells,storeCells,loadCells,loadCellsFrom]
  ·simp[Builtin.append_,run_underlying hu,sizeOf,typeInfo,i1,Builtin.lenOf,Builtin.firstCells,q1,storeCells,loadCells,loadCellsFrom]
 ·have hcs:cs.length=l2.length * inf.size:=by rw[gy.size (λ_ _=>Rd.size sh) rd,i2,hs]
  have hnews:∀j u,cs[j]?=some u→w.cell? ((⟨b,o,none⟩:Addr).add j)=some u:=λj u e=>by rw[add_lit];exact at_ j u e
  by_cases hm:l2.length=0
  ·have:l2=[]:=LY hm;subst this;refine⟨v,w,?_,.inl ⟨rfl,rfl,rfl⟩⟩;rcases row with⟨rfl,rfl⟩ | ⟨_,cp,rfl,rfl,_⟩ | ⟨g,off,cap,rfl,q1,q2,q3⟩
   ·simp[Builtin.append_,run_underlying hu,sizeOf,typeInfo,i1,Builtin.lenOf,Builtin.firstCells,loadCells,loadCellsFrom]
   ·simp[Builtin.append_,run_underlying hu,sizeOf,typeInfo,i1,Builtin.lenOf,Builtin.firstCells,storeCells,loadCells,loadCellsFrom]
   ·simp[Builtin.append_,run_underlying hu,sizeOf,typeInfo,i1,Builtin.lenOf,Builtin.firstCells,q1,storeCells,loadCells,loadCellsFrom]
  ·rcases row with⟨rfl,rfl⟩ | ⟨ra,cp,rfl,rfl,hcp⟩ | ⟨g,off,cap,rfl,q1,q2,c0,q3,q4⟩
   ·have r:=run_append_nil (P:=P) w t ty el inf z hu i1 i4 ⟨b,o,none⟩ l2.length c cs hcs hnews (by omega) (by simp at hn;omega) (by rw[i3];simp at room;omega)
    have hge:=grownCap_ge w l2.length 0 el;refine⟨_,_,r,.inr ⟨⟨⟨rfl,rfl,rfl,by simp,λk hk _=>(World.grownBy_alloc w.drew _ none).block k hk (by simp)⟩,A98 _⟩,?_,?_⟩⟩
    ·intro b' hb';simp[aC]at hb';obtain⟨_,rfl⟩:=hb';simp
    ·refine .inr (.inr ⟨w.heap.size,_,_,rfl,heap_alloc_new w.drew _,by simpa using hge,⟨by omega,grownCap_le_maxLen w l2.length 0 el (by simp only[maxLen];simp at hn;omega)⟩,?_,?_⟩)
     ·simp only[A82,oI,size_zeroCells,YU,hcs,i2,hs,←Td]
      congr 1;omega
     ·simp only[A95,L9];rw[show l2.length * sh.size=cs.length by rw[hcs,i2,hs],A93]
      exact rd
   ·have asH:cp=0:=by cases ve;rfl
    subst asH;have r:=run_append_grow (P:=P) w t ty el inf z hu i1 i4 ra 0 0 [] (by simp) (λj u e=>by simp at e) ⟨b,o,none⟩ l2.length c cs hcs hnews (by omega) (by simp at hn;omega) (growslice_fits (by omega) (by rw[i3];simpa using room))
    rw[XW]at r;have hge:=grownCap_ge w l2.length 0 el;refine⟨_,_,r,.inr ⟨⟨⟨rfl,rfl,rfl,by simp,λk hk _=>(World.grownBy_alloc w.drew _ none).block k hk (by simp)⟩,A98 _⟩,?_,?_⟩⟩
    ·intro b' hb';simp[aC]at hb';obtain⟨_,rfl⟩:=hb';simp
    ·refine .inr (.inr ⟨w.heap.size,_,_,rfl,heap_alloc_new w.drew _,by simpa using hge,⟨by omega,grownCap_le_maxLen w l2.length 0 el (by simp only[maxLen];simp at hn;omega)⟩,?_,?_⟩)
     ·simp only[A82,oI,size_zeroCells,YU,L9,hcs,i2,hs,XW,LZ,←Td]
      congr 1;omega
     ·simp only[A95,L9];rw[show l2.length * sh.size=cs.length by rw[hcs,i2,hs],A93]
      exact rd
   ·have hcap:cap=l.length:=by injection ve with e1 e2 e3;omega
    subst hcap;have lsz:=gy.size (λ_ _=>Rd.size sh) q3
    have hol:c0.length=l.length * inf.size:=by rw[lsz,i2,hs]
    have holds:∀j u,c0[j]?=some u→w.cell? ((⟨g,off,none⟩:Addr).add j)=some u:=by
     intro j u e;rw[add_lit];exact Eh (hw _ _ _ (q4 j u e)) (gy.all (λ_ _=>Rd.one _) q3 u (iF e)).2
    have r:=run_append_grow (P:=P) w t ty el inf z hu i1 i4 ⟨g,off,none⟩ l.length l.length _ hol holds ⟨b,o,none⟩ l2.length c cs hcs hnews (by omega) (by omega) (growslice_fits (by omega) (by rw[i3];exact room))
    have hge:=grownCap_ge w (l.length+l2.length) l.length el;refine⟨_,_,r,.inr ⟨⟨⟨rfl,rfl,rfl,by simp,λk hk _=>(World.grownBy_alloc w.drew _ none).block k hk (by simp)⟩,A98 _⟩,?_,?_⟩⟩
    ·intro b' hb';simp[aC]at hb';obtain⟨_,rfl⟩:=hb';simp
    ·refine .inr (.inr ⟨w.heap.size,_,_,by rw[kD],heap_alloc_new w.drew _,by rw[kD];exact hge,⟨by omega,grownCap_le_maxLen w _ l.length el (by simp only[maxLen];omega)⟩,?_,?_⟩)
     ·have akV:c0.length=l.length * i.size:=by rw[←hs];exact lsz
      simp only[A82,oI,size_zeroCells,YU,hcs,i2,hs,akV,←Td]
      congr 1
      omega
     ·simp only[A95,uO];rw[←uO,show(l++l2).length * sh.size=(c0++cs).length by rw[kD,kD,Td,hcs,lsz,i2,hs],A93]
      exact q3.append rd
theorem Nq(hc:cO P cx.ti) (ak:Sat N B h0 s h β w a) (hg:aO cx.gd h) (hd:lZ N o.dst=true){t:TypeId}{x y:Operand}{c:Call} (ho:o.op=.call c) (dA:c.callee=.builtin .append) (ha:c.args=#[x,y]) (ht:c.argTypes=#[t,t])
 (k:JU cx s o.dst t x y K):BZ P N B h0 h w a o true K:=by
 have tr:gv s.gl []=true:=rfl;unfold JU iU at k;split at k
 ·rename_i el hde;have hu:=bQ hc hde (by simp)
  split at k
  ·exact k.elim
  rename_i ie hie;have tie:=hc.get hie;split at k
  ·exact k.elim
  rename_i sh hsh;split at k
  ·rename_i hz;rw[aF,aF,A8,A8]at hz;have hz1:sh.size=ie.size:=gK hz.1;have hz2:1≤ie.bytes:=qP hz.2.1;have hz3:1≤ie.size:=qP hz.2.2;split at k
   ·rename_i fG l1 hx;split at k
    ·rename_i l hl;obtain⟨e1,e2⟩:=oZ hl;subst e1;simp only at e2;subst e2;split at k
     ·rename_i v2 hv2;have c2:=aQ ak hg tr hv2;split at k
      ·rename_i l2 hl2;obtain⟨k1,k⟩:=k;have src:=Dk ak hl2 c2;have Ij:=(aQ ak hg tr hx:dJ h β (.c (.abs (.Wp fG l1))) (a.eval x));obtain⟨v',w',r1,r2⟩:=ES (P:=P) (ty:=o.type) hu tie hz1 hz2 hz3 Ij.1 src k1 ak.ok.hw;have exec:(execOp a.eval o).run P w=.ok (.value v') w':=by
        have r1':=r1;simp[execOp,ho,resolve,dA,ha,ht,invoke,builtin,r1']
       have hlen:aS s.T=β.length:=by rw[ak.ok.len,jr,bH]
       have gT:∀(r:aj),∀p∈snoc s.T (([]:Gd),r),vU s.gl.length p.1=true:=by
        intro r p hp;rw[iR,GV]at hp;rcases hp with hp | hp
        ·exact ak.gT p hp
        ·simp at hp;subst hp;rfl
       have fin:∀(r:aj) (h':FH) (s1:Sat N B h0 { s with T:=snoc s.T ([],r) } h (β++[.row v']) w' a),h.le h'→OK B h0 ((eff s.gl (snoc s.T ([],r))).set (aS s.T) .gone) h' (β++[.row v']) w'→qR h' (Rd h' fG) v' (l1++l2)→BZ P N B h0 h w a o true K:=by
        intro r h' s1 le ok' sl;have gu:(eff s.gl (snoc s.T (([]:Gd),r)))[aS s.T]?=some r:=by
         rw[iW,hlen,ak.ok.len,CP (Eb _),akF];rfl
        have bK:=s1.JX (z:=.sl fG (l1++l2)) (i:=aS s.T) (u:=.row v') (v:=v') gu (by rw[hlen];simp) rfl le ok' sl
        rw[show dK (sU (aS s.T) (.sl fG (l1++l2)) (snoc s.T (([]:Gd),r))) (aS s.T) (([]:Gd),aj.gone)=snoc (sU (aS s.T) (.sl fG (l1++l2)) s.T) (([]:Gd),aj.gone) from wW]at bK
        intro Nx Q next
        rw[if_pos rfl];exact kQ exec (next _ _ _ _ _ k le (bK.put (eG hd) rfl (λ_=>⟨sl,sl.dO⟩) λhh=>by cases hh))
       rcases r2 with⟨e1,e2,e3⟩ | ⟨r2,r3,r4⟩
       ·have hw':w=w':=e3.symm;subst hw';subst e2;subst e1;have ok:OK B h0 (eff s.gl (snoc s.T (([]:Gd),aj.gone))) h (β++[.row (a.eval x)]) w:=by rw[iW];exact ak.ok.Zl _
        have s1:=ak.mem ok (FH.le.refl h) (Ext.append _ _) (gT .gone);refine fin .gone h s1 (FH.le.refl h) ?_ (by rw[XZ];exact Ij.1.1)
        rw[iq]
        ·exact ok
        ·rw[iW,hlen,ak.ok.len,CP (Eb _),akF];rfl
       ·have ok:OK B h0 (eff s.gl (snoc s.T (([]:Gd),aj.row el fG (l1++l2)))) h (β++[.row v']) w':=by
         rw[iW];exact ak.ok.add r2 (λb hb=>r3 b (bF.1 hb)) r4
        have s1:=ak.mem ok (FH.le.refl h) (Ext.append _ _) (gT _);have gu:(eff s.gl (snoc s.T (([]:Gd),aj.row el fG (l1++l2))))[aS s.T]?=some (.row el fG (l1++l2)):=by
         rw[iW,hlen,ak.ok.len,CP (Eb _),akF];rfl
        obtain⟨h',le,ok',sl⟩:=ok.freeze gu (show(β++[.row v'])[aS s.T]?=some (.row v') by rw[hlen];simp)
        exact fin _ h' s1 le ok' sl
      ·exact k.elim
     ·exact k.elim
    ·exact k.elim
   ·exact k.elim
  ·exact k.elim
 ·exact k.elim
theorem afa(hc:cO P cx.ti) (ak:Sat N B h0 s h β w a) (hg:aO cx.gd h) (hd:lZ N o.dst=true){ops:Array Oper}{p:Prop} (e:ak8 cx s o K=some p) (k:p):BZ P N B h0 h w a o (Region.wanted o (yielded ops a.tmps)) K:=by
 unfold ak8 at e;split at e
 ·cases e
 rename_i hgd;rw[show Region.wanted o (yielded ops a.tmps)=true by simp[Region.wanted,hgd]]
 split at e
 ·rename_i t x lo hi mx ho;split at e
  ·rename_i m;split at e
   ·rename_i hm;cases e;exact Zg hc ak hg hd ho hm k
   ·cases e;exact Zm hc ak hg hd ho k
  ·split at e
   ·rename_i i hx;cases e;exact QC hc ak hg hd ho hx k
   ·rename_i hx;cases e;exact Zh hc ak hg hd ho hx k
   ·cases e
 ·rename_i op t x y t' ho;split at e
  ·cases e
  ·rename_i eq he;split at e
   ·rename_i hy;split at e
    ·rename_i z hx;split at e
     ·rename_i hz;rw[aF,A8]at hz;cases e;exact QD hc ak hg hd ho he hy hx hz.1 hz.2 k
     ·cases e
    ·cases e
   ·cases e
 ·rename_i c ho;split at e
  ·rename_i dA;split at e
   ·rename_i x y ha;split at e
    ·rename_i t t' ht;split at e
     ·rename_i hb;have hb:t=t':=gK hb;subst hb;split at e
      ·cases e;exact Nq hc ak hg hd ho dA (iM ha) (iM ht) k
      ·cases e
     ·split at e
      ·rename_i hx;cases e;exact WW hc ak hg hd ho dA (iM ha) (iM ht) hx k
      ·cases e
    ·cases e
   ·cases e
  ·rename_i dA;split at e
   ·rename_i x ha;split at e
    ·rename_i t ht;cases e;exact Zi hc ak hg hd ho dA (iM ha) (iM ht) k
    ·cases e
   ·cases e
  ·rename_i dA;split at e
   ·rename_i x y ha;cases e;exact Zj ak hg hd ho dA (iM ha) k
   ·cases e
  ·cases e
 ·rename_i t ln cp ho;split at e
  ·exact QE hc ak hg hd ho e k
  ·cases e
 ·rename_i t n ps ho;split at e
  ·cases e
  ·rename_i i r hr;cases e;obtain⟨h',le,aY⟩:=ak.GZ (l:=i :: r);have:=uh hc aY (hg.mono le) (G:=[]) rfl hd ho k;exact BZ.le le this.weak
 ·cases e
end
end Go.aV
