/- Part 5 of the proof. Conditions: the rows'. -/
import Derived.Test.YtjhenjhcbcalpaaGreatDoorB4
import Derived.Sort.OwnSortedInts
import Derived.Lib.SlicesCompact
import Derived.ReadAgain
import Derived.OpenShut
import Derived.ChangeSame
import Derived.Deep.DeepHandedRow
set_option linter.unusedSimpArgs false
set_option linter.unusedVariables false
set_option maxRecDepth 1000000
set_option maxHeartbeats 8000000
namespace Go.jf
open Go Go.RowKit
variable {B:Base}
abbrev ahm(s:St) (o:Oper):Option Nat:=match o.guard with
 | some _=>none
 | none=>match o.op with
   | .call c=>match c.callee with
     | .value (.tmp t)=>match iF s.env t with
       | some ([],.one (.c (.abs (.Wq l))))=>some l
       | _=>none
     | _=>none
   | _=>none
abbrev EI(E:Env) (l:Nat) (ss:List Sh) (L:List (bU ss)) (ops:List Oper):List Oper->Nat->St->(Option Nat->St->Prop)->Prop
 | [],i,s,K=>K (some i) s
 | o :: r,i,s,K=>match ahm s o with
   | some l'=>match kY E.n o.dst with
     | false=>False
     | true=>l=l'/\match qQ E.cx s [] (kP o.op) with
       | none=>False
       | some vs=>match allL noRow vs with
         | false=>False
         | true=>match F6 s [] vs with
           | none=>False
           | some bs=>match xC ss bs with
             | none=>False
             | some d=>L[i]?=some d/\EI E l ss L ops r (i+1) (s.put o.dst [] (.one (.c (.v (.bool true))))) K/\adi E ops r (s.put o.dst [] (.one (.c (.v (.bool false))))) λs=>K none s
   | none=>Lm E ops o s λs=>EI E l ss L ops r i s K
abbrev Ve(s:St) (o:Oper):Option Nat:=match o.op with
 | .call c=>match c.callee with
   | .value (.tmp t)=>match iF s.env t with
     | some (_,.one (.c (.abs (.Wq l))))=>some l
     | _=>none
   | _=>none
 | _=>none
abbrev Jo(s:St):List Oper->Bool
 | []=>false
 | o :: l=>match o.op with
   | .call c=>match c.callee with
     | .value (.tmp _)=>true
     | _=>Jo s l
   | _=>Jo s l
abbrev jd(E:Env) (l:Nat) (ss:List Sh) (L:List (bU ss)) (ops:List Oper):OT->Option Nat->St->(Option Nat->St->Prop)->Prop
 | .done,g,s,K=>K g s
 | .op o t,g,s,K=>match g with
   | some i=>match Ve s o with
     | some l'=>match kY E.n o.dst with
       | false=>False
       | true=>match o.op with
         | .call c=>match c.callee with
           | .value (.tmp t')=>l=l'/\uD E.lits s ops o.guard λG s=>match iF s.env t' with
             | some (Gt,.one (.c (.abs (.Wq l2))))=>match qJ Gt G with
               | false=>False
               | true=>l'=l2/\match qQ E.cx s G (kP o.op) with
                 | none=>False
                 | some vs=>match allL noRow vs with
                   | false=>False
                   | true=>match F6 s G vs with
                     | none=>False
                     | some bs=>match xC ss bs with
                       | none=>False
                       | some d=>br (gv s.gl G) (L[i]?=some d/\jd E l ss L ops t (some (i+1)) (s.put o.dst G (.one (.c (.v (.bool true))))) K/\jd E l ss L ops t none (s.put o.dst G (.one (.c (.v (.bool false))))) K)
                         (jd E l ss L ops t (some i) (s.put o.dst G (.one (.c (.v (.bool false))))) K)
             | _=>False
           | _=>False
         | _=>False
     | none=>iZ E ops o s λs=>jd E l ss L ops t (some i) s K
   | none=>iZ E ops o s λs=>jd E l ss L ops t none s K
 | .alt o t m,g,s,K=>match g with
   | some i=>match Ve s o with
     | some _=>False
     | none=>(iZ E ops o s λs=>jd E l ss L ops t (some i) s K)/\jd E l ss L ops m (some i) s K
   | none=>(iZ E ops o s λs=>jd E l ss L ops t none s K)/\jd E l ss L ops m none s K
def Jp(ops:Array Oper):Option OT:=
 let t:=U7 ops ops.size (Array.replicate ops.size false)
 if Region.noSelect ops && kH ops t true ops.size (Array.replicate ops.size false) then some (CG ops t) else none
abbrev adz(body:Nat->St->(Exit->Option Nat->St->Prop)->Prop) (ws:List Nat) (la:LA) (gh:la.α->Nat) (i:Nat) (s:St) (K:Exit->Option Nat->St->Prop):Prop:=
 (∃x,la.inv x/\gh x=i/\F9 s (la.slots x)/\s.T=jZ (la.res x) s.T) /\
 ∀x,la.inv x->match dD (wJ (aQ s.T) (jZ (la.res x) s.T)) (GV (aQ s.T) ws (la.slots x)) with
   | false=>False
   | true=>body (gh x) (qx ws s (la.slots x) (la.res x)) λe g s'=>match e with
     | .normal=>match g with
       | some j=>match Ey s' (keepR (aQ s.T) ws [] s.env) with
         | true=>∃x',la.inv x'/\gh x'=j/\F9 s' (la.slots x')/\qG (aQ s.T) s'.T=jZ (la.res x') s.T/\la.meas x' < la.meas x
         | false=>False
       | none=>False
     | e=>K e g s'
abbrev AA(E:Env) (l:Nat) (ss:List Sh) (L:List (bU ss)):Code->Nat->St->(Exit->Option Nat->St->Prop)->Prop
 | .skip,i,s,K=>K .normal (some i) s
 | .region id ops draw,i,s,K=>match Cj (tl ops) with
   | false=>False
   | true=>match draw with
     | false=>EI E l ss L (tl ops) (tl ops) i s λg s=>K .normal g (clean s)
     | true=>match Jo s (tl ops) with
       | false=>match vT ops with
         | some t=>qW E (tl ops) t s λs=>K .normal (some i) (clean s)
         | none=>False
       | true=>match Jp ops with
         | some t=>jd E l ss L (tl ops) t (some i) s λg s=>K .normal g (clean s)
         | none=>False
 | .seq x y,i,s,K=>AA E l ss L x i s λe g s'=>match e with
   | .normal=>match g with
     | some j=>AA E l ss L y j s' K
     | none=>jm E y s' λe s'=>K e none s'
   | e=>K e g s'
 | .cond c x y,i,s,K=>match bM E.cx s [] c with
   | some (.one (.c (.v (.bool b))))=>br b (AA E l ss L x i s K) (AA E l ss L y i s K)
   | _=>False
 | .block id c,i,s,K=>AA E l ss L c i s λe g s'=>match e with
   | .exit j=>match Nat.beq j id with
     | true=>K .normal g s'
     | false=>K (.exit j) g s'
   | e=>K e g s'
 | .loop c,i,s,K=>match ado E c s with
   | some (.gen la gh)=>adz (AA E l ss L c) (fA la.drop (writes c)) la gh i s K
   | _=>False
 | .exit j,i,s,K=>K (.exit j) (some i) s
 | .ret,i,s,K=>K .ret (some i) s
 | _,_,_,_=>False
def GS(N:Nat) (J:Option Nat->(Nat->Prop)->World->Prop) (h0:FH) (g:Option Nat) (s:St) (h:FH) (β:List RV) (w:World) (a:Act):Prop:=
 ∃(B:Base) (G:Nat->Prop),J g G B.toWorld/\(∀b,G b->b < B.heap.size)/\(∀k,B.al k↔G k\/B.heap.size<=k)/\(∀k o,B.nc k o->B.al k)/\Sat N B h0 s h β w a
section
variable {N:Nat}{J:Option Nat->(Nat->Prop)->World->Prop}{h0:FH}{g:Option Nat}{s:St}{h:FH}{β:List RV}{w:World}{a:Act}
theorem Sat.norm(aj:Sat N B h0 s h β w a):∃B':Base,B'.toWorld=B.toWorld/\B'.al=B.al/\(∀k o,B'.nc k o->B'.al k)/\Sat N B' h0 s h β w a:=by
 obtain⟨X,x1,x2,x3⟩:=aj.defers;refine⟨{ B with nc:=λk o=>k∈X/\o=.deferred (some []),cell:=λk o hh=>by rw[hh.2] },rfl,rfl,λk o hh=>(x3 k hh.1).1,?_⟩
 exact⟨aj.ok.O6 rfl rfl (λk o hh=>by rw[hh.2];exact aj.ok.kn k _ (x3 k hh.1).2),aj.env,aj.gs,⟨X,x1,x2,λD hD=>⟨(x3 D hD).1,hD,rfl⟩⟩,aj.sz,aj.gb,aj.gT⟩
theorem GS.step{B':Base}{G:Nat->Prop} (hJ:J g G B.toWorld) (hG:∀b,G b->b < B.heap.size) (ha:∀k,B.al k↔G k\/B.heap.size<=k) (lb:B.leB B'){s':St}{h':FH}{β':List RV}{w':World}{a':Act} (aj:Sat N B' h0 s' h' β' w' a'):GS N J h0 g s' h' β' w' a':=by
 obtain⟨B2,e1,e2,e3,bJ⟩:=aj.norm;have e4:B2.toWorld=B.toWorld:=e1.trans lb.1;refine⟨B2,G,by rw[e4];exact hJ,λb hb=>by rw[e4];exact hG b hb,λk=>?_,e3,bJ⟩
 rw[e2,lb.2.1,ha k,e4]
def BP(B:Base) (w:World) (b:Nat):Prop:=B.al b/\b < w.heap.size
theorem GS.now{G:Nat->Prop} (hAb:∀i G G' A A',J i G A->Gs G A A'->Own' G G' A A'->J i G' A') (hJ:J g G B.toWorld) (ha:∀k,B.al k↔G k\/B.heap.size<=k) (aj:Sat N B h0 s h β w a):J g (BP B w) w:=by
 refine hAb g G _ _ _ hJ ⟨aj.ok.below.os,aj.ok.below.tape,aj.ok.below.output,aj.ok.below.size,aj.ok.dr,λk hk hn=>aj.ok.below.block k hk λhh=>?_⟩ λb hb=>⟨hb.2,(ha b).1 hb.1⟩
 rcases(ha k).1 hh with h1 | h1
 .exact hn h1
 .omega
theorem GS.turn(e3:∀k o,B.nc k o->B.al k) (aj:Sat N B h0 s h β w a){A':World}{g':Option Nat} (hJ:J g' (BP B w) A') (hw0:HW h0 A') (keep:∀b,BP B w b->A'.heap[b]?=w.heap[b]?):
 GS N J h0 g' s h β A' a:=by
 have lt:∀b,BP B w b->b < A'.heap.size:=by
  intro b hb;have h1:=keep b hb;rw[Array.getElem?_eq_getElem hb.2]at h1;exact(Dh.1 h1).1
 have kn:∀k o,B.nc k o->A'.heap[k]?=some o:=λk o hk=>by
  have h1:=aj.ok.kn k o hk;rw[keep k ⟨e3 k o hk,(Dh.1 h1).1⟩];exact h1
 refine⟨{ A' with nc:=B.nc,cell:=B.cell,al:=λk=>BP B w k\/A'.heap.size<=k,up:=λ_ hh=>.inr hh },BP B w,hJ,lt,λk=>Iff.rfl,
  λk o hk=>.inl ⟨e3 k o hk,(Dh.1 (aj.ok.kn k o hk)).1⟩,?_⟩
 have own:∀{i:Nat}{r:ay}{v:RV}{b:Nat},(eff s.gl s.T)[i]?=some r->r.live=true->β[i]?=some v->v.has b->BP B w b:=λe hl e' hb=>
  ⟨(aj.ok.own _ _ _ _ e hl e' hb).1,(aj.ok.own _ _ _ _ e hl e' hb).2.1⟩
 refine⟨⟨⟨rfl,rfl,rfl,pz _,λ_ _ _=>rfl⟩,pz _,aj.ok.len,λi r v e e'=>(aj.ok.holds i r v e e').move (FH.le.refl h) (Ext.refl _) λhl b hb=>keep b (own e hl e' hb),
  λi r v b e hl e' hb=>⟨.inl (own e hl e' hb),lt b (own e hl e' hb),(aj.ok.own i r v b e hl e' hb).2.2⟩,aj.ok.inj,aj.ok.hle,λb o v hh=>?_,λb o v hh=>?_,kn⟩,aj.env,aj.gs,?_,aj.sz,aj.gb,aj.gT⟩
 .rcases aj.ok.hg b o v hh with h1 | h1
  .exact hw0 b o v h1
  .have h2:=aj.ok.hw b o v hh;exact(jR (keep b ⟨h1,oz h2⟩)).trans h2
 .rcases aj.ok.hg b o v hh with h1 | h1
  .exact .inl h1
  .have h3:=oz (aj.ok.hw b o v hh);exact .inr (.inl ⟨h1,h3⟩)
 .obtain⟨X,x1,x2,x3⟩:=aj.defers;exact⟨X,x1,x2,λD hD=>⟨.inl ⟨(x3 D hD).1,(Dh.1 (aj.ok.kn D _ (x3 D hD).2)).1⟩,(x3 D hD).2⟩⟩
end
theorem Jq{h:FH}:∀{ss:List Sh}{vs:List SV}{ys:List Value}{d:bU ss},xC ss vs=some d->aS (dh h []) vs ys->Bf h ss d ys
 | [],vs,ys,d,e,x=>by
   unfold xC at e;split at e
   .cases ys with
    | nil=>trivial
    | cons _ _=>exact x.elim
   .cases e
 | s :: l,vs,ys,d,e,x=>by
   unfold xC at e;split at e
   .rename_i v r;cases ys with
    | nil=>exact x.elim
    | cons y ys=>
      split at e
      .rename_i d1 hd;split at e
       .rename_i d2 hr;cases e;obtain⟨cs,e1,rd⟩:=toDat_ok hd x.1;exact⟨⟨cs,e1,rd⟩,Jq hr x.2⟩
       .cases e
      .cases e
   .cases e
structure Yl (P:Program) (h0:FH) (l:Nat) (ss:List Sh) (L:List (bU ss)) (J:Option Nat->(Nat->Prop)->World->Prop):Prop where
 hw:∀i G A,J i G A->HW h0 A
 ab:∀i G G' A A',J i G A->Gs G A A'->Own' G G' A A'->J i G' A'
 yl:∀i d vs G A,L[i]?=some d->Bf h0 ss d vs->J (some i) G A->YieldAt Fence.wide 0 P l vs.toArray A λe A'=>(∀b,G b->A'.heap[b]?=A.heap[b]?) /\
  ((e=.returned (.bool true)/\J (some (i+1)) G A')\/(e=.returned (.bool false)/\J none G A'))
section
variable {P:Program}{E:Env}{h0:FH}{l:Nat}{ss:List Sh}{L:List (bU ss)}{J:Option Nat->(Nat->Prop)->World->Prop}
theorem Bf.flat{h h':FH}:∀{ss:List Sh}{d:bU ss}{vs:List Value},allL iV ss=true->Bf h ss d vs->Bf h' ss d vs
 | [],_,[],_,_=>trivial
 | [],_,_ :: _,_,x=>x.elim
 | _ :: _,_,[],_,x=>x.elim
 | s :: _,_,_ :: _,f,⟨a,b⟩=>by
   simp only[allL,aB,bY]at f;obtain⟨cs,e,r⟩:=a;exact⟨⟨cs,e,Rd.flat s f.1 r⟩,Bf.flat f.2 b⟩
theorem AB(ok:gI P E) (hg:aI E.cx.gd h0) (hy:Yl P h0 l ss L J) (hfl:allL iV ss=true){ops:Array Oper}{n:Nat}{Q:Exit->Act->World->Prop}{K:Option Nat->St->Prop}:∀(r:List Oper) (k i:Nat){s:St}{h:FH}{β:List RV}{w:World}{a:Act},
 (∀j,r[j]?=ops[k+j]?)->Cj r=true->GS E.n J h0 (some i) s h β w a->EI E l ss L (tl ops) r i s K ->
 (∀g s' h' β' w' a',K g s'->h.le h'->GS E.n J h0 g s' h' β' w' a'->Same (jK r) a a'->Q .normal a' w')->wpOpsIn Fence.wide n P ops Q (List.range' k r.length) a w
 | [],k,i,s,h,β,w,a,_,_,gs,kk,next=>next _ _ _ _ _ _ kk (FH.le.refl h) gs (Same.refl _ _)
 | o :: r,k,i,s,h,β,w,a,hl,hn,gs,kk,next=>by
   have h0':ops[k]?=some o:=by simpa using(hl 0).symm
   have hl':∀j,r[j]?=ops[k+1+j]?:=λj=>by have:=hl (j+1);simpa[FU,V9 1 j]using this
   simp only[Cj,aB,bY]at hn;obtain⟨B,G,hJ,hG,ha,hnc,aj⟩:=gs;simp only[wV,List.range'_succ,wpOpsIn,h0'];simp only[EI]at kk;split at kk
   .rename_i l' hyl;split at kk
    .cases kk
    rename_i hd;obtain⟨hll,kk⟩:=kk;subst hll;split at kk
    .cases kk
    rename_i vs hvs;split at kk
    .cases kk
    rename_i hnr;split at kk
    .cases kk
    rename_i bs hbs;split at kk
    .cases kk
    rename_i d hdd;obtain⟨hLi,k1,k2⟩:=kk;unfold ahm at hyl;split at hyl
    .cases hyl
    rename_i hgd;split at hyl
    .rename_i c ho;split at hyl
     .rename_i t bQ;split at hyl
      .rename_i l2 hlk;cases hyl;have tr:gv s.gl []=true:=rfl;rw[if_pos (by simp[Region.wanted,hgd])]
       obtain⟨z,z1,z2,_⟩:=aj.env t [] _ hlk;have ez:z=.func (.yield l) #[] #[]:=(z2 tr).1;subst ez;have hgh:=hg.mono aj.ok.hle;have hav:=oK aj hgh tr hvs;obtain⟨_,b2⟩:=yQ aj tr hbs hav;have hao:kP o.op=tl c.args:=by simp only[kP,ho]
       rw[hao]at hav b2
       -- the arguments as they were frozen at the beginning
       have hJn:=GS.now hy.ab hJ ha aj;have dv:Bf h ss d ((tl c.args).map a.eval):=Jq hdd (b2 hnr);have dv0:Bf h0 ss d ((tl c.args).map a.eval):=Bf.flat hfl dv;obtain⟨fn,tmps,FQ,body,hrun,EJ⟩:=hy.yl i d _ (BP B w) w hLi dv0 hJn;have hargs:(c.args.map a.eval)=((tl c.args).map a.eval).toArray:=by cases c.args;simp
       have exec:(execOp a.eval o).run P w=.ok (.round l fn tmps FQ body) w:=by
        simp only[execOp,ho,resolve,bQ,Act.eval];rw[show a.tmps.getD t undef=.func (.yield l) #[] #[] by simp[z1]]
        simp only[Deferred.ofValue,invoke,Sem.run_bind,Sem.run_pure,Result.andThen_ok];simp only[ahV];rw[hargs];exact hrun
       refine⟨λf _=>trivial,?_⟩
       rw[Oper.semAt_eq _ _ _ (λc' hc'=>by rw[hc']at hn;cases hn.1),exec]
       simp only[Oper.uponIn];refine⟨λhh=>(by cases hh),RoundIn.mono (F:=Fence.wide) (n:=n - 1) ⟨EJ.1,λc' cs' hroom=>EJ.2 c' cs' (λd' hd'=>by cases hd')⟩ ?_⟩
       rintro e A' ⟨keep,hh⟩;rcases hh with⟨rfl,hJ'⟩ | ⟨rfl,hJ'⟩
       .obtain⟨B2,G2,j1,j2,j3,j4,bJ⟩:=GS.turn hnc aj hJ' (hy.hw _ _ _ hJ') keep;have gs3:GS E.n J h0 (some (i+1)) (s.put o.dst [] (.one (.c (.v (.bool true))))) h β A' (a.put o.dst (.bool true)):=⟨B2,G2,j1,j2,j3,j4,bJ.put (dR hd) rfl (λ_=>⟨⟨rfl,rfl,rfl⟩,rfl,rfl⟩) λhh=>by cases hh⟩
        exact AB ok hg hy hfl r (k+1) (i+1) hl' hn.2 gs3 k1 λg s2 h2 β2 w2 a2 k2 iD gs2 sm=>next g s2 h2 β2 w2 a2 k2 iD gs2 sm.put
       .obtain⟨B2,G2,j1,j2,j3,j4,bJ⟩:=GS.turn hnc aj hJ' (hy.hw _ _ _ hJ') keep;have O5:=bJ.put (d:=o.dst) (G:=[]) (e:=.one (.c (.v (.bool false)))) (z:=.bool false) (dR hd) rfl (λ_=>⟨⟨rfl,rfl,rfl⟩,rfl,rfl⟩) λhh=>by cases hh
        exact OO (R:=λa w=>Q .normal a w) (.inl rfl) (λ_ _ hh=>hh) r (k+1) _ _ hl' hn.2 (Jd ok hg r O5 k2 λs2 h2 β2 w2 a2 k3 iD XY sm=>next none s2 h2 β2 w2 a2 k3 iD (GS.step j1 j2 j3 (.refl B2) XY) sm.put)
      .cases hyl
     .cases hyl
    .cases hyl
   .have st:=Es ok aj (hg.mono aj.ok.hle) kk (wpOpsIn Fence.wide n P ops Q (List.range' (k+1) r.length)) IK λs' h' β' w' v k' le aW=>
     AB ok hg hy hfl r (k+1) i hl' hn.2 (GS.step hJ hG ha (.refl B) aW) k' λg s2 h2 β2 w2 a2 k2 iD gs2 sm=>next g s2 h2 β2 w2 a2 k2 (le.trans iD) gs2 sm.put
    split
    .rename_i hw;rw[if_pos hw]at st;exact Le (Q:=Q) (.inl rfl) hn.1 st
    .rename_i hw;rw[if_neg hw]at st;exact⟨λf _=>trivial,st⟩
theorem Vf{s:St}{o:Oper} (hf:jT o.op=true):Ve s o=none:=by
 unfold Ve;split
 .rename_i c ho;rw[ho]at hf;have:c.callee=.builtin .len:=XQ hf;rw[this]
 .rfl
theorem GS.drawn{g:Option Nat}{s:St}{h:FH}{β:List RV}{w:World}{a:Act} (gs:GS E.n J h0 g s h β w a) (n:Nat) (hn:w.drawn<=n):GS E.n J h0 g s h β { w with drawn:=n } a:=by
 obtain⟨B,G,hJ,hG,ha,hnc,aj⟩:=gs;exact⟨B,G,hJ,hG,ha,hnc,aj.drawn n hn⟩
theorem Yg(ok:gI P E) (hg:aI E.cx.gd h0) (hy:Yl P h0 l ss L J) (hfl:allL iV ss=true){ops:Array Oper}{n i:Nat}{s:St}{h:FH}{β:List RV}{w:World}{a:Act}{o:Oper}{c:Call}{t':Nat}{K:Act->World->Prop}{G:Gd}{GG:Nat->Prop}
 (hJ:J (some i) GG B.toWorld) (hG:∀b,GG b->b < B.heap.size) (ha:∀k,B.al k↔GG k\/B.heap.size<=k) (hnc:∀k o,B.nc k o->B.al k) (aj:Sat E.n B h0 s h β w a)
 (hd:kY E.n o.dst=true) (ho:o.op=.call c) (bQ:c.callee=.value (.tmp t')){Gt:Gd} (hlk:iF s.env t'=some (Gt,.one (.c (.abs (.Wq l))))) (hsub:qJ Gt G=true) (hgv:gv s.gl G=true) (hgb:vk s.gl.length G=true)
 {vs bs:List SV}{d:bU ss} (hvs:qQ E.cx s G (tl c.args)=some vs) (hnr:allL noRow vs=true) (hbs:F6 s G vs=some bs) (hdd:xC ss bs=some d) (hLi:L[i]?=some d)
 (k1:∀h' β' w' a',GS E.n J h0 (some (i+1)) (s.put o.dst G (.one (.c (.v (.bool true))))) h' β' w' a'->h.le h'->(∃v,a'=a.put o.dst v)->K a' w')
 (k2:∀h' β' w' a',GS E.n J h0 none (s.put o.dst G (.one (.c (.v (.bool false))))) h' β' w' a'->h.le h'->(∃v,a'=a.put o.dst v)->K a' w'):
 o.uponIn Fence.wide n P a K IK ((execOp a.eval o).run P w):=by
 obtain⟨z,z1,z2,_⟩:=aj.env t' Gt _ hlk;have ez:z=.func (.yield l) #[] #[]:=(z2 (fO hsub hgv)).1;subst ez;have hgh:=hg.mono aj.ok.hle;have hav:=oK aj hgh hgv hvs;obtain⟨_,b2⟩:=yQ aj hgv hbs hav;have hJn:=GS.now hy.ab hJ ha aj;have dv:Bf h ss d ((tl c.args).map a.eval):=Jq hdd (b2 hnr);have dv0:Bf h0 ss d ((tl c.args).map a.eval):=Bf.flat hfl dv;obtain⟨fn,tmps,FQ,body,hrun,EJ⟩:=hy.yl i d _ (BP B w) w hLi dv0 hJn;have hargs:(c.args.map a.eval)=((tl c.args).map a.eval).toArray:=by cases c.args;simp
 have exec:(execOp a.eval o).run P w=.ok (.round l fn tmps FQ body) w:=by
  simp only[execOp,ho,resolve,bQ,Act.eval];rw[show a.tmps.getD t' undef=.func (.yield l) #[] #[] by simp[z1]]
  simp only[Deferred.ofValue,invoke,Sem.run_bind,Sem.run_pure,Result.andThen_ok];simp only[ahV];rw[hargs];exact hrun
 rw[exec];simp only[Oper.uponIn];refine⟨λhh=>(by cases hh),RoundIn.mono (F:=Fence.wide) (n:=n - 1) ⟨EJ.1,λc' cs' hroom=>EJ.2 c' cs' (λd' hd'=>by cases hd')⟩ ?_⟩
 rintro e A' ⟨keep,hh⟩;rcases hh with⟨rfl,hJ'⟩ | ⟨rfl,hJ'⟩
 .obtain⟨B2,G2,j1,j2,j3,j4,bJ⟩:=GS.turn hnc aj hJ' (hy.hw _ _ _ hJ') keep;exact k1 h β A' _ ⟨B2,G2,j1,j2,j3,j4,bJ.put (dR hd) hgb (λ_=>⟨⟨rfl,rfl,rfl⟩,rfl,rfl⟩) λhh=>by rw[hgv]at hh;cases hh⟩ (FH.le.refl h) ⟨_,rfl⟩
 .obtain⟨B2,G2,j1,j2,j3,j4,bJ⟩:=GS.turn hnc aj hJ' (hy.hw _ _ _ hJ') keep;exact k2 h β A' _ ⟨B2,G2,j1,j2,j3,j4,bJ.put (dR hd) hgb (λ_=>⟨⟨rfl,rfl,rfl⟩,rfl,rfl⟩) λhh=>by rw[hgv]at hh;cases hh⟩ (FH.le.refl h) ⟨_,rfl⟩
theorem mO(ok:gI P E) (hg:aI E.cx.gd h0) (hy:Yl P h0 l ss L J) (hfl:allL iV ss=true){ops:Array Oper} (hs:Region.noSelect ops=true) (hn:Cj ops.toList=true){m:Nat}{R:Act->World->Prop}{K:Option Nat->St->Prop}:∀(t:DT){n:Nat}{listed:Array Bool}{g:Option Nat}{s:St}{h:FH}{β:List RV}{w:World}{a:Act},
 GS E.n J h0 g s h β w a->jd E l ss L (tl ops) (CG ops t) g s K->(∀g' s' h' β' w' a',K g' s'->h.le h'->GS E.n J h0 g' s' h' β' w' a'->Same (jK ops.toList) a a'->R a' w') ->
 (kH ops t true n listed=true->I9 P m .any ops (xH ops) R n listed a w) /\
 (kH ops t false n listed=true->∀i∈t.alts,qp P m ops i (λa' w'=>(xH ops i=true->mD w w')/\I9 P m .any ops (xH ops) R (n - 1) (listed.setIfInBounds i true) a' w') a w)
 | .done,n,listed,g,s,h,β,w,a,gs,k,next=>by
   refine⟨λhc=>?_,λhc=>by simp[kH]at hc⟩
   simp only[kH,FM,bY,Bd]at hc;obtain⟨rfl,hr⟩:=hc;exact⟨by simpa using hr,next _ _ _ _ _ _ k (FH.le.refl h) gs (Same.refl _ _)⟩
 | .fl i t,n,listed,g,s,h,β,w,a,gs,k,next=>by
   refine⟨λhc=>?_,λhc=>by simp[kH]at hc⟩
   simp only[kH,FM,bY,Kt,ne_eq]at hc;obtain⟨⟨hn0,hb⟩,hc⟩:=hc;obtain⟨n,rfl⟩:∃m,n=m+1:=⟨n - 1,by omega⟩
   unfold CB at hb;cases hi:ops[i]? with
   | none=>rw[hi]at hb;simp at hb
   | some o=>
     rw[hi]at hb;simp only[bY]at hb;simp only[CG,hi]at k;have lC:o∈ops.toList:=iy (i:=i) (by simpa using hi)
     obtain⟨⟨⟨hf,hfree⟩,hr⟩,hl⟩:=hb;obtain⟨B,G,hJ,hG,ha,hnc,aj⟩:=gs;have k:iZ E (tl ops) o s λs=>jd E l ss L (tl ops) (CG ops t) g s K:=by
      unfold jd at k;cases g with
      | none=>exact k
      | some i'=>simp only at k;rw[Vf hf]at k;exact k
     obtain⟨v,s',hy',k',aW⟩:=xK ok aj (hg.mono aj.ok.hle) hf k;have hq:xH ops i=true:=by
      simp only[xH,hi];exact uJ hf
     refine OU (bl:=XP ops listed i) hi (Region.noSelect_spec hs) hq n listed a w (Region.free_spec hi hfree) (λe=>?_) (by simpa using hr) hy' (λ_=>mD.refl w)
      ((mO ok hg hy hfl hs hn t (GS.step hJ hG ha (.refl B) aW) k' λg2 s2 h2 β2 w2 a2 k2 iD bJ sm=>next g2 s2 h2 β2 w2 a2 k2 iD bJ (sm.put_mem lC)).1 hc)
     rw[e]at hl;exact Bo (by simpa using hl)
 | .op i t,n,listed,g,s,h,β,w,a,gs,k,next=>by
   have key:n≠0->(ops[i]?).isSome=true->kH ops t true (n - 1) (listed.setIfInBounds i true)=true->qp P m ops i (λa' w'=>(xH ops i=true->mD w w')/\I9 P m .any ops (xH ops) R (n - 1) (listed.setIfInBounds i true) a' w') a w:=by
    intro hn0 hi hc;obtain⟨o,hi⟩:=A87.1 hi;have lC:o∈ops.toList:=iy (i:=i) (by simpa using hi)
    simp only[CG,hi]at k;obtain⟨B,G,hJ,hG,ha,hnc,aj⟩:=gs;have plain:(iZ E (tl ops) o s λs=>jd E l ss L (tl ops) (CG ops t) g s K)->qp P m ops i (λa' w'=>(xH ops i=true->mD w w')/\I9 P m .any ops (xH ops) R (n - 1) (listed.setIfInBounds i true) a' w') a w:=by
     intro k;refine ahk hn ?_;unfold zU;simp only[hi];refine qV ok aj (hg.mono aj.ok.hle) k _ IK λs' h' β' w' v k' le Ah aW=>⟨λe=>Ah (by simpa[xH,hi]using e),?_⟩
     exact(mO ok hg hy hfl hs hn t (GS.step hJ hG ha (.refl B) aW) k' λg2 s2 h2 β2 w2 a2 k2 iD bJ sm=>next g2 s2 h2 β2 w2 a2 k2 (le.trans iD) bJ (sm.put_mem lC)).1 hc
    unfold jd at k;cases g with
    | none=>exact plain k
    | some i'=>
      simp only at k;cases hyl:Ve s o with
      | none=>rw[hyl]at k;exact plain k
      | some l'=>
        rw[hyl]at k;simp only at k;split at k
        .cases k
        rename_i hd;split at k
        .rename_i c ho;split at k
         .rename_i t' bQ;obtain⟨hll,k⟩:=k;subst hll;obtain⟨G1,s1,k,jl,hw1,hgb⟩:=vG aj k;split at k
          .rename_i Gt l2 hlk;split at k
           .cases k
           rename_i hsub;obtain⟨rfl,k⟩:=k;split at k
           .cases k
           rename_i vs hvs;split at k
           .cases k
           rename_i hnr;split at k
           .cases k
           rename_i bs hbs;split at k
           .cases k
           rename_i d hdd;have aiW:xH ops i=false:=by
            simp only[xH,hi,ho,quietly,bQ]
           have hao:kP o.op=tl c.args:=by simp only[kP,ho]
           rw[hao]at hvs;unfold qp;simp only[hi];cases hgv:gv s1.gl G1 with
           | true=>
             rw[if_pos (by rw[hw1,hgv])]
             obtain⟨hLi,k1,k2⟩:=(ah.1 k).1 hgv;refine Yg ok hg hy hfl (ops:=ops) hJ hG ha hnc jl hd ho bQ hlk hsub hgv hgb hvs hnr hbs hdd hLi (λh' β' w' a' gs' le' ha'=>⟨λe=>(by rw[aiW]at e;cases e),?_⟩) (λh' β' w' a' gs' le' ha'=>⟨λe=>(by rw[aiW]at e;cases e),?_⟩)
             .obtain⟨v,rfl⟩:=ha';exact(mO ok hg hy hfl hs hn t gs' k1 λg2 s2 h2 β2 w2 a2 k2 iD bJ sm=>next g2 s2 h2 β2 w2 a2 k2 (le'.trans iD) bJ (sm.put_mem lC)).1 hc
             .obtain⟨v,rfl⟩:=ha';exact(mO ok hg hy hfl hs hn t gs' k2 λg2 s2 h2 β2 w2 a2 k2 iD bJ sm=>next g2 s2 h2 β2 w2 a2 k2 (le'.trans iD) bJ (sm.put_mem lC)).1 hc
           | false=>
             rw[if_neg (by rw[hw1,hgv];simp)]
             have k:=(ah.1 k).2 hgv;have bJ:=jl.put (d:=o.dst) (G:=G1) (e:=.one (.c (.v (.bool false)))) (z:=undef) (dR hd) hgb (λhh=>by rw[hgv]at hh;cases hh) λ_=>rfl
             refine⟨λe=>(by rw[aiW]at e;cases e),?_⟩
             exact(mO ok hg hy hfl hs hn t (GS.step hJ hG ha (.refl B) bJ) k λg2 s2 h2 β2 w2 a2 k2 iD bJ sm=>next g2 s2 h2 β2 w2 a2 k2 iD bJ (sm.put_mem lC)).1 hc
          .cases k
         .cases k
        .cases k
   refine⟨λhc=>?_,λhc j hj=>?_⟩
   .simp only[kH,Uf,NV,bY,Kt,ne_eq,Bd]at hc;obtain⟨⟨⟨hr,hn0⟩,hi⟩,hc⟩:=hc;obtain⟨m,rfl⟩:∃m,n=m+1:=⟨n - 1,by omega⟩
    refine⟨λh0=>by rw[hr]at h0;simp at h0,λj hj=>?_⟩
    rw[hr]at hj;simp at hj;subst hj;exact key hn0 hi hc
   .simp only[kH,NU,NY,FM,bY,Kt,ne_eq]at hc;simp only[DT.alts,A82]at hj;subst hj;exact key hc.1.1 hc.1.2 hc.2
 | .alt i t mm,n,listed,g,s,h,β,w,a,gs,k,next=>by
   have key:n≠0->(ops[i]?).isSome=true->kH ops t true (n - 1) (listed.setIfInBounds i true)=true->kH ops mm false n listed=true ->
    ∀j∈i :: mm.alts,qp P m ops j (λa' w'=>(xH ops j=true->mD w w')/\I9 P m .any ops (xH ops) R (n - 1) (listed.setIfInBounds j true) a' w') a w:=by
    intro hn0 hi hc hm j hj;obtain⟨o,hi⟩:=A87.1 hi;have lC:o∈ops.toList:=iy (i:=i) (by simpa using hi)
    simp only[CG,hi]at k;have k:(iZ E (tl ops) o s λs=>jd E l ss L (tl ops) (CG ops t) g s K)/\jd E l ss L (tl ops) (CG ops mm) g s K:=by
     unfold jd at k;cases g with
     | none=>exact k
     | some i'=>
       simp only at k;cases hyl:Ve s o with
       | none=>rw[hyl]at k;exact k
       | some _=>rw[hyl]at k;cases k
    rcases ni.1 hj with rfl | hj
    .obtain⟨B,G,hJ,hG,ha,hnc,aj⟩:=gs;refine ahk hn ?_;unfold zU;simp only[hi];refine qV ok aj (hg.mono aj.ok.hle) k.1 _ IK λs' h' β' w' v k' le Ah aW=>⟨λe=>Ah (by simpa[xH,hi]using e),?_⟩
     exact(mO ok hg hy hfl hs hn t (GS.step hJ hG ha (.refl B) aW) k' λg2 s2 h2 β2 w2 a2 k2 iD bJ sm=>next g2 s2 h2 β2 w2 a2 k2 (le.trans iD) bJ (sm.put_mem lC)).1 hc
    .exact(mO ok hg hy hfl hs hn mm gs k.2 next).2 hm j hj
   refine⟨λhc=>?_,λhc j hj=>?_⟩
   .simp only[kH,Uf,NV,bY,Kt,ne_eq,Bd]at hc;obtain⟨⟨⟨⟨hr,hn0⟩,hi⟩,hc⟩,hm⟩:=hc;obtain⟨q,rfl⟩:∃m,n=m+1:=⟨n - 1,by omega⟩
    refine⟨λh0=>by rw[hr]at h0;simp at h0,λj hj=>?_⟩
    rw[hr]at hj;exact key hn0 hi hc hm j hj
   .simp only[kH,NU,NY,FM,bY,Kt,ne_eq]at hc;exact key hc.1.1.1 hc.1.1.2 hc.1.2 hc.2 j hj
theorem Yh(ok:gI P E) (hg:aI E.cx.gd h0) (hy:Yl P h0 l ss L J) (hfl:allL iV ss=true){ops:Array Oper}{id n:Nat}{ol:OT} (ho:Jp ops=some ol) (hn:Cj ops.toList=true){i:Nat}{s:St}{h:FH}{β:List RV}{w:World}{a:Act}{K:Option Nat->St->Prop}{Q:Exit->Act->World->Prop}
 (gs:GS E.n J h0 (some i) s h β w a) (k:jd E l ss L (tl ops) ol (some i) s K)
 (next:∀g' s' h' β' w' a',K g' s'->h.le h'->GS E.n J h0 g' s' h' β' w' a'->Same (jK (tl ops)) a a'->Q .normal a' w'):(Code.region id ops true).wpIn Fence.wide n P Q a w:=by
 unfold Jp at ho;have et:tl ops=ops.toList:=by cases ops;rfl
 simp only at ho;split at ho
 .rename_i hp;cases ho;simp only[bY,Bd]at hp;refine wpIn_region_any ok.mixed (Q7 (sf:=xH ops) (R:=λa w=>Q .normal a w) hn (λ_ _ hh=>hh) _ _ _ _ ?_)
  exact(mO ok hg hy hfl hp.1 hn (R:=λa w=>Q .normal a w) (U7 ops ops.size (Array.replicate ops.size false)) (gs.drawn (w.drawn+1) (TU _)) k λg' s' h' β' w' a' k' le gs' sm=>next _ _ _ _ _ _ k' le gs' (by rw[et];exact sm)).1 hp.2
 .cases ho
theorem sD(ok:gI P E) (hg:aI E.cx.gd h0) (hr:E.rd=false) (hy:Yl P h0 l ss L J) (hfl:allL iV ss=true){n:Nat}:∀(c:Code){i:Nat}{s:St}{h:FH}{β:List RV}{w:World}{a:Act}{K:Exit->Option Nat->St->Prop}{Q:Exit->Act->World->Prop},GS E.n J h0 (some i) s h β w a ->
 AA E l ss L c i s K->(∀e g s' h' β' w' a',K e g s'->h.le h'->GS E.n J h0 g s' h' β' w' a'->Same (writes c) a a'->Q e a' w')->c.wpIn Fence.wide n P Q a w
 | .skip,i,s,h,β,w,a,K,Q,gs,k,next=>wpIn_skip (next _ _ _ _ _ _ _ k (FH.le.refl h) gs (Same.refl _ _))
 | .exit j,i,s,h,β,w,a,K,Q,gs,k,next=>wpIn_exit (next _ _ _ _ _ _ _ k (FH.le.refl h) gs (Same.refl _ _))
 | .ret,i,s,h,β,w,a,K,Q,gs,k,next=>wpIn_ret (next _ _ _ _ _ _ _ k (FH.le.refl h) gs (Same.refl _ _))
 | .region id ops false,i,s,h,β,w,a,K,Q,gs,k,next=>by
   simp only[AA]at k;split at k
   .cases k
   rename_i hnd;have et:tl ops=ops.toList:=by cases ops;rfl
   refine wpIn_region ?_;have:=AB (n:=n) (Q:=Q) ok hg hy hfl (ops:=ops) (tl ops) 0 i (λj=>by rw[et];simp) hnd gs k λg s' h' β' w' a' k' le gs' sm=>next .normal g _ _ _ _ _ k' le (by
    obtain⟨B2,G2,j1,j2,j3,j4,bJ⟩:=gs';exact⟨B2,G2,j1,j2,j3,j4,bJ.clean⟩) sm
   rw[List.range_eq_range'];rw[et]at this;simpa using this
 | .region id ops true,i,s,h,β,w,a,K,Q,gs,k,next=>by
   simp only[AA]at k;split at k
   .cases k
   rename_i hnd;have et:tl ops=ops.toList:=by cases ops;rfl
   cases hya:Jo s (tl ops) with
   | true=>
     rw[hya]at k;simp only at k;cases hd:Jp ops with
     | none=>rw[hd]at k;cases k
     | some t=>
       rw[hd]at k;exact Yh ok hg hy hfl hd (by rw[et]at hnd;exact hnd) gs k λg s' h' β' w' a' k' le gs' sm=>next .normal g _ _ _ _ _ k' le (by
        obtain⟨B2,G2,j1,j2,j3,j4,bJ⟩:=gs';exact⟨B2,G2,j1,j2,j3,j4,bJ.clean⟩) sm
   | false=>
   rw[hya]at k;simp only at k;obtain⟨B,G,hJ,hG,ha,hnc,aj⟩:=gs;cases hd:vT ops with
   | none=>rw[hd]at k;cases k
   | some t=>
     rw[hd]at k;exact Rf ok hg hd aj k (.inl rfl) (by rw[et]at hnd;exact hnd) λs' h' β' w' a' k' le aW sm=>next .normal _ _ _ _ _ _ k' le (GS.step hJ hG ha (.refl B) aW.clean) sm
 | .seq x y,i,s,h,β,w,a,K,Q,gs,k,next=>by
   refine wpIn_seq (sD ok hg hr hy hfl x gs k λe g s' h' β' w' a' k' le gs' sm=>?_)
   cases e with
   | normal=>
     cases g with
     | some j=>exact sD ok hg hr hy hfl y gs' k' λe g s2 h2 β2 w2 a2 k2 iD gs2 wL=>next e g s2 h2 β2 w2 a2 k2 (le.trans iD) gs2 (sm.left.trans wL.right)
     | none=>
       obtain⟨B,G,hJ,hG,ha,hnc,aj⟩:=gs';exact iY y ok hg (.inl rfl) (λ_=>rfl) aj k' λe s2 h2 β2 w2 a2 B2 lb k2 iD bJ wL=>next e none s2 h2 β2 w2 a2 k2 (le.trans iD) (GS.step hJ hG ha lb.1 bJ) (sm.left.trans wL.right)
   | exit j=>exact next _ _ _ _ _ _ _ k' le gs' sm.left
   | goto l=>exact next _ _ _ _ _ _ _ k' le gs' sm.left
   | ret=>exact next _ _ _ _ _ _ _ k' le gs' sm.left
   | panic ch=>exact next _ _ _ _ _ _ _ k' le gs' sm.left
   | outgrown=>exact next _ _ _ _ _ _ _ k' le gs' sm.left
 | .cond c x y,i,s,h,β,w,a,K,Q,gs,k,next=>by
   simp only[AA]at k;split at k
   .rename_i b hb;obtain⟨B,G,hJ,hG,ha,hnc,aj⟩:=gs;have hc:a.eval c=.bool b:=(aP aj (hg.mono aj.ok.hle) (show gv s.gl []=true from rfl) hb).1.1
    refine wpIn_cond_split hc (λht=>sD ok hg hr hy hfl x ⟨B,G,hJ,hG,ha,hnc,aj⟩ ((ah.1 k).1 ht) λe g s' h' β' w' a' k' le gs' sm=>next _ _ _ _ _ _ _ k' le gs' sm.left)
     (λhf=>sD ok hg hr hy hfl y ⟨B,G,hJ,hG,ha,hnc,aj⟩ ((ah.1 k).2 hf) λe g s' h' β' w' a' k' le gs' sm=>next _ _ _ _ _ _ _ k' le gs' sm.right)
   .cases k
 | .block id c,i,s,h,β,w,a,K,Q,gs,k,next=>by
   refine wpIn_block (sD ok hg hr hy hfl c gs k λe g s' h' β' w' a' k' le gs' sm=>?_)
   cases e with
   | normal=>exact next _ _ _ _ _ _ _ k' le gs' sm
   | exit j=>
     simp only at k';simp only[Exit.inBlock];split at k'
     .rename_i hi;have:j=id:=iC hi;rw[if_pos this];exact next _ _ _ _ _ _ _ k' le gs' sm
     .rename_i hi;have:¬j=id:=λhh=>by rw[hh]at hi;simp at hi
      rw[if_neg this];exact next _ _ _ _ _ _ _ k' le gs' sm
   | goto l=>exact next _ _ _ _ _ _ _ k' le gs' sm
   | ret=>exact next _ _ _ _ _ _ _ k' le gs' sm
   | panic ch=>exact next _ _ _ _ _ _ _ k' le gs' sm
   | outgrown=>exact next _ _ _ _ _ _ _ k' le gs' sm
 | .loop c,i,s,h,β,w,a,K,Q,gs,k,next=>by
   simp only[AA]at k;split at k
   .rename_i la gh _;obtain⟨⟨x,i1,i2,i3,i4⟩,k2⟩:=k;have good:∀x,la.inv x->wJ (aQ s.T) (jZ (la.res x) s.T)=true/\GV (aQ s.T) (fA la.drop (writes c)) (la.slots x)=true /\
     AA E l ss L c (gh x) (qx (fA la.drop (writes c)) s (la.slots x) (la.res x)) (λe g s'=>match e with
      | .normal=>match g with
        | some j=>match Ey s' (keepR (aQ s.T) (fA la.drop (writes c)) [] s.env) with
          | true=>∃x',la.inv x'/\gh x'=j/\F9 s' (la.slots x')/\qG (aQ s.T) s'.T=jZ (la.res x') s.T/\la.meas x' < la.meas x
          | false=>False
        | none=>False
      | e=>K e g s'):=by
     intro x hx;have:=k2 x hx;split at this
     .cases this
     .rename_i hc;rw[aB,bY]at hc;exact⟨hc.1,hc.2,this⟩
    obtain⟨B,G,hJ,hG,ha,hnc,aj⟩:=gs;have D0:∀h' a',h.le h'->Same (writes c) a a'->∀t e,iF (qc (fA la.drop (writes c)) [] s.env) t=some ([],e)->∃z,a'.tmps[t]?=some z/\jF h' [] e z:=by
     intro h' a' le sm t e ht;obtain⟨_,hw,hl,_,hf⟩:=kU ht;obtain⟨z,q1,q2,_⟩:=aj.env t [] e hl;exact⟨z,by rw[sm t (by rw[lD,l7]at hw;exact hw.2)];exact q1,(jF.lG [] hf (q2 rfl)).mono le (Ext.refl _)⟩
    refine wpIn_loop_ghost (λm a' w'=>∃x h' β',la.meas x=m/\la.inv x/\h.le h'/\GS E.n J h0 (some (gh x)) (qx (fA la.drop (writes c)) s (la.slots x) (la.res x)) h' β' w' a'/\Same (writes c) a a') (la.meas x) ?_ ?_
    .obtain⟨g1,g2,_⟩:=good x i1;refine⟨x,h,_,rfl,i1,FH.le.refl h,⟨B,G,by rw[i2];exact hJ,hG,ha,hnc,zf aj ?_ g1 g2 i3 (λp hp=>(qZ p hp).2) (D0 h a (FH.le.refl h) (Same.refl _ _))⟩,Same.refl _ _⟩
     rw[<-i4,jI,bF,V5]
    .rintro m a' w' ⟨x,h',β',rfl,hx,le,gs',sm⟩;obtain⟨g1,g2,kk⟩:=good x hx;refine sD ok hg hr hy hfl c gs' kk λe g s2 h2 β2 w2 a2 k2 iD gs2 wL=>?_
     cases e with
     | normal=>
       simp only at k2;cases g with
       | none=>exact k2.elim
       | some j=>
         simp only at k2;split at k2
         .rename_i hR;obtain⟨x',j1,jg,j2,j3,j4⟩:=k2;obtain⟨g1',g2',_⟩:=good x' j1;obtain⟨B2,G2,q1,q2,q3,q4,bJ⟩:=gs2;refine⟨la.meas x',j4,x',h2,_,rfl,j1,le.trans iD,⟨B2,G2,by rw[jg];exact q1,q2,q3,q4,zf bJ j3 g1' g2' j2 (qY hR) (D0 h2 a2 (le.trans iD) (sm.trans wL))⟩,sm.trans wL⟩
         .cases k2
     | exit j=>exact next _ _ _ _ _ _ _ k2 (le.trans iD) gs2 (sm.trans wL)
     | goto l=>exact next _ _ _ _ _ _ _ k2 (le.trans iD) gs2 (sm.trans wL)
     | ret=>exact next _ _ _ _ _ _ _ k2 (le.trans iD) gs2 (sm.trans wL)
     | panic ch=>exact next _ _ _ _ _ _ _ k2 (le.trans iD) gs2 (sm.trans wL)
     | outgrown=>exact next _ _ _ _ _ _ _ k2 (le.trans iD) gs2 (sm.trans wL)
   .cases k
 | .rangeFunc _ _ _ _,i,s,h,β,w,a,K,Q,gs,k,next=>k.elim
 | .scope _,i,s,h,β,w,a,K,Q,gs,k,next=>k.elim
 | .label _,i,s,h,β,w,a,K,Q,gs,k,next=>k.elim
 | .goto _,i,s,h,β,w,a,K,Q,gs,k,next=>k.elim
 | .refuse _,i,s,h,β,w,a,K,Q,gs,k,next=>k.elim
end
abbrev Gg:(ss:List Sh)->bU ss->List SV
 | [],_=>[]
 | s :: l,d=>.c (.fp s d.1) :: Gg l d.2
theorem Jr{h:FH}:∀{ss:List Sh}{d:bU ss}{ys:List Value},capD h ss d ys->aS (dh h []) (Gg ss d) ys
 | [],_,[],_=>trivial
 | [],_,_ :: _,x=>x.elim
 | _ :: _,_,[],x=>x.elim
 | _ :: _,_,_ :: _,⟨⟨b,cs,e,r,at_⟩,x⟩=>⟨⟨⟨b,0,cs,e,r,at_⟩,by subst e;exact iT _⟩,Jr x⟩
abbrev Yi{ss:List Sh} (L:List (bU ss)) (e:Exit) (g:Option Nat):Prop:=match e with
 | .normal=>match g with
   | none=>True
   | some i=>i=aQ L
 | .ret=>match g with
   | none=>True
   | some i=>i=aQ L
 | _=>False
theorem G5{P:Program}{fn:Func} (hrs:tl fn.results=[]){tmps:Array Value}{R:Ending->World->Prop}{J:World->Prop}{Gf:Nat->Prop} (ab:∀A A',J A->Gs Gf A A'->(∀b,Gf b->b < A'.heap.size)->J A') (hR:∀w v,J w->R (.returned v) w):
 ∀(X:List Nat){w:World},X.Nodup->(∀D∈X,Gf D/\w.heap[D]?=some (.deferred (some [])))->(∀b,Gf b->b < w.heap.size)->J w ->
 LeavesInM Fence.wide 0 P fn tmps R (X.map (λD=>({ target:=.collected D,args:=#[] }:Deferred))) .returning w
 | [],w,_,_,_,hJ=>⟨_,Bq (a:={ tmps:=tmps,defers:=[] }) (ys:=[]) (by rw[hrs];rfl),hR _ _ hJ⟩
 | D :: X,w,hn,hx,iQ,hJ=>by
   obtain⟨h1,h2⟩:=hx D (by simp)
   have hn:=Uc.1 hn;refine⟨λhh=>(by cases hh),.inl ⟨D,w.putObj D (.deferred none),rfl,run_takeDeferred h2,?_⟩⟩
   have hlt':∀b,Gf b->b < (w.putObj D (.deferred none)).heap.size:=λb hb=>by simpa using iQ b hb
   refine G5 hrs ab hR X hn.2 (λD' hD'=>?_) hlt' (ab _ _ hJ ⟨rfl,rfl,rfl,by simp,pz _,λk _ hk=>World.putObj_heap_other (by rintro rfl;exact hk h1)⟩ hlt')
   obtain⟨g1,g2⟩:=hx D' (by simp[hD'])
   refine⟨g1,(World.putObj_heap_other ?_).trans g2⟩;rintro rfl;exact hn.1 hD'
theorem Yj{P:Program}{E:Env} (ok:gI P E) (hr:E.rd=false){g:FuncId}{fn:Func}{body:Code} (hf:P.funcs[g]?=some fn) (hb:fn.body=some body) (hname:(fn.name == "runtime.NumGoroutine")=false) (hn:fn.ntmps=E.n) (hrs:tl fn.results=[])
 {ss:List Sh}{L:List (bU ss)} (hfl:allL iV ss=true){cs:List Sh}{ds:bU cs} (hle:Nat.ble (aQ cs+1) E.n=true)
 (k:∃ann,∀l,AA { E with ann:=ann } l ss L body 0 { env:=BO 0 (.c (.abs (.Wq l)) :: Gg cs ds),T:=[],gl:=[],gs:=[] } λe g _=>Yi L e g)
 {h:FH} (hg:aI E.cx.gd h){lb:List Value} (cap:capD h cs ds lb):Gives P h ss L (.func (.func g) #[] lb.toArray):=by
 obtain⟨ann,k⟩:=k;refine⟨g,lb.toArray,rfl,⟨fn,hf,by rw[hb];rfl,hname⟩,λl J W h1 h2 h3 h4=>?_⟩
 have okE:gI P { E with ann:=ann }:=⟨ok.prog,ok.hc,ok.XI,ok.mixed,ok.ti,ok.ct,ok.ip,ok.sq,ok.sf⟩
 have hy:Yl P h l ss L J:=⟨h1,h2,h3⟩;have hcl:lb.length=cs.length:=by
  have:∀{cs:List Sh}{ds:bU cs}{lb:List Value},capD h cs ds lb->lb.length=cs.length:=by
   intro cs
   induction cs with
   | nil=>intro ds lb x;cases lb with | nil=>rfl | cons _ _=>exact x.elim
   | cons p l ih=>intro ds lb x;cases lb with | nil=>exact x.elim | cons v m=>simp[ih x.2]
  exact this cap
 have hln:lb.length+1<=E.n:=by have:=qm hle;rw[bF]at this;omega
 have eargs:(#[.func (.yield l) #[] #[]]++lb.toArray:Array Value)=(.func (.yield l) #[] #[] :: lb).toArray:=by simp
 rw[eargs];refine callsIn_of_wp_marks (F:=Fence.wide) (n:=0) hf hb trivial ?_;have hav:aS (dh h []) (.c (.abs (.Wq l)) :: Gg cs ds) (.func (.yield l) #[] #[] :: lb):=⟨⟨rfl,rfl,rfl⟩,Jr cap⟩;have look:∀{xs:List SV}{ys:List Value}{n t:Nat}{G:Gd}{e:aZ},aS (dh h []) xs ys->iF (BO n xs) t=some (G,e)->∃y,G=[]/\n<=t/\ys[t - n]?=some y/\jF h [] e y:=by
  intro xs
  induction xs with
  | nil=>intro ys n t G e _ hh;simp[BO,iF]at hh
  | cons x xs ih=>
    intro ys n t G e a hh;cases ys with
    | nil=>exact a.elim
    | cons y ys=>
      simp only[BO]at hh;rw[bC]at hh;split at hh
      .rename_i hk;subst hk;cases hh;exact⟨y,rfl,pz _,by simp,a.1⟩
      .obtain⟨u,h1,h2,h3,h4⟩:=ih a.2 hh;refine⟨u,h1,by omega,?_,h4⟩
       rw[show t - n=(t - (n+1))+1 by omega]
       simpa using h3
 have aj:Sat E.n (Base.of W) h { env:=BO 0 (.c (.abs (.Wq l)) :: Gg cs ds),T:=[],gl:=[],gs:=[] } h [] W { tmps:=(.func (.yield l) #[] #[] :: lb).toArray++Array.replicate (fn.ntmps - (.func (.yield l) #[] #[] :: lb:List Value).toArray.size) undef,defers:=[] }:=by
  refine⟨⟨Bw.refl (Base.of W),pz _,rfl,λi r v e _=>by simp[eff]at e,λi r v b e _ _ _=>by simp[eff]at e,λi j r r' u v b e _ _ _ _ _ _ _=>by simp[eff]at e,FH.le.refl h,h1 _ _ _ h4,λb o v hh=>.inl hh,λk o hh=>hh.elim⟩,?_,?_,N8.nil rfl,?_,?_,?_⟩
  .intro t G e ht;obtain⟨y,rfl,h2,h3,h4⟩:=look hav ht;simp only[Nat.sub_zero]at h3;refine⟨y,?_,λ_=>h4,λhh=>by cases hh⟩
   rw[Array.getElem?_append_left (by have:=(A8.1 h3).1;simpa using this)]
   simpa using h3
  .intro d i hi;cases hi
  .simp only[A85,FT,Array.size_replicate,wV];omega
  .intro t G e ht;obtain⟨y,rfl,_⟩:=look hav ht;rfl
  .intro p hp;cases hp
 have gs0:GS E.n J h (some 0) { env:=BO 0 (.c (.abs (.Wq l)) :: Gg cs ds),T:=[],gl:=[],gs:=[] } h [] W { tmps:=(.func (.yield l) #[] #[] :: lb).toArray++Array.replicate (fn.ntmps - (.func (.yield l) #[] #[] :: lb:List Value).toArray.size) undef,defers:=[] }:=
  ⟨Base.of W,λ_=>False,h4,λb hb=>hb.elim,λk=>by simp,λk o hh=>hh.elim,aj⟩
 refine sD okE hg hr hy hfl body gs0 (k l) λe g' s' h' β' w' a' ke le gs' sm=>?_
 obtain⟨B,G,hJ,hG,ha,hnc,aW⟩:=gs';obtain⟨X,x1,x2,x3⟩:=aW.defers;have hJn:=GS.now h2 hJ ha aW;have fin:Yi L .ret g'->LeavesInM Fence.wide 0 P fn a'.tmps (λe W'=>(∃v,e=.returned v)/\∃G,J (some L.length) G W'\/J none G W') a'.defers .returning w':=by
  intro hh;rw[x1];refine G5 hrs (J:=λw=>J g' (BP B w') w) (Gf:=BP B w') (λA A' hA hgs iQ=>h2 _ _ _ _ _ hA hgs λb hb=>⟨iQ b hb,.inl hb⟩) (λw v hA=>⟨⟨v,rfl⟩,BP B w',?_⟩) X x2 (λD hD=>⟨⟨(x3 D hD).1,(Dh.1 (aW.ok.kn D _ (x3 D hD).2)).1⟩,aW.ok.kn D _ (x3 D hD).2⟩) (λb hb=>hb.2) hJn
  cases g' with
  | none=>exact .inr hA
  | some i=>
    have hh:i=aQ L:=hh;rw[bF]at hh;subst hh;exact .inl hA
 cases e with
 | normal=>exact fin ke
 | ret=>exact fin ke
 | exit i=>exact ke.elim
 | goto l=>exact ke.elim
 | panic ch=>exact ke.elim
 | outgrown=>exact ke.elim
theorem LV:∀{cs:List Sh}{ds:bU cs},aQ (Gg cs ds)=aQ cs
 | [],_=>rfl
 | _ :: l,d=>by simp only[Gg,aQ];rw[LV]
theorem Bf.cn{h:FH}:∀{ss:List Sh}{d:bU ss}{ys:List Value},Bf h ss d ys->aS (dh h []) (fC ss d) ys
 | [],_,[],_=>trivial
 | [],_,_ :: _,x=>x.elim
 | _ :: _,_,[],x=>x.elim
 | s :: l,d,y :: ys,⟨⟨cs,e,r⟩,b⟩=>⟨by rw[e];exact jh s r,Bf.cn b⟩
theorem aiX{P:Program}{cx:Cx}{n:Nat}{cl:List (Nat×CT)}{rc:List RC} (mx:P.follows .mixedOrders=true) (ti:bT P cx.ti) (cm:lI P cx.gd cl){g:FuncId}{fn:Func} (hf:P.funcs[g]?=some fn) (hb:fn.body=some (jL fn)) (hn:fn.ntmps=n)
 {cs ss:List Sh}{r:Sh} (hfl:iV r=true) (hle:Nat.ble (aQ ss+aQ cs) n=true) (hs:fn.body.isSome=true) (hname:(fn.name == "runtime.NumGoroutine")=false)
 {ano:bU cs->Prop}{pre:bU cs->bU ss->Prop}{f:bU cs->bU ss->r.den}
 (k:∀ds d,ano ds->pre ds d->∃ann,uP (Pj P cx n cl [] [] rc ann) (jL fn) (tl fn.results) (fA (fC ss d) (Gg cs ds)) λT e=>[]=T/\.one (iG r (f ds d))=e):
 Ye P cx.gd g { ss:=cs,f:=λds=>.clo P ss r (pre ds) (f ds),pre:=ano }:=by
 intro ds h lb hp hg cap;refine⟨g,lb.toArray,rfl,⟨fn,hf,hs,hname⟩,λd vs h' w le hw hd hpd=>?_⟩
 have C:CTS P cx.gd g (Gg cs ds) { ps:=ss,pre:=pre ds,res:=λd=>([],.one (iG r (f ds d))) }:=
  Pe (E:=Pj P cx n cl [] [] rc λ_=>none) (Jm mx ti cm trivial trivial) hf hb hn (by rw[LV];exact hle) (λd hd=>k ds d hp hd)
 have:=C d vs lb h' w hw (hg.mono le) hd.cn (Jr (cap.mono le)) hpd;rw[show vs.toArray++lb.toArray=(vs++lb).toArray by simp]
 refine this.mono ?_;rintro en w' ⟨h'',β,y,rfl,ok,c⟩;obtain⟨cs',e,rd⟩:=Aj r (show dh h'' β (iG r (f ds d)) y from c)
 exact⟨y,rfl,⟨cs',e,rd.flat r hfl⟩,Bw.bel ok.below,ok.dr⟩
end Go.jf
namespace Go.jf
open Go
theorem ak{n:Int}:mY .i64 n↔-9223372036854775808<=n/\n<=9223372036854775807:=by
 unfold mY;simp only[IntKind.wrap,IntKind.bits,IntKind.signed];constructor<;>intro h<;>simp at *<;>omega
theorem eH{n b:Nat}:nR n b↔n * b<=140737488355328:=Iff.rfl
theorem aiY(d:ByteArray) (j:Nat):d[j]?=d.data.toList[j]?:=by
 by_cases h:j < d.size
 .rw[getElem?_pos d j h,Array.getElem?_toList,getElem?_pos d.data j h];rfl
 .rw[getElem?_neg d j h,Array.getElem?_toList,getElem?_neg d.data j h]
theorem zk{h:FH}{k:IntKind}:∀{l:List Int}{cs:List Value},gq (Rd h (.int k)) cs l↔cs=l.map (Value.int k)
 | [],cs=>by simp[gq]
 | x :: l,cs=>by
   simp only[gq,Rd,TT];constructor
   .rintro⟨c,r,rfl,rfl,hr⟩;rw[(zk (h:=h)).1 hr];rfl
   .rintro rfl;exact⟨[.int k x],l.map (Value.int k),rfl,rfl,(zk (h:=h)).2 rfl⟩
def jD(l:List Int):List Int:=l.mergeSort λx y=>decide (x<=y)
abbrev EK:IP:={ sh:=.int .i64,ps:=[],pre:=λl _=>l.length < 4611686018427387904,res:=λl _=>jD l,back:=false }
abbrev AL:IP:={ sh:=.int .i64,ps:=[],pre:=λl _=>l.length < 4611686018427387904,res:=λl _=>Lib.compact l,back:=true }
theorem LW(l:List Int):(Lib.compact l).length<=l.length:=by
 unfold Lib.compact Lib.compactUpTo;rw[VW];refine pq (TV _ _) (by simp)
theorem G6{w:World}{g n:Nat}{os:Array Obj} (d:Array Int):Gb w (Sort.grow (Sort.putRow (Value.int .i64) (Sort.ahead w n) g 0 d) os) (some g):=
 ⟨grownBy_sortedI d,by simp[Sort.grow,Sort.putRow,Sort.mapBlock,Sort.ahead]⟩
theorem Ru{h:FH}{w:World}{t:TypeId}{l:List Int}{g cap:Nat}{cur:Array Value} (hb:w.heap[g]?=some (.cells cur t (0,0))) (hc:l.length<=cap) (hcap:1<=cap/\cap<=maxLen) (hsz:cur.size=cap * 1){ts:List Int} (hts:ts.length=l.length){k:Nat} (hk:k<=ts.length){n:Nat}{os:Array Obj}:
 Holds h [] (Sort.grow (Sort.putRow (Value.int .i64) (Sort.ahead w n) g 0 ts.toArray) os) (.row t (.int .i64) (ts.take k)) (.row (.slice (some ⟨g,0,none⟩) (ts.take k).length cap)):=by
 refine .inr (.inr ⟨g,cap,_,rfl,heap_sortedI _ hb,by rw[kX];omega,hcap,by simp[Sort.putCells,hsz,Sh.size],zk.2 ?_⟩)
 have e:=take_putCellsI cur ts (by omega)
 rw[Wh,kX,show min k ts.length=k by omega]
 have:(Sort.putCells (Value.int .i64) 0 ts.toArray cur).toList.take k=((Sort.putCells (Value.int .i64) 0 ts.toArray cur).toList.take ts.length).take k:=by rw[List.take_take,show min k ts.length=k by omega]
 rw[this,e,List.map_take]
theorem Vg{P:Program}{gd:Nat->Option (Sigma Sh.den)}{f:FuncId}{cz:CT} (hz:II P gd f cz) (ez:cz={ ps:=[.sl (.int .i64)],pre:=λd=>d.1=[],res:=λd=>([],.gV []) })
 (hs:∀(blk cap:Nat) (zs:List Int) (w:World),Sort.Holds (Value.int .i64) w blk 0 zs.toArray->blk < w.heap.size->zs.length < 4611686018427387904 ->
  Calls P f #[.slice (some ⟨blk,0,none⟩) zs.length cap] w λe w'=>e=.returned (.tuple #[])/\∃n os,w'=Sort.grow (Sort.putRow (Value.int .i64) (Sort.ahead w n) blk 0 (jD zs).toArray) os):
 UF P gd f EK:=by
 intro t l d v vs h w hw hg hold hfr hvs aF;subst ez;cases vs with
 | cons _ _=>exact hvs.elim
 | nil=>
   have zero:∀v:Value,qC h (Rd h (.int .i64)) v []->(Holds h [] w (.row t (.int .i64) []) (.row v))->Calls P f #[v] w (λen w'=>∃v' y,en=.returned y/\Gb w w' (aA v)/\(∀b,aA v'=some b->aA v=some b\/(w.heap.size<=b/\b < w'.heap.size)) /\
    Holds h [] w' (.row t (.int .i64) (jD [])) (.row v')/\(EK.back=true->y=v')/\(EK.back=false->y=.tuple #[]/\v'=v)):=by
    intro v hv hold;refine(hz ([],()) [v] h w hw hg ⟨⟨hv,hv.dF⟩,trivial⟩ rfl).mono ?_;rintro en w' ⟨h',β',y,rfl,ok,he⟩;obtain⟨ys,rfl,ha⟩:=he;cases ys with
    | cons _ _=>exact ha.elim
    | nil=>
      refine⟨v,_,rfl,?_,λb hb=>.inl hb,?_,λhh=>(by cases hh),λ_=>⟨rfl,rfl⟩⟩
      .exact⟨⟨ok.below.os,ok.below.tape,ok.below.output,ok.below.size,λk hk _=>(Bw.bel ok.below).block k hk⟩,ok.dr⟩
      .rw[show jD []=[] by simp[jD]]
       rcases hold with e | e | ⟨g,cap,cur,rfl,e1,e2,e3,e4,r⟩
       .exact .inl e
       .exact .inr (.inl e)
       .refine .inr (.inr ⟨g,cap,cur,rfl,?_,e2,e3,e4,r⟩);rw[(Bw.bel ok.below).block g (Dh.1 e1).1];exact e1
   rcases hold with⟨rfl,rfl⟩ | ⟨ra,rfl,rfl⟩ | ⟨g,cap,cur,rfl,e1,e2,e3,e4,r⟩
   .exact zero _ (.inl ⟨rfl,rfl⟩) (.inl ⟨rfl,rfl⟩)
   .exact zero _ (.inr (.inl ⟨ra,0,rfl,rfl,Ko _⟩)) (.inr (.inl ⟨ra,rfl,rfl⟩))
   .have hr:=zk.1 r;rw[Wh]at hr;have hgs:g < w.heap.size:=(Dh.1 e1).1;refine(hs g cap l w (holds_of_blockI e1 hr) hgs aF).mono ?_;rintro en w' ⟨rfl,n,os,rfl⟩;have hl:(jD l).length=l.length:=by simp[jD]
    refine⟨.slice (some ⟨g,0,none⟩) l.length cap,_,rfl,by rw[aY e3.1];exact G6 _,λb hb=>.inl hb,?_,λhh=>(by cases hh),λ_=>⟨rfl,rfl⟩⟩
    have:=Ru (h:=h) (n:=n) (os:=os) e1 e2 e3 e4 hl (pz _);rw[V5,hl]at this;exact this
theorem Js{P:Program}{gd:Nat->Option (Sigma Sh.den)}{f:FuncId}
 (hz:∀(a:Option Addr) (cap:Nat) w,Calls P f #[.slice a 0 cap] w λe w'=>e=.returned (.slice a 0 cap)/\w'=w)
 (hs:∀(blk cap:Nat) (zs:List Int) (w:World),Sort.Holds (Value.int .i64) w blk 0 zs.toArray->zs.length<=9223372036854775807->zs.length<=cap ->
  Calls P f #[.slice (some ⟨blk,0,none⟩) zs.length cap] w λe w'=>e=.returned (.slice (some ⟨blk,0,none⟩) (Lib.compact zs).length cap) /\
   ∃q,w'=Sort.putRow (Value.int .i64) (Sort.ahead w q) blk 0 (Lib.compact zs++List.replicate (zs.length - (Lib.compact zs).length) 0).toArray):
 UF P gd f AL:=by
 intro t l d v vs h w hw hg hold hfr hvs aF;cases vs with
 | cons _ _=>exact hvs.elim
 | nil=>
   rcases hold with⟨rfl,rfl⟩ | ⟨ra,rfl,rfl⟩ | ⟨g,cap,cur,rfl,e1,e2,e3,e4,r⟩
   .refine(hz none 0 w).mono ?_;rintro en w' ⟨rfl,rfl⟩;exact⟨.slice none 0 0,_,rfl,bV _ _,λb hb=>.inl hb,.inl ⟨rfl,rfl⟩,λ_=>rfl,λhh=>(by cases hh)⟩
   .refine(hz (some ra) 0 w).mono ?_;rintro en w' ⟨rfl,rfl⟩;exact⟨.slice (some ra) 0 0,_,rfl,bV _ _,λb hb=>.inl hb,.inr (.inl ⟨ra,rfl,rfl⟩),λ_=>rfl,λhh=>(by cases hh)⟩
   .have hr:=zk.1 r;rw[Wh]at hr;have aF:l.length < 4611686018427387904:=aF;refine(hs g cap l w (holds_of_blockI e1 hr) (by omega) e2).mono ?_
    rintro en w' ⟨rfl,q,rfl⟩;have hc:=LW l;have hl:(Lib.compact l++List.replicate (l.length - (Lib.compact l).length) 0).length=l.length:=by simp;omega
    have:=Ru (h:=h) (n:=q) (os:=#[]) e1 e2 e3 e4 hl (k:=(Lib.compact l).length) (by omega)
    rw[VX,Sort.grow_empty]at this;refine⟨.slice (some ⟨g,0,none⟩) (Lib.compact l).length cap,_,rfl,?_,λb hb=>.inl (by rw[aY e3.1]at hb ⊢;exact hb),this,λ_=>rfl,λhh=>by cases hh⟩
    have:=G6 (w:=w) (g:=g) (n:=q) (os:=#[]) (Lib.compact l++List.replicate (l.length - (Lib.compact l).length) 0).toArray;rw[aY e3.1]
    rwa [Sort.grow_empty]at this
def Pm{α β:Type} (f:α->Option β):List α->Option (List β)
 | []=>some []
 | x :: l=>match f x with
   | some y=>match Pm f l with
     | some m=>some (y :: m)
     | none=>none
   | none=>none
def zl{H:Type}:(s:Sh)->DataW H->Option s.den
 | .int k,d=>match d with
   | .lit (.int k' n)=>if k=k' then some n else none
   | _=>none
 | .bool,d=>match d with
   | .lit (.bool b)=>some b
   | _=>none
 | .str,d=>match d with
   | .lit (.string l)=>some ⟨l.toArray⟩
   | _=>none
 | .any,_=>none
 | .sl s,d=>match d with
   | .nil=>some []
   | .slice es _=>Pm (zl s) es
   | _=>none
 | .pair a b,d=>match d with
   | .agg (p :: ps)=>match zl a p with
     | some x=>match zl b (.agg ps) with
       | some y=>some (x,y)
       | none=>none
     | none=>none
   | _=>none
 | .unit,d=>match d with
   | .agg []=>some ()
   | _=>none
 | .arr n s,d=>match d with
   | .agg ps=>if ps.length=n then Pm (zl s) ps else none
   | _=>none
 | .mp _ _,_=>none
def wfD:(s:Sh)->s.den->Prop
 | .int k,n=>(Lit.int k n).wf=true
 | .bool,_=>True
 | .str,b=>b.size<=maxLen
 | .any,_=>True
 | .sl s,l=>l.length<=maxLen/\∀x∈l,wfD s x
 | .pair a b,p=>wfD a p.1/\wfD b p.2
 | .unit,_=>True
 | .arr n s,l=>l.length=n/\∀x∈l,wfD s x
 | .mp _ _,_=>True
def rM(P:Program):Sh->(TypeId->Bool)×(List Field->Nat->Bool)
 | .int k=>(λt=>match P.underlying t with | some (.int k')=>decide (k=k') | _=>false,λ_ _=>false)
 | .bool=>(λt=>match P.underlying t with | some .bool=>true | _=>false,λ_ _=>false)
 | .str=>(λt=>match P.underlying t with | some .string=>true | _=>false,λ_ _=>false)
 | .any=>(λ_=>false,λ_ _=>false)
 | .mp _ _=>(λ_=>false,λ_ _=>false)
 | .sl s=>(λt=>match P.underlying t with | some (.slice e)=>(rM P s).1 e && P.cellsOf e == s.size && decide (1<=s.size) | _=>false,λ_ _=>false)
 | .arr n s=>(λt=>match P.underlying t with | some (.array m e)=>m == n && (rM P s).1 e && P.cellsOf e == s.size && P.cellsOf t == n * s.size | _=>false,λ_ _=>false)
 | .pair a b=>(λt=>match P.underlying t with
  | some (.struct fs)=>P.cellsOf t == a.size+b.size && (match fs.toList with
    | f :: r=>f.offset == 0 && P.cellsOf f.type == a.size && (rM P a).1 f.type && (rM P b).2 r a.size
    | []=>false)
  | _=>false,
   λfs off=>match fs with
    | f :: r=>f.offset == off && P.cellsOf f.type == a.size && (rM P a).1 f.type && (rM P b).2 r (off+a.size)
    | []=>false)
 | .unit=>(λt=>match P.underlying t with
  | some (.struct fs)=>P.cellsOf t == 0 && fs.toList.isEmpty
  | _=>false,
   λfs _=>fs.isEmpty)
section
variable {H:Type}{enc:TypeId×Value->H}{P:Program}{W:World}{sp:Nat->Bool}{held:Bool}
def OpT(enc:TypeId×Value->H) (P:Program) (W:World) (sp:Nat->Bool) (held:Bool) (s:Sh) (t:TypeId):Prop:=
 ∀(fuel:Nat) (cs:List Value) (x:DataW H×List MemPlace),DataW.trod enc P W 0 sp held fuel t cs=some x->∃y,zl s x.1=some y/\Rd (FH.all W) s cs y/\wfD s y
theorem EL{s:Sh}{e:TypeId}{n:Nat}{a:Addr} (hs:OpT enc P W sp held s e):∀(elems:List (DataW H×List MemPlace)) (k:Nat),
 (∀i,i < elems.length->(W.cells? 0 (a.add ((k+i) * s.size)) s.size).bind (DataW.trod enc P W 0 sp held n e)=elems[i]?) ->
 ∃CS L,Pm (zl s) (elems.map (·.1))=some L/\gq (Rd (FH.all W) s) CS L/\L.length=elems.length/\(∀j u,CS[j]?=some u->W.cell? (a.add (k * s.size+j))=some u)/\∀x∈L,wfD s x
 | [],k,_=>⟨[],[],rfl,rfl,rfl,λj u e=>by simp at e,λx hx=>by simp at hx⟩
 | x :: elems,k,he=>by
   have h0:=he 0 (by simp)
   simp only[Ug,A99,Option.bind_eq_some_iff]at h0;obtain⟨cs,hc,hx⟩:=h0;obtain⟨y,y1,y2,y3⟩:=hs _ _ _ hx;obtain⟨CS,L,l1,l2,l3,l4,l5⟩:=EL hs elems (k+1) (λi hi=>by
    have:=he (i+1) (by simpa using hi)
    rw[show k+1+i=k+(i+1) by omega]
    simpa using this)
   obtain⟨_,c2,c3⟩:=World.cells?_some hc;refine⟨cs++CS,y :: L,?_,⟨cs,CS,rfl,y2,l2⟩,by simp[l3],?_,?_⟩
   .simp only[TT,Pm,y1,l1]
   .intro j u hu
    by_cases hj:j < cs.length
    .rw[VJ hj]at hu;have:=c3 j (by omega)
     rw[hu]at this;rw[<-this,Addr.add_add]
    .rw[NM (by omega)]at hu
     have:=l4 (j - cs.length) u hu;rw[show k * s.size+j=(k+1) * s.size+(j - cs.length) by rw[wY];omega]
     exact this
   .intro z hz;rcases ni.1 hz with rfl | hz
    .exact y3
    .exact l5 z hz
theorem LX{s:Sh}{e:TypeId}{m:Nat} (hs:OpT enc P W sp held s e):∀(xs:List (DataW H×List MemPlace)) (cs:List Value),cs.length=xs.length * s.size ->
 (∀i,i < xs.length->DataW.trod enc P W 0 sp held m e ((cs.drop (i * s.size)).take s.size)=xs[i]?) ->
 ∃L,Pm (zl s) (xs.map (·.1))=some L/\gq (Rd (FH.all W) s) cs L/\L.length=xs.length/\∀x∈L,wfD s x
 | [],cs,hl,_=>⟨[],rfl,by simpa[gq]using hl,rfl,λx hx=>by simp at hx⟩
 | x :: xs,cs,hl,he=>by
   have h0:=he 0 (by simp)
   simp only[NW,NR,A99]at h0;obtain⟨y,y1,y2,y3⟩:=hs _ _ _ h0;obtain⟨L,l1,l2,l3,l4⟩:=LX hs xs (cs.drop s.size) (by rw[yj,hl,wV,wY];omega) (λi hi=>by
    have:=he (i+1) (by simpa using hi)
    rw[Ue,show s.size+i * s.size=(i+1) * s.size by rw[wY];omega]
    simpa using this)
   refine⟨y :: L,by simp only[TT,Pm,y1,l1],⟨cs.take s.size,cs.drop s.size,(VL _ _).symm,y2,l2⟩,by simp[l3],?_⟩
   intro z hz;rcases ni.1 hz with rfl | hz
   .exact y3
   .exact l4 z hz
def OpF(enc:TypeId×Value->H) (P:Program) (W:World) (sp:Nat->Bool) (held:Bool) (s:Sh) (fs:List Field) (off:Nat):Prop:=
 ∀(n:Nat) (cs:List Value) (xs:List (DataW H×List MemPlace)),cs.length=off+s.size->xs.length=fs.length ->
   (∀(i:Nat) (f:Field),fs[i]?=some f->DataW.trod enc P W 0 sp held n f.type ((cs.drop f.offset).take (P.cellsOf f.type))=xs[i]?) ->
   ∃y,zl s (.agg (xs.map (·.1)))=some y/\Rd (FH.all W) s (cs.drop off) y/\wfD s y
theorem G7{a b:Sh}{f:Field}{r:List Field}{off:Nat} (h1:f.offset=off) (h2:P.cellsOf f.type=a.size) (ha:OpT enc P W sp held a f.type) (hb:OpF enc P W sp held b r (off+a.size)):
 OpF enc P W sp held (.pair a b) (f :: r) off:=by
 intro n cs xs hl hx he;cases xs with
 | nil=>simp at hx
 | cons x xs=>
   have h0:=he 0 f rfl;rw[h1,h2]at h0;obtain⟨y,y1,y2,y3⟩:=ha _ _ _ h0;obtain⟨z,z1,z2,z3⟩:=hb n cs xs (by rw[hl];simp only[Sh.size];omega) (by simpa using hx) (λi g hg=>by simpa using he (i+1) g (by simpa using hg))
   refine⟨(y,z),?_,⟨(cs.drop off).take a.size,cs.drop (off+a.size),?_,y2,z2⟩,y3,z3⟩
   .simp only[TT,zl,y1,z1]
   .rw[<-Ue];exact(VL _ _).symm
theorem ru:∀(s:Sh),(∀t,(rM P s).1 t=true->OpT enc P W sp held s t)/\(∀fs off,(rM P s).2 fs off=true->OpF enc P W sp held s fs off)
 | .int k=>by
   refine⟨λt ht fuel cs x h=>?_,λfs off hf=>by simp[rM]at hf⟩
   simp only[rM]at ht;split at ht
   .rename_i k' hu;simp only[dH]at ht;subst ht;obtain⟨n,rfl,rfl,hw⟩:=DataW.trod_int hu h;exact⟨n,by simp[zl],rfl,hw⟩
   .cases ht
 | .bool=>by
   refine⟨λt ht fuel cs x h=>?_,λfs off hf=>by simp[rM]at hf⟩
   simp only[rM]at ht;split at ht
   .rename_i hu;obtain⟨b,rfl,rfl⟩:=DataW.trod_bool hu h;exact⟨b,rfl,rfl,trivial⟩
   .cases ht
 | .str=>by
   refine⟨λt ht fuel cs x h=>?_,λfs off hf=>by simp[rM]at hf⟩
   simp only[rM]at ht;split at ht
   .rename_i hu;obtain⟨b,rfl,rfl,hb⟩:=DataW.trod_string hu h;exact⟨b,rfl,rfl,hb⟩
   .cases ht
 | .any=>⟨λt ht=>by simp[rM]at ht,λfs off hf=>by simp[rM]at hf⟩
 | .mp _ _=>⟨λt ht=>by simp[rM]at ht,λfs off hf=>by simp[rM]at hf⟩
 | .sl s=>by
   refine⟨λt ht fuel cs x h=>?_,λfs off hf=>by simp[rM]at hf⟩
   simp only[rM]at ht;split at ht
   .rename_i e hu;simp only[bY,Bd,dH]at ht;obtain⟨⟨ht,hc⟩,h1⟩:=ht;have ih:=(ru s).1 e ht;rcases DataW.trod_slice hu h with⟨rfl,rfl⟩ | ⟨a,len,cap,elems,rest,n,_,rfl,rfl,_,hle,hcap,hlen,hel,_,_⟩
    .exact⟨[],rfl,⟨_,rfl,.inl ⟨rfl,rfl⟩⟩,Ko _,λx hx=>by simp at hx⟩
    .rw[hc]at hel;obtain⟨CS,L,l1,l2,l3,l4,l5⟩:=EL (n:=n) (a:=a) ih elems 0 (λi hi=>by rw[Dk];exact hel i (by omega))
     refine⟨L,l1,⟨_,rfl,?_⟩,by rw[l3];omega,l5⟩
     by_cases h0:len=0
     .have:L=[]:=VI (by omega)
      subst this;subst h0;exact .inr (.inl ⟨a,cap,rfl,rfl,hcap⟩)
     .have hsz:=gq.size (λ_ _=>Rd.size s) l2
      have hpos:0 < CS.length:=by rw[hsz,l3,hlen];exact Nat.mul_pos (by omega) (by omega)
      have hcell:=l4 0 _ (lN hpos);have hspot:a.spot=none:=by
       unfold World.cell? at hcell;split at hcell
       .split at hcell
        .cases hcell
        .rename_i hn;simpa[Addr.add]using hn
       .cases hcell
      obtain⟨ab,ao,asp⟩:=a;simp only at hspot;subst hspot;refine .inr (.inr ⟨ab,ao,cap,by rw[l3,hlen],by omega,hcap,CS,l2,λj u hu=>?_⟩)
      have:=l4 j u hu;refine Wn ?_ (gq.all (λ_ _=>Rd.one s) l2 u (iy hu)).2
      rw[<-this]
      by_cases hj:j=0<;>simp[Addr.add,hj]
   .cases ht
 | .arr m s=>by
   refine⟨λt ht fuel cs x h=>?_,λfs off hf=>by simp[rM]at hf⟩
   simp only[rM]at ht;split at ht
   .rename_i m' e hu;simp only[bY,Bd]at ht;obtain⟨⟨⟨rfl,ht⟩,hc⟩,hct⟩:=ht;have ih:=(ru s).1 e ht;obtain⟨xs,n,_,rfl,hl,hx,he⟩:=DataW.trod_array hu h;rw[hc]at he;have hcl:cs.length=xs.length * s.size:=by rw[hl,hct,hx]
    obtain⟨L,l1,l2,l3,l4⟩:=LX (m:=n) ih xs cs hcl (λi hi=>he i (by omega))
    exact⟨L,by simp[zl,hx,l1],⟨by omega,l2⟩,⟨by omega,l4⟩⟩
   .cases ht
 | .pair a b=>by
   have iha:=ru a;have ihb:=ru b;constructor
   .intro t ht fuel cs x h;simp only[rM]at ht;split at ht
    .rename_i fs hu;simp only[bY,Bd]at ht;obtain⟨hc,ht⟩:=ht;split at ht
     .rename_i f r hfs;simp only[bY,Bd]at ht;obtain⟨⟨⟨t1,t2⟩,t3⟩,t4⟩:=ht;obtain⟨xs,n,_,rfl,hl,hx,he⟩:=DataW.trod_struct hu h;have:=G7 (off:=0) t1 t2 (iha.1 _ t3) (ihb.2 r _ (by simpa using t4)) n cs xs (by rw[hl,hc];simp) (by rw[hx,<-hfs];simp) (λi g hg=>he i g (by rw[<-hfs]at hg;simpa using hg))
      simpa using this
     .cases ht
    .cases ht
   .intro fs off hf;simp only[rM]at hf;split at hf
    .rename_i f r;simp only[bY,Bd]at hf;obtain⟨⟨⟨t1,t2⟩,t3⟩,t4⟩:=hf;exact G7 t1 t2 (iha.1 _ t3) (ihb.2 _ _ t4)
    .cases hf
 | .unit=>by
   constructor
   .intro t ht fuel cs x h;simp only[rM]at ht;split at ht
    .rename_i fs hu;simp only[bY,Bd,List.isEmpty_iff]at ht;obtain⟨hc,ht⟩:=ht;obtain⟨xs,n,_,rfl,hl,hx,he⟩:=DataW.trod_struct hu h;have hx0:xs=[]:=VI (by rw[hx,<-TR,ht];rfl)
     subst hx0;have:cs=[]:=VI (by omega)
     subst this;exact⟨(),rfl,rfl,trivial⟩
    .cases ht
   .intro fs off hf n cs xs hl hx he;simp only[rM,List.isEmpty_iff]at hf;subst hf;have:xs=[]:=VI (by simpa using hx)
    subst this;refine⟨(),rfl,?_,trivial⟩;show cs.drop off=[];rw[List.drop_eq_nil_iff];simp only[Sh.size]at hl;omega
end
end Go.jf
namespace Go.jf
open Go Go.RowKit Go.ChangeShapes Go.WideShapes
variable {t:TypeId}
section
variable {H:Type}{enc:TypeId×Value->H}{P:Program}{W:World}{sp:Nat->Bool}{held:Bool}
theorem cells_one{v:Value} (h:∀cs,v≠.agg cs):v.cells=#[v]:=by
 cases v<;>first | rfl | exact absurd rfl (h _)
theorem Yk{s:Sh}{v:Value}{d:DataW H}{ps:List MemPlace}{r:Reach}{b0:Nat} (hs:(rM P s).1 t=true) (hval:Value.okWide P W r b0 t v) (h:DataW.Trod enc P W 0 sp held t v d ps):
 ∃y,zl s d=some y/\dh (FH.all W) [] (iG s y) v/\wfD s y:=by
 obtain⟨fuel,hf⟩:=h;obtain⟨y,y1,y2,y3⟩:=(ru s).1 t hs _ _ _ hf;refine⟨y,y1,?_,y3⟩;have e:v=mkV s v.cells.toList:=by
  have one:s.isAgg=false->(∀cs,v≠.agg cs)->v=mkV s v.cells.toList:=by
   intro h1 h2;rw[cells_one h2];simp[mkV,h1]
  cases s with
  | int k=>
    refine one rfl λcs hc=>?_
    simp only[rM]at hs;split at hs
    .rename_i hu;subst hc;simp[Value.okWide,hu,Cell.okWide,Cell.ok]at hval
    .cases hs
  | bool=>
    refine one rfl λcs hc=>?_
    simp only[rM]at hs;split at hs
    .rename_i hu;subst hc;simp[Value.okWide,hu,Cell.okWide,Cell.ok]at hval
    .cases hs
  | str=>
    refine one rfl λcs hc=>?_
    simp only[rM]at hs;split at hs
    .rename_i hu;subst hc;simp[Value.okWide,hu,Cell.okWide,Cell.ok]at hval
    .cases hs
  | any=>simp[rM]at hs
  | mp _ _=>simp[rM]at hs
  | sl s=>
    refine one rfl λcs hc=>?_
    simp only[rM]at hs;split at hs
    .rename_i hu;subst hc;simp[Value.okWide,hu,Cell.okWide,Cell.ok]at hval
    .cases hs
  | pair a b=>
    simp only[rM]at hs;split at hs
    .rename_i hu;simp only[Value.okWide,hu]at hval;obtain⟨cs,rfl,_⟩:=hval;simp[mkV,Sh.isAgg,Value.cells]
    .cases hs
  | unit=>
    simp only[rM]at hs;split at hs
    .rename_i hu;simp only[Value.okWide,hu]at hval;obtain⟨cs,rfl,_⟩:=hval;simp[mkV,Sh.isAgg,Value.cells]
    .cases hs
  | arr n s=>
    simp only[rM]at hs;split at hs
    .rename_i hu;simp only[Value.okWide,hu]at hval;obtain⟨cs,rfl,_⟩:=hval;simp[mkV,Sh.isAgg,Value.cells]
    .cases hs
 rw[e];exact jh s y2
def Bz:(ss:List Sh)->List (DataW H)->Option (bU ss)
 | [],ds=>match ds with
   | []=>some ()
   | _=>none
 | s :: ss,ds=>match ds with
   | d :: r=>match zl s d with
     | some x=>match Bz ss r with
       | some y=>some (x,y)
       | none=>none
     | none=>none
   | []=>none
def aiZ:(ss:List Sh)->bU ss->Prop
 | [],_=>True
 | s :: ss,d=>wfD s d.1/\aiZ ss d.2
def Vh(P:Program):List Sh->List TypeId->Bool
 | [],[]=>true
 | s :: ss,t :: ts=>(rM P s).1 t && Vh P ss ts
 | _,_=>false
theorem G8:∀{ss:List Sh}{ds:List (DataW H)}{d:bU ss},Bz ss ds=some d->ds.length=ss.length
 | [],[],_,_=>rfl
 | [],_ :: _,_,h=>by simp[Bz]at h
 | _ :: _,[],_,h=>by simp[Bz]at h
 | s :: ss,x :: ds,d,h=>by
   simp only[Bz]at h;split at h
   .split at h
    .rename_i hr;simp[G8 hr]
    .cases h
   .cases h
theorem G9{r:Reach}{b0:Nat}:∀{ss:List Sh}{ts:List TypeId}{vs:List Value}{ds:List (DataW H)}{ps:List MemPlace},Vh P ss ts=true ->
 (∀(j:Nat) t v,ts[j]?=some t->vs[j]?=some v->Value.okWide P W r b0 t v)->DataW.TrodAll enc P W 0 sp held ts vs ds ps ->
 ∃d:bU ss,Bz ss ds=some d/\aS (dh (FH.all W) []) (fC ss d) vs/\aiZ ss d
 | [],[],vs,ds,ps,_,_,h=>by
   obtain⟨rfl,rfl,rfl⟩:=trodAll_nil h;exact⟨(),rfl,trivial,trivial⟩
 | s :: ss,t :: ts,vs,ds,ps,hs,hval,h=>by
   obtain⟨v,vs,d,ds,p,q,rfl,rfl,rfl,h1,h2⟩:=trodAll_cons h;simp only[Vh,bY]at hs;obtain⟨y,y1,y2,y3⟩:=Yk hs.1 (hval 0 t v rfl rfl) h1;obtain⟨z,z1,z2,z3⟩:=G9 hs.2 (λj t v e e'=>hval (j+1) t v (by simpa using e) (by simpa using e')) h2
   exact⟨(y,z),by simp only[Bz,y1,z1],⟨y2,z2⟩,y3,z3⟩
 | [],_ :: _,_,_,_,hs,_,_=>by simp[Vh]at hs
 | _ :: _,[],_,_,_,hs,_,_=>by simp[Vh]at hs
theorem LY:∀{laid:List (String×DataW Unit)}{ps:List MemPlace}{n:String}{D:DataW Unit},DataW.LaidVars P W laid ps->(n,D)∈laid ->
 ∃g t cs fuel p,P.globalNamed n=some g/\(P.globals[g]?).map (·.type)=some t/\W.var? P n=some cs/\DataW.trod (λ_=>()) P W 0 (λ_=>true) false fuel t cs.toList=some (D,p)
 | [],_,_,_,_,hm=>by simp at hm
 | (n',D') :: r,ps,n,D,h,hm=>by
   obtain⟨g,t,cs,fuel,p,q,h1,h2,h3,h4,h5,_⟩:=h;rcases ni.1 hm with e | hm
   .cases e;exact⟨g,t,cs,fuel,p,h1,h2,h3,h4⟩
   .exact LY h5 hm
theorem He{laid:List (String×DataW Unit)} (hL:laidMetH P laid W) (hnone:(laid.filter λx=>x.2.handleName?.isSome)=[]){n:String}{D:DataW Unit} (hm:(n,D)∈laid){g:Nat}{s:Sh}{y:s.den}
 (hg:P.globalNamed n=some g) (ht:(P.globals[g]?).map (·.type)=some t) (hs:(rM P s).1 t=true) (hd:zl s D=some y):∃cs,Rd (FH.all W) s cs y/\At (FH.all W) g 0 cs:=by
 unfold laidMetH at hL;rw[hnone]at hL;obtain⟨ps,hv,_⟩:=hL;obtain⟨g',t',cs,fuel,p,h1,h2,h3,h4⟩:=LY hv hm;rw[hg]at h1;cases h1;rw[ht]at h2;cases h2;obtain⟨y',y1,y2,_⟩:=(ru s).1 t hs _ _ _ h4;simp only at y1;rw[hd]at y1;cases y1;refine⟨_,y2,λj u hu=>?_⟩
 unfold World.var? at h3;rw[hg,Option.bind_some]at h3;split at h3
 .rename_i cs' _ _ he;cases h3;show vis W g (0+j)=some u;refine nY he ?_ (Rd.one s y2 u (iy hu)).2;simpa using hu
 .cases h3
def lay(cs:Array Value):Obj->Obj
 | .cells _ t frozen=>.cells cs t frozen
 | o=>o
theorem Pn{W':World} (hB:Below W.heap.size W W'){b o:Nat} (hb:b < W.heap.size):W'.frozen? ⟨b,o,none⟩=W.frozen? ⟨b,o,none⟩:=by
 simp only[World.frozen?,hB.block b hb]
theorem Po{W':World} (hB:Below W.heap.size W W'){p:MemPlace} (hb:p.block < W.heap.size):W.sameAt W' p:=by
 cases p with
 | cell b o=>
   show W'.cell? ⟨b,o,none⟩=W.cell? ⟨b,o,none⟩;simp only[World.cell?];rw[hB.block b hb]
 | map b=>exact hB.block b hb
theorem wM{W':World}{sp:Nat->Bool}:∀{ts:List TypeId}{vs:List Value}{ds:List (DataW H)}{ps:List MemPlace},DataW.TrodAll enc P W 0 sp held ts vs ds ps->(∀p∈ps,W.sameAt W' p) ->
 DataW.TrodAll enc P W' 0 sp held ts vs ds ps
 | [],_,_,_,h,_=>by obtain⟨rfl,rfl,rfl⟩:=trodAll_nil h;rfl
 | _ :: _,_,_,_,h,hs=>by
   obtain⟨v,vs,d,ds,p,q,rfl,rfl,rfl,⟨fuel,h1⟩,h2⟩:=trodAll_cons h;exact⟨p,q,⟨fuel,DataW.trod_carry _ _ _ _ h1 λx hx=>hs x (by simp[hx])⟩,wM h2 λx hx=>hs x (by simp[hx]),rfl⟩
theorem Vj{fn:Func}{s:ChangeSpec}{apart fresh handsOn again:Bool}{W':World}{args:Array Value}{ds gs:List (DataW H)}{before:List MemPlace}
 (hl:laidOutB P=true) (hm:mapsRowed P=true) (hz:∀t e,t < P.types.size->P.underlying t=some (.slice e)->0 < P.cellsOf e) (hts:∀t∈fn.params.toList,t < P.types.size)
 (hres:fn.resultTypes=#[t]) (ht:P.underlying t=some .bool) (hvars:s.vars=[]) (hfn:s.fn H (ds++gs)={ results:=[.lit (.bool true)],args:=ds })
 (hW:DataW.Whole enc P fn.params.toList s.vars apart W args.toList ds gs before) (hB:Below W.heap.size W W'):
 s.post enc P fn apart fresh handsOn again W args (.bool true) W':=by
 have iQ:=hW.lt;have hW':=hW;obtain⟨pa,pv,hA,hV,hps,hfz,hnd⟩:=hW;rw[hvars]at hV;obtain⟨rfl,rfl⟩:gs=[]/\pv=[]:=by
  cases gs with
  | nil=>exact⟨rfl,hV⟩
  | cons _ _=>exact hV.elim
 rw[Qo]at hps;subst hps;have same:∀p∈before,W.sameAt W' p:=λp hp=>Po hB (iQ p hp)
 have hargs:∀sp:Nat->Bool,(∀p∈before,sp p.block=true)->DataW.TrodAll enc P W' 0 sp true fn.params.toList args.toList ds before:=λsp hsp=>
  wM (DataW.TrodAll.respare (kids_rows hl hm) hz hts hA hsp) same
 have ahn:∀(b:Nat) (sp:Nat->Bool) (hd:Bool),DataW.TrodAll enc P W' b sp hd fn.resultTypes.toList ((Value.bool true).resultList fn.resultTypes.size) [.lit (.bool true)] []:=by
  intro b sp hd;rw[hres];exact trodAll_cons_mk (shut_bool ht true) (ds:=[]) (p':=[]) (show DataW.TrodAll enc P W' b sp hd [] [] [] [] from rfl)
 have hv:∀sp:Nat->Bool,DataW.TrodVars enc P W' sp s.vars (s.fn H (ds++[])).vars []:=by
  intro sp;rw[hvars,hfn];rfl
 have hold:∀p∈before,(λb=>decide (b < W.heap.size)) p.block=true:=λp hp=>by simpa using iQ p hp
 refine⟨ds,[],before,[],before,[],hW',by rw[hfn];exact ahn _ _ _,by rw[hfn];exact hargs _ hold,hv _,hB.frame _,λ_=>?_⟩
 refine⟨ok_one hres rfl (okWide_bool_mk ht true),[.lit (.bool true)]++ds,[],([]++before)++[],⟨[]++before,[],trodAll_append (hargs _ (λ_ _=>rfl)) (ahn _ _ _),by rw[hvars];rfl,rfl,?_,?_⟩,?_⟩
 .intro b off hp;have hp:MemPlace.cell b off∈before:=by simpa using hp
  rw[Pn (b:=b) (o:=off) hB (iQ _ hp)];exact hfz b off hp
 .intro ha;have:=hnd ha;simpa using this
 .intro p hp _;simpa using hp
theorem Vk{gd:Nat->Option (Sigma Sh.den)}{f:Nat}{fn:Func}{ct:CT} (met:Met P gd f ct){s:ChangeSpec}{apart fresh handsOn again:Bool}{args:Array Value}{ds gs:List (DataW H)}{before:List MemPlace}{r:Reach}{b0:Nat}
 (hl:laidOutB P=true) (hm:mapsRowed P=true) (hz:∀t e,t < P.types.size->P.underlying t=some (.slice e)->0 < P.cellsOf e) (hts:∀t∈fn.params.toList,t < P.types.size)
 (hres:fn.resultTypes=#[t]) (ht:P.underlying t=some .bool) (hvars:s.vars=[])
 (apK:Vh P ct.ps fn.params.toList=true) (hct:∀d,ct.res d=([],.one (.c (.v (.bool true)))))
 (hfn:∀d:bU ct.ps,Bz ct.ps ds=some d->aiZ ct.ps d->s.fn H ds={ results:=[.lit (.bool true)],args:=ds }/\ct.pre d)
 (hval:∀(j:Nat) t v,fn.params[j]?=some t->args[j]?=some v->Value.okWide P W r b0 t v)
 (hW:DataW.Whole enc P fn.params.toList s.vars apart W args.toList ds gs before) (hG:aI gd (FH.all W)):
 Calls P f args W λe W'=>∃v,e=.returned v/\s.post enc P fn apart fresh handsOn again W args v W':=by
 have hA:=hW;obtain⟨pa,pv,hA,hV,_⟩:=hA;rw[hvars]at hV;obtain rfl:gs=[]:=by
  cases gs with
  | nil=>rfl
  | cons _ _=>exact hV.elim
 obtain⟨d,d1,d2,d3⟩:=G9 apK (λj t v e e'=>hval j t v (by simpa using e) (by simpa using e')) hA
 obtain⟨h1,h2⟩:=hfn d d1 d3;have:=met.1 d args.toList (FH.all W) W (λb o v e=>e) hG d2 h2
 rw[show args.toList.toArray=args by simp]at this
 refine this.mono ?_;rintro en W' ⟨h',β,y,rfl,ok,he⟩;rw[hct]at ok he;obtain⟨⟨rfl,_⟩,_⟩:=he;exact⟨_,rfl,Vj hl hm hz hts hres ht hvars (by rw[Qo];exact h1) hW (Bw.bel ok.below)⟩
end
end Go.jf
