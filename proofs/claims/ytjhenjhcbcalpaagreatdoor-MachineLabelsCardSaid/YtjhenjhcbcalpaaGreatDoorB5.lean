/- Part 5 of the proof. Conditions: the rows'. -/
import Derived.Test.YtjhenjhcbcalpaaGreatDoorB4
import Derived.Sort.OwnSortedInts
import Derived.Lib.SlicesCompact
import Derived.ReadAgain
import Derived.OpenShut
import Derived.ChangeSame
import Derived.Deep.DeepHandedRow
set_option linter.unusedSimpArgs false
set_option linter.unusedVariables false
set_option maxRecDepth 1000000
set_option maxHeartbeats 8000000
namespace Go.jl
open Go Go.RowKit
variable {B:Base}
abbrev ahf(s:St) (o:Oper):Option Nat:=match o.guard with
 | some _=>none
 | none=>match o.op with
   | .call c=>match c.callee with
     | .value (.tmp t)=>match iD s.env t with
       | some ([],.one (.c (.abs (.Wh l))))=>some l
       | _=>none
     | _=>none
   | _=>none
abbrev EC(E:Env) (l:Nat) (ss:List Sh) (L:List (bT ss)) (ops:List Oper):List Oper->Nat->St->(Option Nat->St->Prop)->Prop
 | [],i,s,K=>K (some i) s
 | o :: r,i,s,K=>match ahf s o with
   | some l'=>match lJ E.n o.dst with
     | false=>False
     | true=>l=l'/\match uG E.cx s [] (ny o.op) with
       | none=>False
       | some vs=>match allL noRow vs with
         | false=>False
         | true=>match FX s [] vs with
           | none=>False
           | some bs=>match yL ss bs with
             | none=>False
             | some d=>L[i]?=some d/\EC E l ss L ops r (i+1) (s.put o.dst [] (.one (.c (.v (.bool true))))) K/\ac9 E ops r (s.put o.dst [] (.one (.c (.v (.bool false))))) λs=>K none s
   | none=>Le E ops o s λs=>EC E l ss L ops r i s K
abbrev U8(s:St) (o:Oper):Option Nat:=match o.op with
 | .call c=>match c.callee with
   | .value (.tmp t)=>match iD s.env t with
     | some (_,.one (.c (.abs (.Wh l))))=>some l
     | _=>none
   | _=>none
 | _=>none
abbrev Jh(s:St):List Oper->Bool
 | []=>false
 | o :: l=>match o.op with
   | .call c=>match c.callee with
     | .value (.tmp _)=>true
     | _=>Jh s l
   | _=>Jh s l
abbrev jc(E:Env) (l:Nat) (ss:List Sh) (L:List (bT ss)) (ops:List Oper):OT->Option Nat->St->(Option Nat->St->Prop)->Prop
 | .done,g,s,K=>K g s
 | .op o t,g,s,K=>match g with
   | some i=>match U8 s o with
     | some l'=>match lJ E.n o.dst with
       | false=>False
       | true=>match o.op with
         | .call c=>match c.callee with
           | .value (.tmp t')=>l=l'/\uy E.lits s ops o.guard λG s=>match iD s.env t' with
             | some (Gt,.one (.c (.abs (.Wh l2))))=>match qG Gt G with
               | false=>False
               | true=>l'=l2/\match uG E.cx s G (ny o.op) with
                 | none=>False
                 | some vs=>match allL noRow vs with
                   | false=>False
                   | true=>match FX s G vs with
                     | none=>False
                     | some bs=>match yL ss bs with
                       | none=>False
                       | some d=>br (gv s.gl G) (L[i]?=some d/\jc E l ss L ops t (some (i+1)) (s.put o.dst G (.one (.c (.v (.bool true))))) K/\jc E l ss L ops t none (s.put o.dst G (.one (.c (.v (.bool false))))) K)
                         (jc E l ss L ops t (some i) (s.put o.dst G (.one (.c (.v (.bool false))))) K)
             | _=>False
           | _=>False
         | _=>False
     | none=>iW E ops o s λs=>jc E l ss L ops t (some i) s K
   | none=>iW E ops o s λs=>jc E l ss L ops t none s K
 | .alt o t m,g,s,K=>match g with
   | some i=>match U8 s o with
     | some _=>False
     | none=>(iW E ops o s λs=>jc E l ss L ops t (some i) s K)/\jc E l ss L ops m (some i) s K
   | none=>(iW E ops o s λs=>jc E l ss L ops t none s K)/\jc E l ss L ops m none s K
def Ji(ops:Array Oper):Option OT:=
 let t:=U2 ops ops.size (Array.replicate ops.size false)
 if Region.noSelect ops && kF ops t true ops.size (Array.replicate ops.size false) then some (Cj ops t) else none
abbrev ads(body:Nat->St->(Exit->Option Nat->St->Prop)->Prop) (ws:List Nat) (la:LA) (gh:la.α->Nat) (i:Nat) (s:St) (K:Exit->Option Nat->St->Prop):Prop:=
 (∃x,la.inv x/\gh x=i/\F5 s (la.slots x)/\s.T=jY (la.res x) s.T) /\
 ∀x,la.inv x->match dD (wH (aQ s.T) (jY (la.res x) s.T)) (GN (aQ s.T) ws (la.slots x)) with
   | false=>False
   | true=>body (gh x) (qp ws s (la.slots x) (la.res x)) λe g s'=>match e with
     | .normal=>match g with
       | some j=>match Es s' (keepR (aQ s.T) ws [] s.env) with
         | true=>∃x',la.inv x'/\gh x'=j/\F5 s' (la.slots x')/\qC (aQ s.T) s'.T=jY (la.res x') s.T/\la.meas x' < la.meas x
         | false=>False
       | none=>False
     | e=>K e g s'
abbrev Aw(E:Env) (l:Nat) (ss:List Sh) (L:List (bT ss)):Code->Nat->St->(Exit->Option Nat->St->Prop)->Prop
 | .skip,i,s,K=>K .normal (some i) s
 | .region id ops draw,i,s,K=>match Cc (tl ops) with
   | false=>False
   | true=>match draw with
     | false=>EC E l ss L (tl ops) (tl ops) i s λg s=>K .normal g (clean s)
     | true=>match Jh s (tl ops) with
       | false=>match vO ops with
         | some t=>qU E (tl ops) t s λs=>K .normal (some i) (clean s)
         | none=>False
       | true=>match Ji ops with
         | some t=>jc E l ss L (tl ops) t (some i) s λg s=>K .normal g (clean s)
         | none=>False
 | .seq x y,i,s,K=>Aw E l ss L x i s λe g s'=>match e with
   | .normal=>match g with
     | some j=>Aw E l ss L y j s' K
     | none=>jh E y s' λe s'=>K e none s'
   | e=>K e g s'
 | .cond c x y,i,s,K=>match bM E.cx s [] c with
   | some (.one (.c (.v (.bool b))))=>br b (Aw E l ss L x i s K) (Aw E l ss L y i s K)
   | _=>False
 | .block id c,i,s,K=>Aw E l ss L c i s λe g s'=>match e with
   | .exit j=>match Nat.beq j id with
     | true=>K .normal g s'
     | false=>K (.exit j) g s'
   | e=>K e g s'
 | .loop c,i,s,K=>match adf E c s with
   | some (.gen la gh)=>ads (Aw E l ss L c) (eX la.drop (writes c)) la gh i s K
   | _=>False
 | .exit j,i,s,K=>K (.exit j) (some i) s
 | .ret,i,s,K=>K .ret (some i) s
 | _,_,_,_=>False
def GS(N:Nat) (J:Option Nat->(Nat->Prop)->World->Prop) (h0:FH) (g:Option Nat) (s:St) (h:FH) (β:List RV) (w:World) (a:Act):Prop:=
 ∃(B:Base) (G:Nat->Prop),J g G B.toWorld/\(∀b,G b->b < B.heap.size)/\(∀k,B.al k↔G k\/B.heap.size<=k)/\(∀k o,B.nc k o->B.al k)/\Sat N B h0 s h β w a
section
variable {N:Nat}{J:Option Nat->(Nat->Prop)->World->Prop}{h0:FH}{g:Option Nat}{s:St}{h:FH}{β:List RV}{w:World}{a:Act}
theorem Sat.norm(aj:Sat N B h0 s h β w a):∃B':Base,B'.toWorld=B.toWorld/\B'.al=B.al/\(∀k o,B'.nc k o->B'.al k)/\Sat N B' h0 s h β w a:=by
 obtain⟨X,x1,x2,x3⟩:=aj.defers;refine⟨{ B with nc:=λk o=>k∈X/\o=.deferred (some []),cell:=λk o hh=>by rw[hh.2] },rfl,rfl,λk o hh=>(x3 k hh.1).1,?_⟩
 exact⟨aj.ok.O1 rfl rfl (λk o hh=>by rw[hh.2];exact aj.ok.kn k _ (x3 k hh.1).2),aj.env,aj.gs,⟨X,x1,x2,λD hD=>⟨(x3 D hD).1,hD,rfl⟩⟩,aj.sz,aj.gb,aj.gT⟩
theorem GS.step{B':Base}{G:Nat->Prop} (hJ:J g G B.toWorld) (hG:∀b,G b->b < B.heap.size) (ha:∀k,B.al k↔G k\/B.heap.size<=k) (lb:B.leB B'){s':St}{h':FH}{β':List RV}{w':World}{a':Act} (aj:Sat N B' h0 s' h' β' w' a'):GS N J h0 g s' h' β' w' a':=by
 obtain⟨B2,e1,e2,e3,bI⟩:=aj.norm;have e4:B2.toWorld=B.toWorld:=e1.trans lb.1;refine⟨B2,G,by rw[e4];exact hJ,λb hb=>by rw[e4];exact hG b hb,λk=>?_,e3,bI⟩
 rw[e2,lb.2.1,ha k,e4]
def BL(B:Base) (w:World) (b:Nat):Prop:=B.al b/\b < w.heap.size
theorem GS.now{G:Nat->Prop} (hAb:∀i G G' A A',J i G A->Gs G A A'->Own' G G' A A'->J i G' A') (hJ:J g G B.toWorld) (ha:∀k,B.al k↔G k\/B.heap.size<=k) (aj:Sat N B h0 s h β w a):J g (BL B w) w:=by
 refine hAb g G _ _ _ hJ ⟨aj.ok.below.os,aj.ok.below.tape,aj.ok.below.output,aj.ok.below.size,aj.ok.dr,λk hk hn=>aj.ok.below.block k hk λhh=>?_⟩ λb hb=>⟨hb.2,(ha b).1 hb.1⟩
 rcases(ha k).1 hh with h1 | h1
 .exact hn h1
 .omega
theorem GS.turn(e3:∀k o,B.nc k o->B.al k) (aj:Sat N B h0 s h β w a){A':World}{g':Option Nat} (hJ:J g' (BL B w) A') (hw0:HW h0 A') (keep:∀b,BL B w b->A'.heap[b]?=w.heap[b]?):
 GS N J h0 g' s h β A' a:=by
 have lt:∀b,BL B w b->b < A'.heap.size:=by
  intro b hb;have h1:=keep b hb;rw[Array.getElem?_eq_getElem hb.2]at h1;exact(C9.1 h1).1
 have kn:∀k o,B.nc k o->A'.heap[k]?=some o:=λk o hk=>by
  have h1:=aj.ok.kn k o hk;rw[keep k ⟨e3 k o hk,(C9.1 h1).1⟩];exact h1
 refine⟨{ A' with nc:=B.nc,cell:=B.cell,al:=λk=>BL B w k\/A'.heap.size<=k,up:=λ_ hh=>.inr hh },BL B w,hJ,lt,λk=>Iff.rfl,
  λk o hk=>.inl ⟨e3 k o hk,(C9.1 (aj.ok.kn k o hk)).1⟩,?_⟩
 have own:∀{i:Nat}{r:ay}{v:RV}{b:Nat},(eff s.gl s.T)[i]?=some r->r.live=true->β[i]?=some v->v.has b->BL B w b:=λe hl e' hb=>
  ⟨(aj.ok.own _ _ _ _ e hl e' hb).1,(aj.ok.own _ _ _ _ e hl e' hb).2.1⟩
 refine⟨⟨⟨rfl,rfl,rfl,o9 _,λ_ _ _=>rfl⟩,o9 _,aj.ok.len,λi r v e e'=>(aj.ok.holds i r v e e').move (FH.le.refl h) (Ext.refl _) λhl b hb=>keep b (own e hl e' hb),
  λi r v b e hl e' hb=>⟨.inl (own e hl e' hb),lt b (own e hl e' hb),(aj.ok.own i r v b e hl e' hb).2.2⟩,aj.ok.inj,aj.ok.hle,λb o v hh=>?_,λb o v hh=>?_,kn⟩,aj.env,aj.gs,?_,aj.sz,aj.gb,aj.gT⟩
 .rcases aj.ok.hg b o v hh with h1 | h1
  .exact hw0 b o v h1
  .have h2:=aj.ok.hw b o v hh;exact(jQ (keep b ⟨h1,oq h2⟩)).trans h2
 .rcases aj.ok.hg b o v hh with h1 | h1
  .exact .inl h1
  .have h3:=oq (aj.ok.hw b o v hh);exact .inr (.inl ⟨h1,h3⟩)
 .obtain⟨X,x1,x2,x3⟩:=aj.defers;exact⟨X,x1,x2,λD hD=>⟨.inl ⟨(x3 D hD).1,(C9.1 (aj.ok.kn D _ (x3 D hD).2)).1⟩,(x3 D hD).2⟩⟩
end
theorem Jj{h:FH}:∀{ss:List Sh}{vs:List SV}{ys:List Value}{d:bT ss},yL ss vs=some d->aU (dA h []) vs ys->Bc h ss d ys
 | [],vs,ys,d,e,x=>by
   unfold yL at e;split at e
   .cases ys with
    | nil=>trivial
    | cons _ _=>exact x.elim
   .cases e
 | s :: l,vs,ys,d,e,x=>by
   unfold yL at e;split at e
   .rename_i v r;cases ys with
    | nil=>exact x.elim
    | cons y ys=>
      split at e
      .rename_i d1 hd;split at e
       .rename_i d2 hr;cases e;obtain⟨cs,e1,rd⟩:=toDat_ok hd x.1;exact⟨⟨cs,e1,rd⟩,Jj hr x.2⟩
       .cases e
      .cases e
   .cases e
structure Yl (P:Program) (h0:FH) (l:Nat) (ss:List Sh) (L:List (bT ss)) (J:Option Nat->(Nat->Prop)->World->Prop):Prop where
 hw:∀i G A,J i G A->HW h0 A
 ab:∀i G G' A A',J i G A->Gs G A A'->Own' G G' A A'->J i G' A'
 yl:∀i d vs G A,L[i]?=some d->Bc h0 ss d vs->J (some i) G A->YieldAt Fence.wide 0 P l vs.toArray A λe A'=>(∀b,G b->A'.heap[b]?=A.heap[b]?) /\
  ((e=.returned (.bool true)/\J (some (i+1)) G A')\/(e=.returned (.bool false)/\J none G A'))
section
variable {P:Program}{E:Env}{h0:FH}{l:Nat}{ss:List Sh}{L:List (bT ss)}{J:Option Nat->(Nat->Prop)->World->Prop}
theorem Bc.flat{h h':FH}:∀{ss:List Sh}{d:bT ss}{vs:List Value},allL iQ ss=true->Bc h ss d vs->Bc h' ss d vs
 | [],_,[],_,_=>trivial
 | [],_,_ :: _,_,x=>x.elim
 | _ :: _,_,[],_,x=>x.elim
 | s :: _,_,_ :: _,f,⟨a,b⟩=>by
   simp only[allL,aB,bV]at f;obtain⟨cs,e,r⟩:=a;exact⟨⟨cs,e,Rd.flat s f.1 r⟩,Bc.flat f.2 b⟩
theorem Az(ok:gG P E) (hg:aK E.cx.gd h0) (hy:Yl P h0 l ss L J) (hfl:allL iQ ss=true){ops:Array Oper}{n:Nat}{Q:Exit->Act->World->Prop}{K:Option Nat->St->Prop}:∀(r:List Oper) (k i:Nat){s:St}{h:FH}{β:List RV}{w:World}{a:Act},
 (∀j,r[j]?=ops[k+j]?)->Cc r=true->GS E.n J h0 (some i) s h β w a->EC E l ss L (tl ops) r i s K ->
 (∀g s' h' β' w' a',K g s'->h.le h'->GS E.n J h0 g s' h' β' w' a'->Same (jI r) a a'->Q .normal a' w')->wpOpsIn Fence.wide n P ops Q (List.range' k r.length) a w
 | [],k,i,s,h,β,w,a,_,_,gs,kk,next=>next _ _ _ _ _ _ kk (FH.le.refl h) gs (Same.refl _ _)
 | o :: r,k,i,s,h,β,w,a,hl,hn,gs,kk,next=>by
   have h0':ops[k]?=some o:=by simpa using(hl 0).symm
   have hl':∀j,r[j]?=ops[k+1+j]?:=λj=>by have:=hl (j+1);simpa[FN,V4 1 j]using this
   simp only[Cc,aB,bV]at hn;obtain⟨B,G,hJ,hG,ha,hnc,aj⟩:=gs;simp only[wS,List.range'_succ,wpOpsIn,h0'];simp only[EC]at kk;split at kk
   .rename_i l' hyl;split at kk
    .cases kk
    rename_i hd;obtain⟨hll,kk⟩:=kk;subst hll;split at kk
    .cases kk
    rename_i vs hvs;split at kk
    .cases kk
    rename_i hnr;split at kk
    .cases kk
    rename_i bs hbs;split at kk
    .cases kk
    rename_i d hdd;obtain⟨hLi,k1,k2⟩:=kk;unfold ahf at hyl;split at hyl
    .cases hyl
    rename_i hgd;split at hyl
    .rename_i c ho;split at hyl
     .rename_i t bW;split at hyl
      .rename_i l2 hlk;cases hyl;have tr:gv s.gl []=true:=rfl;rw[if_pos (by simp[Region.wanted,hgd])]
       obtain⟨z,z1,z2,_⟩:=aj.env t [] _ hlk;have ez:z=.func (.yield l) #[] #[]:=(z2 tr).1;subst ez;have hgh:=hg.mono aj.ok.hle;have hav:=qO aj hgh tr hvs;obtain⟨_,b2⟩:=yQ aj tr hbs hav;have hao:ny o.op=tl c.args:=by simp only[ny,ho]
       rw[hao]at hav b2
       -- the arguments as they were frozen at the beginning
       have hJn:=GS.now hy.ab hJ ha aj;have dv:Bc h ss d ((tl c.args).map a.eval):=Jj hdd (b2 hnr);have dv0:Bc h0 ss d ((tl c.args).map a.eval):=Bc.flat hfl dv;obtain⟨fn,tmps,FK,body,hrun,EF⟩:=hy.yl i d _ (BL B w) w hLi dv0 hJn;have hargs:(c.args.map a.eval)=((tl c.args).map a.eval).toArray:=by cases c.args;simp
       have exec:(execOp a.eval o).run P w=.ok (.round l fn tmps FK body) w:=by
        simp only[execOp,ho,resolve,bW,Act.eval];rw[show a.tmps.getD t undef=.func (.yield l) #[] #[] by simp[z1]]
        simp only[Deferred.ofValue,invoke,Sem.run_bind,Sem.run_pure,Result.andThen_ok];simp only[ahO];rw[hargs];exact hrun
       refine⟨λf _=>trivial,?_⟩
       rw[Oper.semAt_eq _ _ _ (λc' hc'=>by rw[hc']at hn;cases hn.1),exec]
       simp only[Oper.uponIn];refine⟨λhh=>(by cases hh),RoundIn.mono (F:=Fence.wide) (n:=n - 1) ⟨EF.1,λc' cs' hroom=>EF.2 c' cs' (λd' hd'=>by cases hd')⟩ ?_⟩
       rintro e A' ⟨keep,hh⟩;rcases hh with⟨rfl,hJ'⟩ | ⟨rfl,hJ'⟩
       .obtain⟨B2,G2,j1,j2,j3,j4,bI⟩:=GS.turn hnc aj hJ' (hy.hw _ _ _ hJ') keep;have gs3:GS E.n J h0 (some (i+1)) (s.put o.dst [] (.one (.c (.v (.bool true))))) h β A' (a.put o.dst (.bool true)):=⟨B2,G2,j1,j2,j3,j4,bI.put (dW hd) rfl (λ_=>⟨⟨rfl,rfl,rfl⟩,rfl,rfl⟩) λhh=>by cases hh⟩
        exact Az ok hg hy hfl r (k+1) (i+1) hl' hn.2 gs3 k1 λg s2 h2 β2 w2 a2 k2 iy gs2 sm=>next g s2 h2 β2 w2 a2 k2 iy gs2 sm.put
       .obtain⟨B2,G2,j1,j2,j3,j4,bI⟩:=GS.turn hnc aj hJ' (hy.hw _ _ _ hJ') keep;have OZ:=bI.put (d:=o.dst) (G:=[]) (e:=.one (.c (.v (.bool false)))) (z:=.bool false) (dW hd) rfl (λ_=>⟨⟨rfl,rfl,rfl⟩,rfl,rfl⟩) λhh=>by cases hh
        exact OJ (R:=λa w=>Q .normal a w) (.inl rfl) (λ_ _ hh=>hh) r (k+1) _ _ hl' hn.2 (I7 ok hg r OZ k2 λs2 h2 β2 w2 a2 k3 iy XR sm=>next none s2 h2 β2 w2 a2 k3 iy (GS.step j1 j2 j3 (.refl B2) XR) sm.put)
      .cases hyl
     .cases hyl
    .cases hyl
   .have st:=Em ok aj (hg.mono aj.ok.hle) kk (wpOpsIn Fence.wide n P ops Q (List.range' (k+1) r.length)) IC λs' h' β' w' v k' le aW=>
     Az ok hg hy hfl r (k+1) i hl' hn.2 (GS.step hJ hG ha (.refl B) aW) k' λg s2 h2 β2 w2 a2 k2 iy gs2 sm=>next g s2 h2 β2 w2 a2 k2 (le.trans iy) gs2 sm.put
    split
    .rename_i hw;rw[if_pos hw]at st;exact KZ (Q:=Q) (.inl rfl) hn.1 st
    .rename_i hw;rw[if_neg hw]at st;exact⟨λf _=>trivial,st⟩
theorem U9{s:St}{o:Oper} (hf:jS o.op=true):U8 s o=none:=by
 unfold U8;split
 .rename_i c ho;rw[ho]at hf;have:c.callee=.builtin .len:=XL hf;rw[this]
 .rfl
theorem GS.drawn{g:Option Nat}{s:St}{h:FH}{β:List RV}{w:World}{a:Act} (gs:GS E.n J h0 g s h β w a) (n:Nat) (hn:w.drawn<=n):GS E.n J h0 g s h β { w with drawn:=n } a:=by
 obtain⟨B,G,hJ,hG,ha,hnc,aj⟩:=gs;exact⟨B,G,hJ,hG,ha,hnc,aj.drawn n hn⟩
theorem Yb(ok:gG P E) (hg:aK E.cx.gd h0) (hy:Yl P h0 l ss L J) (hfl:allL iQ ss=true){ops:Array Oper}{n i:Nat}{s:St}{h:FH}{β:List RV}{w:World}{a:Act}{o:Oper}{c:Call}{t':Nat}{K:Act->World->Prop}{G:Gd}{GG:Nat->Prop}
 (hJ:J (some i) GG B.toWorld) (hG:∀b,GG b->b < B.heap.size) (ha:∀k,B.al k↔GG k\/B.heap.size<=k) (hnc:∀k o,B.nc k o->B.al k) (aj:Sat E.n B h0 s h β w a)
 (hd:lJ E.n o.dst=true) (ho:o.op=.call c) (bW:c.callee=.value (.tmp t')){Gt:Gd} (hlk:iD s.env t'=some (Gt,.one (.c (.abs (.Wh l))))) (hsub:qG Gt G=true) (hgv:gv s.gl G=true) (hgb:vg s.gl.length G=true)
 {vs bs:List SV}{d:bT ss} (hvs:uG E.cx s G (tl c.args)=some vs) (hnr:allL noRow vs=true) (hbs:FX s G vs=some bs) (hdd:yL ss bs=some d) (hLi:L[i]?=some d)
 (k1:∀h' β' w' a',GS E.n J h0 (some (i+1)) (s.put o.dst G (.one (.c (.v (.bool true))))) h' β' w' a'->h.le h'->(∃v,a'=a.put o.dst v)->K a' w')
 (k2:∀h' β' w' a',GS E.n J h0 none (s.put o.dst G (.one (.c (.v (.bool false))))) h' β' w' a'->h.le h'->(∃v,a'=a.put o.dst v)->K a' w'):
 o.uponIn Fence.wide n P a K IC ((execOp a.eval o).run P w):=by
 obtain⟨z,z1,z2,_⟩:=aj.env t' Gt _ hlk;have ez:z=.func (.yield l) #[] #[]:=(z2 (fK hsub hgv)).1;subst ez;have hgh:=hg.mono aj.ok.hle;have hav:=qO aj hgh hgv hvs;obtain⟨_,b2⟩:=yQ aj hgv hbs hav;have hJn:=GS.now hy.ab hJ ha aj;have dv:Bc h ss d ((tl c.args).map a.eval):=Jj hdd (b2 hnr);have dv0:Bc h0 ss d ((tl c.args).map a.eval):=Bc.flat hfl dv;obtain⟨fn,tmps,FK,body,hrun,EF⟩:=hy.yl i d _ (BL B w) w hLi dv0 hJn;have hargs:(c.args.map a.eval)=((tl c.args).map a.eval).toArray:=by cases c.args;simp
 have exec:(execOp a.eval o).run P w=.ok (.round l fn tmps FK body) w:=by
  simp only[execOp,ho,resolve,bW,Act.eval];rw[show a.tmps.getD t' undef=.func (.yield l) #[] #[] by simp[z1]]
  simp only[Deferred.ofValue,invoke,Sem.run_bind,Sem.run_pure,Result.andThen_ok];simp only[ahO];rw[hargs];exact hrun
 rw[exec];simp only[Oper.uponIn];refine⟨λhh=>(by cases hh),RoundIn.mono (F:=Fence.wide) (n:=n - 1) ⟨EF.1,λc' cs' hroom=>EF.2 c' cs' (λd' hd'=>by cases hd')⟩ ?_⟩
 rintro e A' ⟨keep,hh⟩;rcases hh with⟨rfl,hJ'⟩ | ⟨rfl,hJ'⟩
 .obtain⟨B2,G2,j1,j2,j3,j4,bI⟩:=GS.turn hnc aj hJ' (hy.hw _ _ _ hJ') keep;exact k1 h β A' _ ⟨B2,G2,j1,j2,j3,j4,bI.put (dW hd) hgb (λ_=>⟨⟨rfl,rfl,rfl⟩,rfl,rfl⟩) λhh=>by rw[hgv]at hh;cases hh⟩ (FH.le.refl h) ⟨_,rfl⟩
 .obtain⟨B2,G2,j1,j2,j3,j4,bI⟩:=GS.turn hnc aj hJ' (hy.hw _ _ _ hJ') keep;exact k2 h β A' _ ⟨B2,G2,j1,j2,j3,j4,bI.put (dW hd) hgb (λ_=>⟨⟨rfl,rfl,rfl⟩,rfl,rfl⟩) λhh=>by rw[hgv]at hh;cases hh⟩ (FH.le.refl h) ⟨_,rfl⟩
theorem mF(ok:gG P E) (hg:aK E.cx.gd h0) (hy:Yl P h0 l ss L J) (hfl:allL iQ ss=true){ops:Array Oper} (hs:Region.noSelect ops=true) (hn:Cc ops.toList=true){m:Nat}{R:Act->World->Prop}{K:Option Nat->St->Prop}:∀(t:DT){n:Nat}{listed:Array Bool}{g:Option Nat}{s:St}{h:FH}{β:List RV}{w:World}{a:Act},
 GS E.n J h0 g s h β w a->jc E l ss L (tl ops) (Cj ops t) g s K->(∀g' s' h' β' w' a',K g' s'->h.le h'->GS E.n J h0 g' s' h' β' w' a'->Same (jI ops.toList) a a'->R a' w') ->
 (kF ops t true n listed=true->IY P m .any ops (xC ops) R n listed a w) /\
 (kF ops t false n listed=true->∀i∈t.alts,qm P m ops i (λa' w'=>(xC ops i=true->mQ w w')/\IY P m .any ops (xC ops) R (n - 1) (listed.setIfInBounds i true) a' w') a w)
 | .done,n,listed,g,s,h,β,w,a,gs,k,next=>by
   refine⟨λhc=>?_,λhc=>by simp[kF]at hc⟩
   simp only[kF,FB,bV,Ba]at hc;obtain⟨rfl,hr⟩:=hc;exact⟨by simpa using hr,next _ _ _ _ _ _ k (FH.le.refl h) gs (Same.refl _ _)⟩
 | .fl i t,n,listed,g,s,h,β,w,a,gs,k,next=>by
   refine⟨λhc=>?_,λhc=>by simp[kF]at hc⟩
   simp only[kF,FB,bV,J8,ne_eq]at hc;obtain⟨⟨hn0,hb⟩,hc⟩:=hc;obtain⟨n,rfl⟩:∃m,n=m+1:=⟨n - 1,by omega⟩
   unfold Ci at hb;cases hi:ops[i]? with
   | none=>rw[hi]at hb;simp at hb
   | some o=>
     rw[hi]at hb;simp only[bV]at hb;simp only[Cj,hi]at k;have lg:o∈ops.toList:=ig (i:=i) (by simpa using hi)
     obtain⟨⟨⟨hf,hfree⟩,hr⟩,hl⟩:=hb;obtain⟨B,G,hJ,hG,ha,hnc,aj⟩:=gs;have k:iW E (tl ops) o s λs=>jc E l ss L (tl ops) (Cj ops t) g s K:=by
      unfold jc at k;cases g with
      | none=>exact k
      | some i'=>simp only at k;rw[U9 hf]at k;exact k
     obtain⟨v,s',hy',k',aW⟩:=xH ok aj (hg.mono aj.ok.hle) hf k;have hq:xC ops i=true:=by
      simp only[xC,hi];exact uI hf
     refine OM (bl:=XK ops listed i) hi (Region.noSelect_spec hs) hq n listed a w (Region.free_spec hi hfree) (λe=>?_) (by simpa using hr) hy' (λ_=>mQ.refl w)
      ((mF ok hg hy hfl hs hn t (GS.step hJ hG ha (.refl B) aW) k' λg2 s2 h2 β2 w2 a2 k2 iy bI sm=>next g2 s2 h2 β2 w2 a2 k2 iy bI (sm.put_mem lg)).1 hc)
     rw[e]at hl;exact Bh (by simpa using hl)
 | .op i t,n,listed,g,s,h,β,w,a,gs,k,next=>by
   have key:n≠0->(ops[i]?).isSome=true->kF ops t true (n - 1) (listed.setIfInBounds i true)=true->qm P m ops i (λa' w'=>(xC ops i=true->mQ w w')/\IY P m .any ops (xC ops) R (n - 1) (listed.setIfInBounds i true) a' w') a w:=by
    intro hn0 hi hc;obtain⟨o,hi⟩:=A87.1 hi;have lg:o∈ops.toList:=ig (i:=i) (by simpa using hi)
    simp only[Cj,hi]at k;obtain⟨B,G,hJ,hG,ha,hnc,aj⟩:=gs;have plain:(iW E (tl ops) o s λs=>jc E l ss L (tl ops) (Cj ops t) g s K)->qm P m ops i (λa' w'=>(xC ops i=true->mQ w w')/\IY P m .any ops (xC ops) R (n - 1) (listed.setIfInBounds i true) a' w') a w:=by
     intro k;refine ahd hn ?_;unfold zS;simp only[hi];refine qR ok aj (hg.mono aj.ok.hle) k _ IC λs' h' β' w' v k' le Ag aW=>⟨λe=>Ag (by simpa[xC,hi]using e),?_⟩
     exact(mF ok hg hy hfl hs hn t (GS.step hJ hG ha (.refl B) aW) k' λg2 s2 h2 β2 w2 a2 k2 iy bI sm=>next g2 s2 h2 β2 w2 a2 k2 (le.trans iy) bI (sm.put_mem lg)).1 hc
    unfold jc at k;cases g with
    | none=>exact plain k
    | some i'=>
      simp only at k;cases hyl:U8 s o with
      | none=>rw[hyl]at k;exact plain k
      | some l'=>
        rw[hyl]at k;simp only at k;split at k
        .cases k
        rename_i hd;split at k
        .rename_i c ho;split at k
         .rename_i t' bW;obtain⟨hll,k⟩:=k;subst hll;obtain⟨G1,s1,k,jf,hw1,hgb⟩:=vF aj k;split at k
          .rename_i Gt l2 hlk;split at k
           .cases k
           rename_i hsub;obtain⟨rfl,k⟩:=k;split at k
           .cases k
           rename_i vs hvs;split at k
           .cases k
           rename_i hnr;split at k
           .cases k
           rename_i bs hbs;split at k
           .cases k
           rename_i d hdd;have aiL:xC ops i=false:=by
            simp only[xC,hi,ho,quietly,bW]
           have hao:ny o.op=tl c.args:=by simp only[ny,ho]
           rw[hao]at hvs;unfold qm;simp only[hi];cases hgv:gv s1.gl G1 with
           | true=>
             rw[if_pos (by rw[hw1,hgv])]
             obtain⟨hLi,k1,k2⟩:=(ah.1 k).1 hgv;refine Yb ok hg hy hfl (ops:=ops) hJ hG ha hnc jf hd ho bW hlk hsub hgv hgb hvs hnr hbs hdd hLi (λh' β' w' a' gs' le' ha'=>⟨λe=>(by rw[aiL]at e;cases e),?_⟩) (λh' β' w' a' gs' le' ha'=>⟨λe=>(by rw[aiL]at e;cases e),?_⟩)
             .obtain⟨v,rfl⟩:=ha';exact(mF ok hg hy hfl hs hn t gs' k1 λg2 s2 h2 β2 w2 a2 k2 iy bI sm=>next g2 s2 h2 β2 w2 a2 k2 (le'.trans iy) bI (sm.put_mem lg)).1 hc
             .obtain⟨v,rfl⟩:=ha';exact(mF ok hg hy hfl hs hn t gs' k2 λg2 s2 h2 β2 w2 a2 k2 iy bI sm=>next g2 s2 h2 β2 w2 a2 k2 (le'.trans iy) bI (sm.put_mem lg)).1 hc
           | false=>
             rw[if_neg (by rw[hw1,hgv];simp)]
             have k:=(ah.1 k).2 hgv;have bI:=jf.put (d:=o.dst) (G:=G1) (e:=.one (.c (.v (.bool false)))) (z:=undef) (dW hd) hgb (λhh=>by rw[hgv]at hh;cases hh) λ_=>rfl
             refine⟨λe=>(by rw[aiL]at e;cases e),?_⟩
             exact(mF ok hg hy hfl hs hn t (GS.step hJ hG ha (.refl B) bI) k λg2 s2 h2 β2 w2 a2 k2 iy bI sm=>next g2 s2 h2 β2 w2 a2 k2 iy bI (sm.put_mem lg)).1 hc
          .cases k
         .cases k
        .cases k
   refine⟨λhc=>?_,λhc j hj=>?_⟩
   .simp only[kF,Ub,NR,bV,J8,ne_eq,Ba]at hc;obtain⟨⟨⟨hr,hn0⟩,hi⟩,hc⟩:=hc;obtain⟨m,rfl⟩:∃m,n=m+1:=⟨n - 1,by omega⟩
    refine⟨λh0=>by rw[hr]at h0;simp at h0,λj hj=>?_⟩
    rw[hr]at hj;simp at hj;subst hj;exact key hn0 hi hc
   .simp only[kF,NQ,NT,FB,bV,J8,ne_eq]at hc;simp only[DT.alts,A82]at hj;subst hj;exact key hc.1.1 hc.1.2 hc.2
 | .alt i t mm,n,listed,g,s,h,β,w,a,gs,k,next=>by
   have key:n≠0->(ops[i]?).isSome=true->kF ops t true (n - 1) (listed.setIfInBounds i true)=true->kF ops mm false n listed=true ->
    ∀j∈i :: mm.alts,qm P m ops j (λa' w'=>(xC ops j=true->mQ w w')/\IY P m .any ops (xC ops) R (n - 1) (listed.setIfInBounds j true) a' w') a w:=by
    intro hn0 hi hc hm j hj;obtain⟨o,hi⟩:=A87.1 hi;have lg:o∈ops.toList:=ig (i:=i) (by simpa using hi)
    simp only[Cj,hi]at k;have k:(iW E (tl ops) o s λs=>jc E l ss L (tl ops) (Cj ops t) g s K)/\jc E l ss L (tl ops) (Cj ops mm) g s K:=by
     unfold jc at k;cases g with
     | none=>exact k
     | some i'=>
       simp only at k;cases hyl:U8 s o with
       | none=>rw[hyl]at k;exact k
       | some _=>rw[hyl]at k;cases k
    rcases mY.1 hj with rfl | hj
    .obtain⟨B,G,hJ,hG,ha,hnc,aj⟩:=gs;refine ahd hn ?_;unfold zS;simp only[hi];refine qR ok aj (hg.mono aj.ok.hle) k.1 _ IC λs' h' β' w' v k' le Ag aW=>⟨λe=>Ag (by simpa[xC,hi]using e),?_⟩
     exact(mF ok hg hy hfl hs hn t (GS.step hJ hG ha (.refl B) aW) k' λg2 s2 h2 β2 w2 a2 k2 iy bI sm=>next g2 s2 h2 β2 w2 a2 k2 (le.trans iy) bI (sm.put_mem lg)).1 hc
    .exact(mF ok hg hy hfl hs hn mm gs k.2 next).2 hm j hj
   refine⟨λhc=>?_,λhc j hj=>?_⟩
   .simp only[kF,Ub,NR,bV,J8,ne_eq,Ba]at hc;obtain⟨⟨⟨⟨hr,hn0⟩,hi⟩,hc⟩,hm⟩:=hc;obtain⟨q,rfl⟩:∃m,n=m+1:=⟨n - 1,by omega⟩
    refine⟨λh0=>by rw[hr]at h0;simp at h0,λj hj=>?_⟩
    rw[hr]at hj;exact key hn0 hi hc hm j hj
   .simp only[kF,NQ,NT,FB,bV,J8,ne_eq]at hc;exact key hc.1.1.1 hc.1.1.2 hc.1.2 hc.2 j hj
theorem Yc(ok:gG P E) (hg:aK E.cx.gd h0) (hy:Yl P h0 l ss L J) (hfl:allL iQ ss=true){ops:Array Oper}{id n:Nat}{ol:OT} (ho:Ji ops=some ol) (hn:Cc ops.toList=true){i:Nat}{s:St}{h:FH}{β:List RV}{w:World}{a:Act}{K:Option Nat->St->Prop}{Q:Exit->Act->World->Prop}
 (gs:GS E.n J h0 (some i) s h β w a) (k:jc E l ss L (tl ops) ol (some i) s K)
 (next:∀g' s' h' β' w' a',K g' s'->h.le h'->GS E.n J h0 g' s' h' β' w' a'->Same (jI (tl ops)) a a'->Q .normal a' w'):(Code.region id ops true).wpIn Fence.wide n P Q a w:=by
 unfold Ji at ho;have et:tl ops=ops.toList:=by cases ops;rfl
 simp only at ho;split at ho
 .rename_i hp;cases ho;simp only[bV,Ba]at hp;refine wpIn_region_any ok.mixed (QX (sf:=xC ops) (R:=λa w=>Q .normal a w) hn (λ_ _ hh=>hh) _ _ _ _ ?_)
  exact(mF ok hg hy hfl hp.1 hn (R:=λa w=>Q .normal a w) (U2 ops ops.size (Array.replicate ops.size false)) (gs.drawn (w.drawn+1) (TQ _)) k λg' s' h' β' w' a' k' le gs' sm=>next _ _ _ _ _ _ k' le gs' (by rw[et];exact sm)).1 hp.2
 .cases ho
theorem rY(ok:gG P E) (hg:aK E.cx.gd h0) (hr:E.rd=false) (hy:Yl P h0 l ss L J) (hfl:allL iQ ss=true){n:Nat}:∀(c:Code){i:Nat}{s:St}{h:FH}{β:List RV}{w:World}{a:Act}{K:Exit->Option Nat->St->Prop}{Q:Exit->Act->World->Prop},GS E.n J h0 (some i) s h β w a ->
 Aw E l ss L c i s K->(∀e g s' h' β' w' a',K e g s'->h.le h'->GS E.n J h0 g s' h' β' w' a'->Same (writes c) a a'->Q e a' w')->c.wpIn Fence.wide n P Q a w
 | .skip,i,s,h,β,w,a,K,Q,gs,k,next=>wpIn_skip (next _ _ _ _ _ _ _ k (FH.le.refl h) gs (Same.refl _ _))
 | .exit j,i,s,h,β,w,a,K,Q,gs,k,next=>wpIn_exit (next _ _ _ _ _ _ _ k (FH.le.refl h) gs (Same.refl _ _))
 | .ret,i,s,h,β,w,a,K,Q,gs,k,next=>wpIn_ret (next _ _ _ _ _ _ _ k (FH.le.refl h) gs (Same.refl _ _))
 | .region id ops false,i,s,h,β,w,a,K,Q,gs,k,next=>by
   simp only[Aw]at k;split at k
   .cases k
   rename_i hnd;have et:tl ops=ops.toList:=by cases ops;rfl
   refine wpIn_region ?_;have:=Az (n:=n) (Q:=Q) ok hg hy hfl (ops:=ops) (tl ops) 0 i (λj=>by rw[et];simp) hnd gs k λg s' h' β' w' a' k' le gs' sm=>next .normal g _ _ _ _ _ k' le (by
    obtain⟨B2,G2,j1,j2,j3,j4,bI⟩:=gs';exact⟨B2,G2,j1,j2,j3,j4,bI.clean⟩) sm
   rw[List.range_eq_range'];rw[et]at this;simpa using this
 | .region id ops true,i,s,h,β,w,a,K,Q,gs,k,next=>by
   simp only[Aw]at k;split at k
   .cases k
   rename_i hnd;have et:tl ops=ops.toList:=by cases ops;rfl
   cases hya:Jh s (tl ops) with
   | true=>
     rw[hya]at k;simp only at k;cases hd:Ji ops with
     | none=>rw[hd]at k;cases k
     | some t=>
       rw[hd]at k;exact Yc ok hg hy hfl hd (by rw[et]at hnd;exact hnd) gs k λg s' h' β' w' a' k' le gs' sm=>next .normal g _ _ _ _ _ k' le (by
        obtain⟨B2,G2,j1,j2,j3,j4,bI⟩:=gs';exact⟨B2,G2,j1,j2,j3,j4,bI.clean⟩) sm
   | false=>
   rw[hya]at k;simp only at k;obtain⟨B,G,hJ,hG,ha,hnc,aj⟩:=gs;cases hd:vO ops with
   | none=>rw[hd]at k;cases k
   | some t=>
     rw[hd]at k;exact Q5 ok hg hd aj k (.inl rfl) (by rw[et]at hnd;exact hnd) λs' h' β' w' a' k' le aW sm=>next .normal _ _ _ _ _ _ k' le (GS.step hJ hG ha (.refl B) aW.clean) sm
 | .seq x y,i,s,h,β,w,a,K,Q,gs,k,next=>by
   refine wpIn_seq (rY ok hg hr hy hfl x gs k λe g s' h' β' w' a' k' le gs' sm=>?_)
   cases e with
   | normal=>
     cases g with
     | some j=>exact rY ok hg hr hy hfl y gs' k' λe g s2 h2 β2 w2 a2 k2 iy gs2 wJ=>next e g s2 h2 β2 w2 a2 k2 (le.trans iy) gs2 (sm.left.trans wJ.right)
     | none=>
       obtain⟨B,G,hJ,hG,ha,hnc,aj⟩:=gs';exact iV y ok hg (.inl rfl) (λ_=>rfl) aj k' λe s2 h2 β2 w2 a2 B2 lb k2 iy bI wJ=>next e none s2 h2 β2 w2 a2 k2 (le.trans iy) (GS.step hJ hG ha lb.1 bI) (sm.left.trans wJ.right)
   | exit j=>exact next _ _ _ _ _ _ _ k' le gs' sm.left
   | goto l=>exact next _ _ _ _ _ _ _ k' le gs' sm.left
   | ret=>exact next _ _ _ _ _ _ _ k' le gs' sm.left
   | panic ch=>exact next _ _ _ _ _ _ _ k' le gs' sm.left
   | outgrown=>exact next _ _ _ _ _ _ _ k' le gs' sm.left
 | .cond c x y,i,s,h,β,w,a,K,Q,gs,k,next=>by
   simp only[Aw]at k;split at k
   .rename_i b hb;obtain⟨B,G,hJ,hG,ha,hnc,aj⟩:=gs;have hc:a.eval c=.bool b:=(aP aj (hg.mono aj.ok.hle) (show gv s.gl []=true from rfl) hb).1.1
    refine wpIn_cond_split hc (λht=>rY ok hg hr hy hfl x ⟨B,G,hJ,hG,ha,hnc,aj⟩ ((ah.1 k).1 ht) λe g s' h' β' w' a' k' le gs' sm=>next _ _ _ _ _ _ _ k' le gs' sm.left)
     (λhf=>rY ok hg hr hy hfl y ⟨B,G,hJ,hG,ha,hnc,aj⟩ ((ah.1 k).2 hf) λe g s' h' β' w' a' k' le gs' sm=>next _ _ _ _ _ _ _ k' le gs' sm.right)
   .cases k
 | .block id c,i,s,h,β,w,a,K,Q,gs,k,next=>by
   refine wpIn_block (rY ok hg hr hy hfl c gs k λe g s' h' β' w' a' k' le gs' sm=>?_)
   cases e with
   | normal=>exact next _ _ _ _ _ _ _ k' le gs' sm
   | exit j=>
     simp only at k';simp only[Exit.inBlock];split at k'
     .rename_i hi;have:j=id:=iw hi;rw[if_pos this];exact next _ _ _ _ _ _ _ k' le gs' sm
     .rename_i hi;have:¬j=id:=λhh=>by rw[hh]at hi;simp at hi
      rw[if_neg this];exact next _ _ _ _ _ _ _ k' le gs' sm
   | goto l=>exact next _ _ _ _ _ _ _ k' le gs' sm
   | ret=>exact next _ _ _ _ _ _ _ k' le gs' sm
   | panic ch=>exact next _ _ _ _ _ _ _ k' le gs' sm
   | outgrown=>exact next _ _ _ _ _ _ _ k' le gs' sm
 | .loop c,i,s,h,β,w,a,K,Q,gs,k,next=>by
   simp only[Aw]at k;split at k
   .rename_i la gh _;obtain⟨⟨x,i1,i2,i3,i4⟩,k2⟩:=k;have good:∀x,la.inv x->wH (aQ s.T) (jY (la.res x) s.T)=true/\GN (aQ s.T) (eX la.drop (writes c)) (la.slots x)=true /\
     Aw E l ss L c (gh x) (qp (eX la.drop (writes c)) s (la.slots x) (la.res x)) (λe g s'=>match e with
      | .normal=>match g with
        | some j=>match Es s' (keepR (aQ s.T) (eX la.drop (writes c)) [] s.env) with
          | true=>∃x',la.inv x'/\gh x'=j/\F5 s' (la.slots x')/\qC (aQ s.T) s'.T=jY (la.res x') s.T/\la.meas x' < la.meas x
          | false=>False
        | none=>False
      | e=>K e g s'):=by
     intro x hx;have:=k2 x hx;split at this
     .cases this
     .rename_i hc;rw[aB,bV]at hc;exact⟨hc.1,hc.2,this⟩
    obtain⟨B,G,hJ,hG,ha,hnc,aj⟩:=gs;have D0:∀h' a',h.le h'->Same (writes c) a a'->∀t e,iD (pX (eX la.drop (writes c)) [] s.env) t=some ([],e)->∃z,a'.tmps[t]?=some z/\jP h' [] e z:=by
     intro h' a' le sm t e ht;obtain⟨_,hw,hl,_,hf⟩:=kR ht;obtain⟨z,q1,q2,_⟩:=aj.env t [] e hl;exact⟨z,by rw[sm t (by rw[lq,lX]at hw;exact hw.2)];exact q1,(jP.lC [] hf (q2 rfl)).mono le (Ext.refl _)⟩
    refine wpIn_loop_ghost (λm a' w'=>∃x h' β',la.meas x=m/\la.inv x/\h.le h'/\GS E.n J h0 (some (gh x)) (qp (eX la.drop (writes c)) s (la.slots x) (la.res x)) h' β' w' a'/\Same (writes c) a a') (la.meas x) ?_ ?_
    .obtain⟨g1,g2,_⟩:=good x i1;refine⟨x,h,_,rfl,i1,FH.le.refl h,⟨B,G,by rw[i2];exact hJ,hG,ha,hnc,y9 aj ?_ g1 g2 i3 (λp hp=>(qX p hp).2) (D0 h a (FH.le.refl h) (Same.refl _ _))⟩,Same.refl _ _⟩
     rw[<-i4,jF,bF,VX]
    .rintro m a' w' ⟨x,h',β',rfl,hx,le,gs',sm⟩;obtain⟨g1,g2,kk⟩:=good x hx;refine rY ok hg hr hy hfl c gs' kk λe g s2 h2 β2 w2 a2 k2 iy gs2 wJ=>?_
     cases e with
     | normal=>
       simp only at k2;cases g with
       | none=>exact k2.elim
       | some j=>
         simp only at k2;split at k2
         .rename_i hR;obtain⟨x',j1,jg,j2,j3,j4⟩:=k2;obtain⟨g1',g2',_⟩:=good x' j1;obtain⟨B2,G2,q1,q2,q3,q4,bI⟩:=gs2;refine⟨la.meas x',j4,x',h2,_,rfl,j1,le.trans iy,⟨B2,G2,by rw[jg];exact q1,q2,q3,q4,y9 bI j3 g1' g2' j2 (qW hR) (D0 h2 a2 (le.trans iy) (sm.trans wJ))⟩,sm.trans wJ⟩
         .cases k2
     | exit j=>exact next _ _ _ _ _ _ _ k2 (le.trans iy) gs2 (sm.trans wJ)
     | goto l=>exact next _ _ _ _ _ _ _ k2 (le.trans iy) gs2 (sm.trans wJ)
     | ret=>exact next _ _ _ _ _ _ _ k2 (le.trans iy) gs2 (sm.trans wJ)
     | panic ch=>exact next _ _ _ _ _ _ _ k2 (le.trans iy) gs2 (sm.trans wJ)
     | outgrown=>exact next _ _ _ _ _ _ _ k2 (le.trans iy) gs2 (sm.trans wJ)
   .cases k
 | .rangeFunc _ _ _ _,i,s,h,β,w,a,K,Q,gs,k,next=>k.elim
 | .scope _,i,s,h,β,w,a,K,Q,gs,k,next=>k.elim
 | .label _,i,s,h,β,w,a,K,Q,gs,k,next=>k.elim
 | .goto _,i,s,h,β,w,a,K,Q,gs,k,next=>k.elim
 | .refuse _,i,s,h,β,w,a,K,Q,gs,k,next=>k.elim
end
abbrev F6:(ss:List Sh)->bT ss->List SV
 | [],_=>[]
 | s :: l,d=>.c (.fp s d.1) :: F6 l d.2
theorem Jk{h:FH}:∀{ss:List Sh}{d:bT ss}{ys:List Value},capD h ss d ys->aU (dA h []) (F6 ss d) ys
 | [],_,[],_=>trivial
 | [],_,_ :: _,x=>x.elim
 | _ :: _,_,[],x=>x.elim
 | _ :: _,_,_ :: _,⟨⟨b,cs,e,r,at_⟩,x⟩=>⟨⟨⟨b,0,cs,e,r,at_⟩,by subst e;exact iP _⟩,Jk x⟩
abbrev Yd{ss:List Sh} (L:List (bT ss)) (e:Exit) (g:Option Nat):Prop:=match e with
 | .normal=>match g with
   | none=>True
   | some i=>i=aQ L
 | .ret=>match g with
   | none=>True
   | some i=>i=aQ L
 | _=>False
theorem GX{P:Program}{fn:Func} (hrs:tl fn.results=[]){tmps:Array Value}{R:Ending->World->Prop}{J:World->Prop}{Gf:Nat->Prop} (ab:∀A A',J A->Gs Gf A A'->(∀b,Gf b->b < A'.heap.size)->J A') (hR:∀w v,J w->R (.returned v) w):
 ∀(X:List Nat){w:World},X.Nodup->(∀D∈X,Gf D/\w.heap[D]?=some (.deferred (some [])))->(∀b,Gf b->b < w.heap.size)->J w ->
 LeavesInM Fence.wide 0 P fn tmps R (X.map (λD=>({ target:=.collected D,args:=#[] }:Deferred))) .returning w
 | [],w,_,_,_,hJ=>⟨_,Bj (a:={ tmps:=tmps,defers:=[] }) (ys:=[]) (by rw[hrs];rfl),hR _ _ hJ⟩
 | D :: X,w,hn,hx,iO,hJ=>by
   obtain⟨h1,h2⟩:=hx D (by simp)
   have hn:=TW.1 hn;refine⟨λhh=>(by cases hh),.inl ⟨D,w.putObj D (.deferred none),rfl,run_takeDeferred h2,?_⟩⟩
   have hlt':∀b,Gf b->b < (w.putObj D (.deferred none)).heap.size:=λb hb=>by simpa using iO b hb
   refine GX hrs ab hR X hn.2 (λD' hD'=>?_) hlt' (ab _ _ hJ ⟨rfl,rfl,rfl,by simp,o9 _,λk _ hk=>World.putObj_heap_other (by rintro rfl;exact hk h1)⟩ hlt')
   obtain⟨g1,g2⟩:=hx D' (by simp[hD'])
   refine⟨g1,(World.putObj_heap_other ?_).trans g2⟩;rintro rfl;exact hn.1 hD'
theorem Ye{P:Program}{E:Env} (ok:gG P E) (hr:E.rd=false){g:FuncId}{fn:Func}{body:Code} (hf:P.funcs[g]?=some fn) (hb:fn.body=some body) (hname:(fn.name == "runtime.NumGoroutine")=false) (hn:fn.ntmps=E.n) (hrs:tl fn.results=[])
 {ss:List Sh}{L:List (bT ss)} (hfl:allL iQ ss=true){cs:List Sh}{ds:bT cs} (hle:Nat.ble (aQ cs+1) E.n=true)
 (k:∃ann,∀l,Aw { E with ann:=ann } l ss L body 0 { env:=BK 0 (.c (.abs (.Wh l)) :: F6 cs ds),T:=[],gl:=[],gs:=[] } λe g _=>Yd L e g)
 {h:FH} (hg:aK E.cx.gd h){lb:List Value} (cap:capD h cs ds lb):Gives P h ss L (.func (.func g) #[] lb.toArray):=by
 obtain⟨ann,k⟩:=k;refine⟨g,lb.toArray,rfl,⟨fn,hf,by rw[hb];rfl,hname⟩,λl J W h1 h2 h3 h4=>?_⟩
 have okE:gG P { E with ann:=ann }:=⟨ok.prog,ok.hc,ok.XD,ok.mixed,ok.ti,ok.ct,ok.ip,ok.sq,ok.sf⟩
 have hy:Yl P h l ss L J:=⟨h1,h2,h3⟩;have hcl:lb.length=cs.length:=by
  have:∀{cs:List Sh}{ds:bT cs}{lb:List Value},capD h cs ds lb->lb.length=cs.length:=by
   intro cs
   induction cs with
   | nil=>intro ds lb x;cases lb with | nil=>rfl | cons _ _=>exact x.elim
   | cons p l ih=>intro ds lb x;cases lb with | nil=>exact x.elim | cons v m=>simp[ih x.2]
  exact this cap
 have hln:lb.length+1<=E.n:=by have:=qj hle;rw[bF]at this;omega
 have eargs:(#[.func (.yield l) #[] #[]]++lb.toArray:Array Value)=(.func (.yield l) #[] #[] :: lb).toArray:=by simp
 rw[eargs];refine callsIn_of_wp_marks (F:=Fence.wide) (n:=0) hf hb trivial ?_;have hav:aU (dA h []) (.c (.abs (.Wh l)) :: F6 cs ds) (.func (.yield l) #[] #[] :: lb):=⟨⟨rfl,rfl,rfl⟩,Jk cap⟩;have look:∀{xs:List SV}{ys:List Value}{n t:Nat}{G:Gd}{e:aZ},aU (dA h []) xs ys->iD (BK n xs) t=some (G,e)->∃y,G=[]/\n<=t/\ys[t - n]?=some y/\jP h [] e y:=by
  intro xs
  induction xs with
  | nil=>intro ys n t G e _ hh;simp[BK,iD]at hh
  | cons x xs ih=>
    intro ys n t G e a hh;cases ys with
    | nil=>exact a.elim
    | cons y ys=>
      simp only[BK]at hh;rw[bg]at hh;split at hh
      .rename_i hk;subst hk;cases hh;exact⟨y,rfl,o9 _,by simp,a.1⟩
      .obtain⟨u,h1,h2,h3,h4⟩:=ih a.2 hh;refine⟨u,h1,by omega,?_,h4⟩
       rw[show t - n=(t - (n+1))+1 by omega]
       simpa using h3
 have aj:Sat E.n (Base.of W) h { env:=BK 0 (.c (.abs (.Wh l)) :: F6 cs ds),T:=[],gl:=[],gs:=[] } h [] W { tmps:=(.func (.yield l) #[] #[] :: lb).toArray++Array.replicate (fn.ntmps - (.func (.yield l) #[] #[] :: lb:List Value).toArray.size) undef,defers:=[] }:=by
  refine⟨⟨Bw.refl (Base.of W),o9 _,rfl,λi r v e _=>by simp[eff]at e,λi r v b e _ _ _=>by simp[eff]at e,λi j r r' u v b e _ _ _ _ _ _ _=>by simp[eff]at e,FH.le.refl h,h1 _ _ _ h4,λb o v hh=>.inl hh,λk o hh=>hh.elim⟩,?_,?_,NW.nil rfl,?_,?_,?_⟩
  .intro t G e ht;obtain⟨y,rfl,h2,h3,h4⟩:=look hav ht;simp only[Nat.sub_zero]at h3;refine⟨y,?_,λ_=>h4,λhh=>by cases hh⟩
   rw[Array.getElem?_append_left (by have:=(A8.1 h3).1;simpa using this)]
   simpa using h3
  .intro d i hi;cases hi
  .simp only[A85,FM,Array.size_replicate,wS];omega
  .intro t G e ht;obtain⟨y,rfl,_⟩:=look hav ht;rfl
  .intro p hp;cases hp
 have gs0:GS E.n J h (some 0) { env:=BK 0 (.c (.abs (.Wh l)) :: F6 cs ds),T:=[],gl:=[],gs:=[] } h [] W { tmps:=(.func (.yield l) #[] #[] :: lb).toArray++Array.replicate (fn.ntmps - (.func (.yield l) #[] #[] :: lb:List Value).toArray.size) undef,defers:=[] }:=
  ⟨Base.of W,λ_=>False,h4,λb hb=>hb.elim,λk=>by simp,λk o hh=>hh.elim,aj⟩
 refine rY okE hg hr hy hfl body gs0 (k l) λe g' s' h' β' w' a' ke le gs' sm=>?_
 obtain⟨B,G,hJ,hG,ha,hnc,aW⟩:=gs';obtain⟨X,x1,x2,x3⟩:=aW.defers;have hJn:=GS.now h2 hJ ha aW;have fin:Yd L .ret g'->LeavesInM Fence.wide 0 P fn a'.tmps (λe W'=>(∃v,e=.returned v)/\∃G,J (some L.length) G W'\/J none G W') a'.defers .returning w':=by
  intro hh;rw[x1];refine GX hrs (J:=λw=>J g' (BL B w') w) (Gf:=BL B w') (λA A' hA hgs iO=>h2 _ _ _ _ _ hA hgs λb hb=>⟨iO b hb,.inl hb⟩) (λw v hA=>⟨⟨v,rfl⟩,BL B w',?_⟩) X x2 (λD hD=>⟨⟨(x3 D hD).1,(C9.1 (aW.ok.kn D _ (x3 D hD).2)).1⟩,aW.ok.kn D _ (x3 D hD).2⟩) (λb hb=>hb.2) hJn
  cases g' with
  | none=>exact .inr hA
  | some i=>
    have hh:i=aQ L:=hh;rw[bF]at hh;subst hh;exact .inl hA
 cases e with
 | normal=>exact fin ke
 | ret=>exact fin ke
 | exit i=>exact ke.elim
 | goto l=>exact ke.elim
 | panic ch=>exact ke.elim
 | outgrown=>exact ke.elim
theorem LM:∀{cs:List Sh}{ds:bT cs},aQ (F6 cs ds)=aQ cs
 | [],_=>rfl
 | _ :: l,d=>by simp only[F6,aQ];rw[LM]
theorem Bc.cn{h:FH}:∀{ss:List Sh}{d:bT ss}{ys:List Value},Bc h ss d ys->aU (dA h []) (fE ss d) ys
 | [],_,[],_=>trivial
 | [],_,_ :: _,x=>x.elim
 | _ :: _,_,[],x=>x.elim
 | s :: l,d,y :: ys,⟨⟨cs,e,r⟩,b⟩=>⟨by rw[e];exact jG s r,Bc.cn b⟩
theorem aiM{P:Program}{cx:Cx}{n:Nat}{cl:List (Nat×CT)}{rc:List RC} (mx:P.follows .mixedOrders=true) (ti:bQ P cx.ti) (cm:lF P cx.gd cl){g:FuncId}{fn:Func} (hf:P.funcs[g]?=some fn) (hb:fn.body=some (jJ fn)) (hn:fn.ntmps=n)
 {cs ss:List Sh}{r:Sh} (hfl:iQ r=true) (hle:Nat.ble (aQ ss+aQ cs) n=true) (hs:fn.body.isSome=true) (hname:(fn.name == "runtime.NumGoroutine")=false)
 {am8:bT cs->Prop}{pre:bT cs->bT ss->Prop}{f:bT cs->bT ss->r.den}
 (k:∀ds d,am8 ds->pre ds d->∃ann,uO (Pe P cx n cl [] [] rc ann) (jJ fn) (tl fn.results) (eX (fE ss d) (F6 cs ds)) λT e=>[]=T/\.one (iE r (f ds d))=e):
 X9 P cx.gd g { ss:=cs,f:=λds=>.clo P ss r (pre ds) (f ds),pre:=am8 }:=by
 intro ds h lb hp hg cap;refine⟨g,lb.toArray,rfl,⟨fn,hf,hs,hname⟩,λd vs h' w le hw hd hpd=>?_⟩
 have C:CTS P cx.gd g (F6 cs ds) { ps:=ss,pre:=pre ds,res:=λd=>([],.one (iE r (f ds d))) }:=
  O7 (E:=Pe P cx n cl [] [] rc λ_=>none) (Jg mx ti cm trivial trivial) hf hb hn (by rw[LM];exact hle) (λd hd=>k ds d hp hd)
 have:=C d vs lb h' w hw (hg.mono le) hd.cn (Jk (cap.mono le)) hpd;rw[show vs.toArray++lb.toArray=(vs++lb).toArray by simp]
 refine this.mono ?_;rintro en w' ⟨h'',β,y,rfl,ok,c⟩;obtain⟨cs',e,rd⟩:=Gw r (show dA h'' β (iE r (f ds d)) y from c)
 exact⟨y,rfl,⟨cs',e,rd.flat r hfl⟩,Bw.bel ok.below,ok.dr⟩
end Go.jl
namespace Go.jl
open Go
theorem ak{n:Int}:mP .i64 n↔-9223372036854775808<=n/\n<=9223372036854775807:=by
 unfold mP;simp only[IntKind.wrap,IntKind.bits,IntKind.signed];constructor<;>intro h<;>simp at *<;>omega
theorem eF{n b:Nat}:nO n b↔n * b<=140737488355328:=Iff.rfl
theorem aiN(d:ByteArray) (j:Nat):d[j]?=d.data.toList[j]?:=by
 by_cases h:j < d.size
 .rw[getElem?_pos d j h,Array.getElem?_toList,getElem?_pos d.data j h];rfl
 .rw[getElem?_neg d j h,Array.getElem?_toList,getElem?_neg d.data j h]
theorem zi{h:FH}{k:IntKind}:∀{l:List Int}{cs:List Value},fV (Rd h (.int k)) cs l↔cs=l.map (Value.int k)
 | [],cs=>by simp[fV]
 | x :: l,cs=>by
   simp only[fV,Rd,TP];constructor
   .rintro⟨c,r,rfl,rfl,hr⟩;rw[(zi (h:=h)).1 hr];rfl
   .rintro rfl;exact⟨[.int k x],l.map (Value.int k),rfl,rfl,(zi (h:=h)).2 rfl⟩
def jB(l:List Int):List Int:=l.mergeSort λx y=>decide (x<=y)
abbrev EG:IP:={ sh:=.int .i64,ps:=[],pre:=λl _=>l.length < 4611686018427387904,res:=λl _=>jB l,back:=false }
abbrev AA:IP:={ sh:=.int .i64,ps:=[],pre:=λl _=>l.length < 4611686018427387904,res:=λl _=>Lib.compact l,back:=true }
theorem LP(l:List Int):(Lib.compact l).length<=l.length:=by
 unfold Lib.compact Lib.compactUpTo;rw[VP];refine o8 (TR _ _) (by simp)
theorem GY{w:World}{g n:Nat}{os:Array Obj} (d:Array Int):Gb w (Sort.grow (Sort.putRow (Value.int .i64) (Sort.ahead w n) g 0 d) os) (some g):=
 ⟨grownBy_sortedI d,by simp[Sort.grow,Sort.putRow,Sort.mapBlock,Sort.ahead]⟩
theorem Rn{h:FH}{w:World}{t:TypeId}{l:List Int}{g cap:Nat}{cur:Array Value} (hb:w.heap[g]?=some (.cells cur t (0,0))) (hc:l.length<=cap) (hcap:1<=cap/\cap<=maxLen) (hsz:cur.size=cap * 1){ts:List Int} (hts:ts.length=l.length){k:Nat} (hk:k<=ts.length){n:Nat}{os:Array Obj}:
 Holds h [] (Sort.grow (Sort.putRow (Value.int .i64) (Sort.ahead w n) g 0 ts.toArray) os) (.row t (.int .i64) (ts.take k)) (.row (.slice (some ⟨g,0,none⟩) (ts.take k).length cap)):=by
 refine .inr (.inr ⟨g,cap,_,rfl,heap_sortedI _ hb,by rw[kV];omega,hcap,by simp[Sort.putCells,hsz,Sh.size],zi.2 ?_⟩)
 have e:=take_putCellsI cur ts (by omega)
 rw[V5,kV,show min k ts.length=k by omega]
 have:(Sort.putCells (Value.int .i64) 0 ts.toArray cur).toList.take k=((Sort.putCells (Value.int .i64) 0 ts.toArray cur).toList.take ts.length).take k:=by rw[List.take_take,show min k ts.length=k by omega]
 rw[this,e,List.map_take]
theorem Va{P:Program}{gd:Nat->Option (Sigma Sh.den)}{f:FuncId}{cz:CT} (hz:KJ P gd f cz) (ez:cz={ ps:=[.sl (.int .i64)],pre:=λd=>d.1=[],res:=λd=>([],.iq []) })
 (hs:∀(blk cap:Nat) (zs:List Int) (w:World),Sort.Holds (Value.int .i64) w blk 0 zs.toArray->blk < w.heap.size->zs.length < 4611686018427387904 ->
  Calls P f #[.slice (some ⟨blk,0,none⟩) zs.length cap] w λe w'=>e=.returned (.tuple #[])/\∃n os,w'=Sort.grow (Sort.putRow (Value.int .i64) (Sort.ahead w n) blk 0 (jB zs).toArray) os):
 UA P gd f EG:=by
 intro t l d v vs h w hw hg hold hfr hvs aF;subst ez;cases vs with
 | cons _ _=>exact hvs.elim
 | nil=>
   have zero:∀v:Value,qy h (Rd h (.int .i64)) v []->(Holds h [] w (.row t (.int .i64) []) (.row v))->Calls P f #[v] w (λen w'=>∃v' y,en=.returned y/\Gb w w' (aA v)/\(∀b,aA v'=some b->aA v=some b\/(w.heap.size<=b/\b < w'.heap.size)) /\
    Holds h [] w' (.row t (.int .i64) (jB [])) (.row v')/\(EG.back=true->y=v')/\(EG.back=false->y=.tuple #[]/\v'=v)):=by
    intro v hv hold;refine(hz ([],()) [v] h w hw hg ⟨⟨hv,hv.dG⟩,trivial⟩ rfl).mono ?_;rintro en w' ⟨h',β',y,rfl,ok,he⟩;obtain⟨ys,rfl,ha⟩:=he;cases ys with
    | cons _ _=>exact ha.elim
    | nil=>
      refine⟨v,_,rfl,?_,λb hb=>.inl hb,?_,λhh=>(by cases hh),λ_=>⟨rfl,rfl⟩⟩
      .exact⟨⟨ok.below.os,ok.below.tape,ok.below.output,ok.below.size,λk hk _=>(Bw.bel ok.below).block k hk⟩,ok.dr⟩
      .rw[show jB []=[] by simp[jB]]
       rcases hold with e | e | ⟨g,cap,cur,rfl,e1,e2,e3,e4,r⟩
       .exact .inl e
       .exact .inr (.inl e)
       .refine .inr (.inr ⟨g,cap,cur,rfl,?_,e2,e3,e4,r⟩);rw[(Bw.bel ok.below).block g (C9.1 e1).1];exact e1
   rcases hold with⟨rfl,rfl⟩ | ⟨ra,rfl,rfl⟩ | ⟨g,cap,cur,rfl,e1,e2,e3,e4,r⟩
   .exact zero _ (.inl ⟨rfl,rfl⟩) (.inl ⟨rfl,rfl⟩)
   .exact zero _ (.inr (.inl ⟨ra,0,rfl,rfl,J4 _⟩)) (.inr (.inl ⟨ra,rfl,rfl⟩))
   .have hr:=zi.1 r;rw[V5]at hr;have hgs:g < w.heap.size:=(C9.1 e1).1;refine(hs g cap l w (holds_of_blockI e1 hr) hgs aF).mono ?_;rintro en w' ⟨rfl,n,os,rfl⟩;have hl:(jB l).length=l.length:=by simp[jB]
    refine⟨.slice (some ⟨g,0,none⟩) l.length cap,_,rfl,by rw[aY e3.1];exact GY _,λb hb=>.inl hb,?_,λhh=>(by cases hh),λ_=>⟨rfl,rfl⟩⟩
    have:=Rn (h:=h) (n:=n) (os:=os) e1 e2 e3 e4 hl (o9 _);rw[VX,hl]at this;exact this
theorem Jl{P:Program}{gd:Nat->Option (Sigma Sh.den)}{f:FuncId}
 (hz:∀(a:Option Addr) (cap:Nat) w,Calls P f #[.slice a 0 cap] w λe w'=>e=.returned (.slice a 0 cap)/\w'=w)
 (hs:∀(blk cap:Nat) (zs:List Int) (w:World),Sort.Holds (Value.int .i64) w blk 0 zs.toArray->zs.length<=9223372036854775807->zs.length<=cap ->
  Calls P f #[.slice (some ⟨blk,0,none⟩) zs.length cap] w λe w'=>e=.returned (.slice (some ⟨blk,0,none⟩) (Lib.compact zs).length cap) /\
   ∃q,w'=Sort.putRow (Value.int .i64) (Sort.ahead w q) blk 0 (Lib.compact zs++List.replicate (zs.length - (Lib.compact zs).length) 0).toArray):
 UA P gd f AA:=by
 intro t l d v vs h w hw hg hold hfr hvs aF;cases vs with
 | cons _ _=>exact hvs.elim
 | nil=>
   rcases hold with⟨rfl,rfl⟩ | ⟨ra,rfl,rfl⟩ | ⟨g,cap,cur,rfl,e1,e2,e3,e4,r⟩
   .refine(hz none 0 w).mono ?_;rintro en w' ⟨rfl,rfl⟩;exact⟨.slice none 0 0,_,rfl,cO _ _,λb hb=>.inl hb,.inl ⟨rfl,rfl⟩,λ_=>rfl,λhh=>(by cases hh)⟩
   .refine(hz (some ra) 0 w).mono ?_;rintro en w' ⟨rfl,rfl⟩;exact⟨.slice (some ra) 0 0,_,rfl,cO _ _,λb hb=>.inl hb,.inr (.inl ⟨ra,rfl,rfl⟩),λ_=>rfl,λhh=>(by cases hh)⟩
   .have hr:=zi.1 r;rw[V5]at hr;have aF:l.length < 4611686018427387904:=aF;refine(hs g cap l w (holds_of_blockI e1 hr) (by omega) e2).mono ?_
    rintro en w' ⟨rfl,q,rfl⟩;have hc:=LP l;have hl:(Lib.compact l++List.replicate (l.length - (Lib.compact l).length) 0).length=l.length:=by simp;omega
    have:=Rn (h:=h) (n:=q) (os:=#[]) e1 e2 e3 e4 hl (k:=(Lib.compact l).length) (by omega)
    rw[VQ,Sort.grow_empty]at this;refine⟨.slice (some ⟨g,0,none⟩) (Lib.compact l).length cap,_,rfl,?_,λb hb=>.inl (by rw[aY e3.1]at hb ⊢;exact hb),this,λ_=>rfl,λhh=>by cases hh⟩
    have:=GY (w:=w) (g:=g) (n:=q) (os:=#[]) (Lib.compact l++List.replicate (l.length - (Lib.compact l).length) 0).toArray;rw[aY e3.1]
    rwa [Sort.grow_empty]at this
def Pg{α β:Type} (f:α->Option β):List α->Option (List β)
 | []=>some []
 | x :: l=>match f x with
   | some y=>match Pg f l with
     | some m=>some (y :: m)
     | none=>none
   | none=>none
def zk{H:Type}:(s:Sh)->DataW H->Option s.den
 | .int k,d=>match d with
   | .lit (.int k' n)=>if k=k' then some n else none
   | _=>none
 | .bool,d=>match d with
   | .lit (.bool b)=>some b
   | _=>none
 | .str,d=>match d with
   | .lit (.string l)=>some ⟨l.toArray⟩
   | _=>none
 | .any,_=>none
 | .sl s,d=>match d with
   | .nil=>some []
   | .slice es _=>Pg (zk s) es
   | _=>none
 | .pair a b,d=>match d with
   | .agg (p :: ps)=>match zk a p with
     | some x=>match zk b (.agg ps) with
       | some y=>some (x,y)
       | none=>none
     | none=>none
   | _=>none
 | .unit,d=>match d with
   | .agg []=>some ()
   | _=>none
 | .arr n s,d=>match d with
   | .agg ps=>if ps.length=n then Pg (zk s) ps else none
   | _=>none
 | .mp _ _,_=>none
def wfD:(s:Sh)->s.den->Prop
 | .int k,n=>(Lit.int k n).wf=true
 | .bool,_=>True
 | .str,b=>b.size<=maxLen
 | .any,_=>True
 | .sl s,l=>l.length<=maxLen/\∀x∈l,wfD s x
 | .pair a b,p=>wfD a p.1/\wfD b p.2
 | .unit,_=>True
 | .arr n s,l=>l.length=n/\∀x∈l,wfD s x
 | .mp _ _,_=>True
def rH(P:Program):Sh->(TypeId->Bool)×(List Field->Nat->Bool)
 | .int k=>(λt=>match P.underlying t with | some (.int k')=>decide (k=k') | _=>false,λ_ _=>false)
 | .bool=>(λt=>match P.underlying t with | some .bool=>true | _=>false,λ_ _=>false)
 | .str=>(λt=>match P.underlying t with | some .string=>true | _=>false,λ_ _=>false)
 | .any=>(λ_=>false,λ_ _=>false)
 | .mp _ _=>(λ_=>false,λ_ _=>false)
 | .sl s=>(λt=>match P.underlying t with | some (.slice e)=>(rH P s).1 e && P.cellsOf e == s.size && decide (1<=s.size) | _=>false,λ_ _=>false)
 | .arr n s=>(λt=>match P.underlying t with | some (.array m e)=>m == n && (rH P s).1 e && P.cellsOf e == s.size && P.cellsOf t == n * s.size | _=>false,λ_ _=>false)
 | .pair a b=>(λt=>match P.underlying t with
  | some (.struct fs)=>P.cellsOf t == a.size+b.size && (match fs.toList with
    | f :: r=>f.offset == 0 && P.cellsOf f.type == a.size && (rH P a).1 f.type && (rH P b).2 r a.size
    | []=>false)
  | _=>false,
   λfs off=>match fs with
    | f :: r=>f.offset == off && P.cellsOf f.type == a.size && (rH P a).1 f.type && (rH P b).2 r (off+a.size)
    | []=>false)
 | .unit=>(λt=>match P.underlying t with
  | some (.struct fs)=>P.cellsOf t == 0 && fs.toList.isEmpty
  | _=>false,
   λfs _=>fs.isEmpty)
section
variable {H:Type}{enc:TypeId×Value->H}{P:Program}{W:World}{sp:Nat->Bool}{held:Bool}
def OpT(enc:TypeId×Value->H) (P:Program) (W:World) (sp:Nat->Bool) (held:Bool) (s:Sh) (t:TypeId):Prop:=
 ∀(fuel:Nat) (cs:List Value) (x:DataW H×List MemPlace),DataW.trod enc P W 0 sp held fuel t cs=some x->∃y,zk s x.1=some y/\Rd (FH.all W) s cs y/\wfD s y
theorem EH{s:Sh}{e:TypeId}{n:Nat}{a:Addr} (hs:OpT enc P W sp held s e):∀(elems:List (DataW H×List MemPlace)) (k:Nat),
 (∀i,i < elems.length->(W.cells? 0 (a.add ((k+i) * s.size)) s.size).bind (DataW.trod enc P W 0 sp held n e)=elems[i]?) ->
 ∃CS L,Pg (zk s) (elems.map (·.1))=some L/\fV (Rd (FH.all W) s) CS L/\L.length=elems.length/\(∀j u,CS[j]?=some u->W.cell? (a.add (k * s.size+j))=some u)/\∀x∈L,wfD s x
 | [],k,_=>⟨[],[],rfl,rfl,rfl,λj u e=>by simp at e,λx hx=>by simp at hx⟩
 | x :: elems,k,he=>by
   have h0:=he 0 (by simp)
   simp only[Uc,A99,Option.bind_eq_some_iff]at h0;obtain⟨cs,hc,hx⟩:=h0;obtain⟨y,y1,y2,y3⟩:=hs _ _ _ hx;obtain⟨CS,L,l1,l2,l3,l4,l5⟩:=EH hs elems (k+1) (λi hi=>by
    have:=he (i+1) (by simpa using hi)
    rw[show k+1+i=k+(i+1) by omega]
    simpa using this)
   obtain⟨_,c2,c3⟩:=World.cells?_some hc;refine⟨cs++CS,y :: L,?_,⟨cs,CS,rfl,y2,l2⟩,by simp[l3],?_,?_⟩
   .simp only[TP,Pg,y1,l1]
   .intro j u hu
    by_cases hj:j < cs.length
    .rw[VE hj]at hu;have:=c3 j (by omega)
     rw[hu]at this;rw[<-this,Addr.add_add]
    .rw[NH (by omega)]at hu
     have:=l4 (j - cs.length) u hu;rw[show k * s.size+j=(k+1) * s.size+(j - cs.length) by rw[wW];omega]
     exact this
   .intro z hz;rcases mY.1 hz with rfl | hz
    .exact y3
    .exact l5 z hz
theorem LQ{s:Sh}{e:TypeId}{m:Nat} (hs:OpT enc P W sp held s e):∀(xs:List (DataW H×List MemPlace)) (cs:List Value),cs.length=xs.length * s.size ->
 (∀i,i < xs.length->DataW.trod enc P W 0 sp held m e ((cs.drop (i * s.size)).take s.size)=xs[i]?) ->
 ∃L,Pg (zk s) (xs.map (·.1))=some L/\fV (Rd (FH.all W) s) cs L/\L.length=xs.length/\∀x∈L,wfD s x
 | [],cs,hl,_=>⟨[],rfl,by simpa[fV]using hl,rfl,λx hx=>by simp at hx⟩
 | x :: xs,cs,hl,he=>by
   have h0:=he 0 (by simp)
   simp only[NS,NK,A99]at h0;obtain⟨y,y1,y2,y3⟩:=hs _ _ _ h0;obtain⟨L,l1,l2,l3,l4⟩:=LQ hs xs (cs.drop s.size) (by rw[yc,hl,wS,wW];omega) (λi hi=>by
    have:=he (i+1) (by simpa using hi)
    rw[Ua,show s.size+i * s.size=(i+1) * s.size by rw[wW];omega]
    simpa using this)
   refine⟨y :: L,by simp only[TP,Pg,y1,l1],⟨cs.take s.size,cs.drop s.size,(VG _ _).symm,y2,l2⟩,by simp[l3],?_⟩
   intro z hz;rcases mY.1 hz with rfl | hz
   .exact y3
   .exact l4 z hz
def OpF(enc:TypeId×Value->H) (P:Program) (W:World) (sp:Nat->Bool) (held:Bool) (s:Sh) (fs:List Field) (off:Nat):Prop:=
 ∀(n:Nat) (cs:List Value) (xs:List (DataW H×List MemPlace)),cs.length=off+s.size->xs.length=fs.length ->
   (∀(i:Nat) (f:Field),fs[i]?=some f->DataW.trod enc P W 0 sp held n f.type ((cs.drop f.offset).take (P.cellsOf f.type))=xs[i]?) ->
   ∃y,zk s (.agg (xs.map (·.1)))=some y/\Rd (FH.all W) s (cs.drop off) y/\wfD s y
theorem GZ{a b:Sh}{f:Field}{r:List Field}{off:Nat} (h1:f.offset=off) (h2:P.cellsOf f.type=a.size) (ha:OpT enc P W sp held a f.type) (hb:OpF enc P W sp held b r (off+a.size)):
 OpF enc P W sp held (.pair a b) (f :: r) off:=by
 intro n cs xs hl hx he;cases xs with
 | nil=>simp at hx
 | cons x xs=>
   have h0:=he 0 f rfl;rw[h1,h2]at h0;obtain⟨y,y1,y2,y3⟩:=ha _ _ _ h0;obtain⟨z,z1,z2,z3⟩:=hb n cs xs (by rw[hl];simp only[Sh.size];omega) (by simpa using hx) (λi g hg=>by simpa using he (i+1) g (by simpa using hg))
   refine⟨(y,z),?_,⟨(cs.drop off).take a.size,cs.drop (off+a.size),?_,y2,z2⟩,y3,z3⟩
   .simp only[TP,zk,y1,z1]
   .rw[<-Ua];exact(VG _ _).symm
theorem qY:∀(s:Sh),(∀t,(rH P s).1 t=true->OpT enc P W sp held s t)/\(∀fs off,(rH P s).2 fs off=true->OpF enc P W sp held s fs off)
 | .int k=>by
   refine⟨λt ht fuel cs x h=>?_,λfs off hf=>by simp[rH]at hf⟩
   simp only[rH]at ht;split at ht
   .rename_i k' hu;simp only[dH]at ht;subst ht;obtain⟨n,rfl,rfl,hw⟩:=DataW.trod_int hu h;exact⟨n,by simp[zk],rfl,hw⟩
   .cases ht
 | .bool=>by
   refine⟨λt ht fuel cs x h=>?_,λfs off hf=>by simp[rH]at hf⟩
   simp only[rH]at ht;split at ht
   .rename_i hu;obtain⟨b,rfl,rfl⟩:=DataW.trod_bool hu h;exact⟨b,rfl,rfl,trivial⟩
   .cases ht
 | .str=>by
   refine⟨λt ht fuel cs x h=>?_,λfs off hf=>by simp[rH]at hf⟩
   simp only[rH]at ht;split at ht
   .rename_i hu;obtain⟨b,rfl,rfl,hb⟩:=DataW.trod_string hu h;exact⟨b,rfl,rfl,hb⟩
   .cases ht
 | .any=>⟨λt ht=>by simp[rH]at ht,λfs off hf=>by simp[rH]at hf⟩
 | .mp _ _=>⟨λt ht=>by simp[rH]at ht,λfs off hf=>by simp[rH]at hf⟩
 | .sl s=>by
   refine⟨λt ht fuel cs x h=>?_,λfs off hf=>by simp[rH]at hf⟩
   simp only[rH]at ht;split at ht
   .rename_i e hu;simp only[bV,Ba,dH]at ht;obtain⟨⟨ht,hc⟩,h1⟩:=ht;have ih:=(qY s).1 e ht;rcases DataW.trod_slice hu h with⟨rfl,rfl⟩ | ⟨a,len,cap,elems,rest,n,_,rfl,rfl,_,hle,hcap,hlen,hel,_,_⟩
    .exact⟨[],rfl,⟨_,rfl,.inl ⟨rfl,rfl⟩⟩,J4 _,λx hx=>by simp at hx⟩
    .rw[hc]at hel;obtain⟨CS,L,l1,l2,l3,l4,l5⟩:=EH (n:=n) (a:=a) ih elems 0 (λi hi=>by rw[Dh];exact hel i (by omega))
     refine⟨L,l1,⟨_,rfl,?_⟩,by rw[l3];omega,l5⟩
     by_cases h0:len=0
     .have:L=[]:=VB (by omega)
      subst this;subst h0;exact .inr (.inl ⟨a,cap,rfl,rfl,hcap⟩)
     .have hsz:=fV.size (λ_ _=>Rd.size s) l2
      have hpos:0 < CS.length:=by rw[hsz,l3,hlen];exact Nat.mul_pos (by omega) (by omega)
      have hcell:=l4 0 _ (lK hpos);have hspot:a.spot=none:=by
       unfold World.cell? at hcell;split at hcell
       .split at hcell
        .cases hcell
        .rename_i hn;simpa[Addr.add]using hn
       .cases hcell
      obtain⟨ab,ao,asp⟩:=a;simp only at hspot;subst hspot;refine .inr (.inr ⟨ab,ao,cap,by rw[l3,hlen],by omega,hcap,CS,l2,λj u hu=>?_⟩)
      have:=l4 j u hu;refine V8 ?_ (fV.all (λ_ _=>Rd.one s) l2 u (ig hu)).2
      rw[<-this]
      by_cases hj:j=0<;>simp[Addr.add,hj]
   .cases ht
 | .arr m s=>by
   refine⟨λt ht fuel cs x h=>?_,λfs off hf=>by simp[rH]at hf⟩
   simp only[rH]at ht;split at ht
   .rename_i m' e hu;simp only[bV,Ba]at ht;obtain⟨⟨⟨rfl,ht⟩,hc⟩,hct⟩:=ht;have ih:=(qY s).1 e ht;obtain⟨xs,n,_,rfl,hl,hx,he⟩:=DataW.trod_array hu h;rw[hc]at he;have hcl:cs.length=xs.length * s.size:=by rw[hl,hct,hx]
    obtain⟨L,l1,l2,l3,l4⟩:=LQ (m:=n) ih xs cs hcl (λi hi=>he i (by omega))
    exact⟨L,by simp[zk,hx,l1],⟨by omega,l2⟩,⟨by omega,l4⟩⟩
   .cases ht
 | .pair a b=>by
   have iha:=qY a;have ihb:=qY b;constructor
   .intro t ht fuel cs x h;simp only[rH]at ht;split at ht
    .rename_i fs hu;simp only[bV,Ba]at ht;obtain⟨hc,ht⟩:=ht;split at ht
     .rename_i f r hfs;simp only[bV,Ba]at ht;obtain⟨⟨⟨t1,t2⟩,t3⟩,t4⟩:=ht;obtain⟨xs,n,_,rfl,hl,hx,he⟩:=DataW.trod_struct hu h;have:=GZ (off:=0) t1 t2 (iha.1 _ t3) (ihb.2 r _ (by simpa using t4)) n cs xs (by rw[hl,hc];simp) (by rw[hx,<-hfs];simp) (λi g hg=>he i g (by rw[<-hfs]at hg;simpa using hg))
      simpa using this
     .cases ht
    .cases ht
   .intro fs off hf;simp only[rH]at hf;split at hf
    .rename_i f r;simp only[bV,Ba]at hf;obtain⟨⟨⟨t1,t2⟩,t3⟩,t4⟩:=hf;exact GZ t1 t2 (iha.1 _ t3) (ihb.2 _ _ t4)
    .cases hf
 | .unit=>by
   constructor
   .intro t ht fuel cs x h;simp only[rH]at ht;split at ht
    .rename_i fs hu;simp only[bV,Ba,List.isEmpty_iff]at ht;obtain⟨hc,ht⟩:=ht;obtain⟨xs,n,_,rfl,hl,hx,he⟩:=DataW.trod_struct hu h;have hx0:xs=[]:=VB (by rw[hx,<-TM,ht];rfl)
     subst hx0;have:cs=[]:=VB (by omega)
     subst this;exact⟨(),rfl,rfl,trivial⟩
    .cases ht
   .intro fs off hf n cs xs hl hx he;simp only[rH,List.isEmpty_iff]at hf;subst hf;have:xs=[]:=VB (by simpa using hx)
    subst this;refine⟨(),rfl,?_,trivial⟩;show cs.drop off=[];rw[List.drop_eq_nil_iff];simp only[Sh.size]at hl;omega
end
end Go.jl
namespace Go.jl
open Go Go.RowKit Go.ChangeShapes Go.WideShapes
variable {t:TypeId}
section
variable {H:Type}{enc:TypeId×Value->H}{P:Program}{W:World}{sp:Nat->Bool}{held:Bool}
theorem cells_one{v:Value} (h:∀cs,v≠.agg cs):v.cells=#[v]:=by
 cases v<;>first | rfl | exact absurd rfl (h _)
theorem Yf{s:Sh}{v:Value}{d:DataW H}{ps:List MemPlace}{r:Reach}{b0:Nat} (hs:(rH P s).1 t=true) (hval:Value.okWide P W r b0 t v) (h:DataW.Trod enc P W 0 sp held t v d ps):
 ∃y,zk s d=some y/\dA (FH.all W) [] (iE s y) v/\wfD s y:=by
 obtain⟨fuel,hf⟩:=h;obtain⟨y,y1,y2,y3⟩:=(qY s).1 t hs _ _ _ hf;refine⟨y,y1,?_,y3⟩;have e:v=mkV s v.cells.toList:=by
  have one:s.isAgg=false->(∀cs,v≠.agg cs)->v=mkV s v.cells.toList:=by
   intro h1 h2;rw[cells_one h2];simp[mkV,h1]
  cases s with
  | int k=>
    refine one rfl λcs hc=>?_
    simp only[rH]at hs;split at hs
    .rename_i hu;subst hc;simp[Value.okWide,hu,Cell.okWide,Cell.ok]at hval
    .cases hs
  | bool=>
    refine one rfl λcs hc=>?_
    simp only[rH]at hs;split at hs
    .rename_i hu;subst hc;simp[Value.okWide,hu,Cell.okWide,Cell.ok]at hval
    .cases hs
  | str=>
    refine one rfl λcs hc=>?_
    simp only[rH]at hs;split at hs
    .rename_i hu;subst hc;simp[Value.okWide,hu,Cell.okWide,Cell.ok]at hval
    .cases hs
  | any=>simp[rH]at hs
  | mp _ _=>simp[rH]at hs
  | sl s=>
    refine one rfl λcs hc=>?_
    simp only[rH]at hs;split at hs
    .rename_i hu;subst hc;simp[Value.okWide,hu,Cell.okWide,Cell.ok]at hval
    .cases hs
  | pair a b=>
    simp only[rH]at hs;split at hs
    .rename_i hu;simp only[Value.okWide,hu]at hval;obtain⟨cs,rfl,_⟩:=hval;simp[mkV,Sh.isAgg,Value.cells]
    .cases hs
  | unit=>
    simp only[rH]at hs;split at hs
    .rename_i hu;simp only[Value.okWide,hu]at hval;obtain⟨cs,rfl,_⟩:=hval;simp[mkV,Sh.isAgg,Value.cells]
    .cases hs
  | arr n s=>
    simp only[rH]at hs;split at hs
    .rename_i hu;simp only[Value.okWide,hu]at hval;obtain⟨cs,rfl,_⟩:=hval;simp[mkV,Sh.isAgg,Value.cells]
    .cases hs
 rw[e];exact jG s y2
def Bo:(ss:List Sh)->List (DataW H)->Option (bT ss)
 | [],ds=>match ds with
   | []=>some ()
   | _=>none
 | s :: ss,ds=>match ds with
   | d :: r=>match zk s d with
     | some x=>match Bo ss r with
       | some y=>some (x,y)
       | none=>none
     | none=>none
   | []=>none
def aiO:(ss:List Sh)->bT ss->Prop
 | [],_=>True
 | s :: ss,d=>wfD s d.1/\aiO ss d.2
def Vb(P:Program):List Sh->List TypeId->Bool
 | [],[]=>true
 | s :: ss,t :: ts=>(rH P s).1 t && Vb P ss ts
 | _,_=>false
theorem G5:∀{ss:List Sh}{ds:List (DataW H)}{d:bT ss},Bo ss ds=some d->ds.length=ss.length
 | [],[],_,_=>rfl
 | [],_ :: _,_,h=>by simp[Bo]at h
 | _ :: _,[],_,h=>by simp[Bo]at h
 | s :: ss,x :: ds,d,h=>by
   simp only[Bo]at h;split at h
   .split at h
    .rename_i hr;simp[G5 hr]
    .cases h
   .cases h
theorem G6{r:Reach}{b0:Nat}:∀{ss:List Sh}{ts:List TypeId}{vs:List Value}{ds:List (DataW H)}{ps:List MemPlace},Vb P ss ts=true ->
 (∀(j:Nat) t v,ts[j]?=some t->vs[j]?=some v->Value.okWide P W r b0 t v)->DataW.TrodAll enc P W 0 sp held ts vs ds ps ->
 ∃d:bT ss,Bo ss ds=some d/\aU (dA (FH.all W) []) (fE ss d) vs/\aiO ss d
 | [],[],vs,ds,ps,_,_,h=>by
   obtain⟨rfl,rfl,rfl⟩:=trodAll_nil h;exact⟨(),rfl,trivial,trivial⟩
 | s :: ss,t :: ts,vs,ds,ps,hs,hval,h=>by
   obtain⟨v,vs,d,ds,p,q,rfl,rfl,rfl,h1,h2⟩:=trodAll_cons h;simp only[Vb,bV]at hs;obtain⟨y,y1,y2,y3⟩:=Yf hs.1 (hval 0 t v rfl rfl) h1;obtain⟨z,z1,z2,z3⟩:=G6 hs.2 (λj t v e e'=>hval (j+1) t v (by simpa using e) (by simpa using e')) h2
   exact⟨(y,z),by simp only[Bo,y1,z1],⟨y2,z2⟩,y3,z3⟩
 | [],_ :: _,_,_,_,hs,_,_=>by simp[Vb]at hs
 | _ :: _,[],_,_,_,hs,_,_=>by simp[Vb]at hs
theorem LU:∀{laid:List (String×DataW Unit)}{ps:List MemPlace}{n:String}{D:DataW Unit},DataW.LaidVars P W laid ps->(n,D)∈laid ->
 ∃g t cs fuel p,P.globalNamed n=some g/\(P.globals[g]?).map (·.type)=some t/\W.var? P n=some cs/\DataW.trod (λ_=>()) P W 0 (λ_=>true) false fuel t cs.toList=some (D,p)
 | [],_,_,_,_,hm=>by simp at hm
 | (n',D') :: r,ps,n,D,h,hm=>by
   obtain⟨g,t,cs,fuel,p,q,h1,h2,h3,h4,h5,_⟩:=h;rcases mY.1 hm with e | hm
   .cases e;exact⟨g,t,cs,fuel,p,h1,h2,h3,h4⟩
   .exact LU h5 hm
theorem G7{laid:List (String×DataW Unit)} (hL:laidMetH P laid W) (hnone:(laid.filter λx=>x.2.handleName?.isSome)=[]){n:String}{D:DataW Unit} (hm:(n,D)∈laid){g:Nat}{s:Sh}{y:s.den}
 (hg:P.globalNamed n=some g) (ht:(P.globals[g]?).map (·.type)=some t) (hs:(rH P s).1 t=true) (hd:zk s D=some y):∃cs,Rd (FH.all W) s cs y/\At (FH.all W) g 0 cs:=by
 unfold laidMetH at hL;rw[hnone]at hL;obtain⟨ps,hv,_⟩:=hL;obtain⟨g',t',cs,fuel,p,h1,h2,h3,h4⟩:=LU hv hm;rw[hg]at h1;cases h1;rw[ht]at h2;cases h2;obtain⟨y',y1,y2,_⟩:=(qY s).1 t hs _ _ _ h4;simp only at y1;rw[hd]at y1;cases y1;refine⟨_,y2,λj u hu=>?_⟩
 unfold World.var? at h3;rw[hg,Option.bind_some]at h3;split at h3
 .rename_i cs' _ _ he;cases h3;show vis W g (0+j)=some u;refine nV he ?_ (Rd.one s y2 u (ig hu)).2;simpa using hu
 .cases h3
def lay(cs:Array Value):Obj->Obj
 | .cells _ t frozen=>.cells cs t frozen
 | o=>o
theorem Ph{W':World} (hB:Below W.heap.size W W'){b o:Nat} (hb:b < W.heap.size):W'.frozen? ⟨b,o,none⟩=W.frozen? ⟨b,o,none⟩:=by
 simp only[World.frozen?,hB.block b hb]
theorem Pj{W':World} (hB:Below W.heap.size W W'){p:MemPlace} (hb:p.block < W.heap.size):W.sameAt W' p:=by
 cases p with
 | cell b o=>
   show W'.cell? ⟨b,o,none⟩=W.cell? ⟨b,o,none⟩;simp only[World.cell?];rw[hB.block b hb]
 | map b=>exact hB.block b hb
theorem wK{W':World}{sp:Nat->Bool}:∀{ts:List TypeId}{vs:List Value}{ds:List (DataW H)}{ps:List MemPlace},DataW.TrodAll enc P W 0 sp held ts vs ds ps->(∀p∈ps,W.sameAt W' p) ->
 DataW.TrodAll enc P W' 0 sp held ts vs ds ps
 | [],_,_,_,h,_=>by obtain⟨rfl,rfl,rfl⟩:=trodAll_nil h;rfl
 | _ :: _,_,_,_,h,hs=>by
   obtain⟨v,vs,d,ds,p,q,rfl,rfl,rfl,⟨fuel,h1⟩,h2⟩:=trodAll_cons h;exact⟨p,q,⟨fuel,DataW.trod_carry _ _ _ _ h1 λx hx=>hs x (by simp[hx])⟩,wK h2 λx hx=>hs x (by simp[hx]),rfl⟩
theorem Vd{fn:Func}{s:ChangeSpec}{apart fresh handsOn again:Bool}{W':World}{args:Array Value}{ds gs:List (DataW H)}{before:List MemPlace}
 (hl:laidOutB P=true) (hm:mapsRowed P=true) (hz:∀t e,t < P.types.size->P.underlying t=some (.slice e)->0 < P.cellsOf e) (hts:∀t∈fn.params.toList,t < P.types.size)
 (hres:fn.resultTypes=#[t]) (ht:P.underlying t=some .bool) (hvars:s.vars=[]) (hfn:s.fn H (ds++gs)={ results:=[.lit (.bool true)],args:=ds })
 (hW:DataW.Whole enc P fn.params.toList s.vars apart W args.toList ds gs before) (hB:Below W.heap.size W W'):
 s.post enc P fn apart fresh handsOn again W args (.bool true) W':=by
 have iO:=hW.lt;have hW':=hW;obtain⟨pa,pv,hA,hV,hps,hfz,hnd⟩:=hW;rw[hvars]at hV;obtain⟨rfl,rfl⟩:gs=[]/\pv=[]:=by
  cases gs with
  | nil=>exact⟨rfl,hV⟩
  | cons _ _=>exact hV.elim
 rw[Ql]at hps;subst hps;have same:∀p∈before,W.sameAt W' p:=λp hp=>Pj hB (iO p hp)
 have hargs:∀sp:Nat->Bool,(∀p∈before,sp p.block=true)->DataW.TrodAll enc P W' 0 sp true fn.params.toList args.toList ds before:=λsp hsp=>
  wK (DataW.TrodAll.respare (kids_rows hl hm) hz hts hA hsp) same
 have ahg:∀(b:Nat) (sp:Nat->Bool) (hd:Bool),DataW.TrodAll enc P W' b sp hd fn.resultTypes.toList ((Value.bool true).resultList fn.resultTypes.size) [.lit (.bool true)] []:=by
  intro b sp hd;rw[hres];exact trodAll_cons_mk (shut_bool ht true) (ds:=[]) (p':=[]) (show DataW.TrodAll enc P W' b sp hd [] [] [] [] from rfl)
 have hv:∀sp:Nat->Bool,DataW.TrodVars enc P W' sp s.vars (s.fn H (ds++[])).vars []:=by
  intro sp;rw[hvars,hfn];rfl
 have hold:∀p∈before,(λb=>decide (b < W.heap.size)) p.block=true:=λp hp=>by simpa using iO p hp
 refine⟨ds,[],before,[],before,[],hW',by rw[hfn];exact ahg _ _ _,by rw[hfn];exact hargs _ hold,hv _,hB.frame _,λ_=>?_⟩
 refine⟨ok_one hres rfl (okWide_bool_mk ht true),[.lit (.bool true)]++ds,[],([]++before)++[],⟨[]++before,[],trodAll_append (hargs _ (λ_ _=>rfl)) (ahg _ _ _),by rw[hvars];rfl,rfl,?_,?_⟩,?_⟩
 .intro b off hp;have hp:MemPlace.cell b off∈before:=by simpa using hp
  rw[Ph (b:=b) (o:=off) hB (iO _ hp)];exact hfz b off hp
 .intro ha;have:=hnd ha;simpa using this
 .intro p hp _;simpa using hp
theorem Ve{gd:Nat->Option (Sigma Sh.den)}{f:Nat}{fn:Func}{ct:CT} (met:Met P gd f ct){s:ChangeSpec}{apart fresh handsOn again:Bool}{args:Array Value}{ds gs:List (DataW H)}{before:List MemPlace}{r:Reach}{b0:Nat}
 (hl:laidOutB P=true) (hm:mapsRowed P=true) (hz:∀t e,t < P.types.size->P.underlying t=some (.slice e)->0 < P.cellsOf e) (hts:∀t∈fn.params.toList,t < P.types.size)
 (hres:fn.resultTypes=#[t]) (ht:P.underlying t=some .bool) (hvars:s.vars=[])
 (apq:Vb P ct.ps fn.params.toList=true) (hct:∀d,ct.res d=([],.one (.c (.v (.bool true)))))
 (hfn:∀d:bT ct.ps,Bo ct.ps ds=some d->aiO ct.ps d->s.fn H ds={ results:=[.lit (.bool true)],args:=ds }/\ct.pre d)
 (hval:∀(j:Nat) t v,fn.params[j]?=some t->args[j]?=some v->Value.okWide P W r b0 t v)
 (hW:DataW.Whole enc P fn.params.toList s.vars apart W args.toList ds gs before) (hG:aK gd (FH.all W)):
 Calls P f args W λe W'=>∃v,e=.returned v/\s.post enc P fn apart fresh handsOn again W args v W':=by
 have hA:=hW;obtain⟨pa,pv,hA,hV,_⟩:=hA;rw[hvars]at hV;obtain rfl:gs=[]:=by
  cases gs with
  | nil=>rfl
  | cons _ _=>exact hV.elim
 obtain⟨d,d1,d2,d3⟩:=G6 apq (λj t v e e'=>hval j t v (by simpa using e) (by simpa using e')) hA
 obtain⟨h1,h2⟩:=hfn d d1 d3;have:=met.1 d args.toList (FH.all W) W (λb o v e=>e) hG d2 h2
 rw[show args.toList.toArray=args by simp]at this
 refine this.mono ?_;rintro en W' ⟨h',β,y,rfl,ok,he⟩;rw[hct]at ok he;obtain⟨⟨rfl,_⟩,_⟩:=he;exact⟨_,rfl,Vd hl hm hz hts hres ht hvars (by rw[Ql];exact h1) hW (Bw.bel ok.below)⟩
end
end Go.jl
