/- Part 4 of the proof. Conditions: the rows'. -/
import Derived.Test.YtjhenjhcbcalpaaGreatDoorB3
import Derived.Deep.LoopGhost
set_option linter.unusedSimpArgs false
set_option linter.unusedVariables false
set_option maxRecDepth 1000000
set_option maxHeartbeats 8000000
namespace Go.jf
open Go Go.RowKit
variable {P:Program}{N i n:Nat}{B:Base}{h0 h:FH}{w A:World}{a b:Act}{o:Oper}{K:St->Prop}{s:St}{β β':List RV}{ops:Array Oper}{f:FuncId}{Q:Exit->Act->World->Prop}{T:List (Gd×ay)}{body:Code}{y:Value}{acc:List (Nat×ay)}{cx:Cx}{ct:CT}{cl:List (Nat×CT)}{ml:List (Nat×MK)}
structure LA where
 α:Type
 slots:α->List (Nat×SV)
 res:α->List (Nat×ay)
 inv:α->Prop
 meas:α->Nat
 ren:List (Nat×Nat):=[]
 drop:List Nat:=[]
 nil:List (Nat×TypeId×Sh):=[]
 FP:List Nat:=[]
 pad:Nat:=0
 tY:List Nat:=[]
 deep:List (Nat×TypeId×Sh×Nat):=[]
 rX:List (Nat×Nat×TypeId×Sh):=[]
 can:List (Nat×Loc):=[]
structure RA where
 α:Type
 res:α->List (Nat×ay)
 inv:Nat->α->Prop
 drop:List Nat:=[]
 nil:List (Nat×TypeId×Sh):=[]
 FP:List Nat:=[]
 tY:List Nat:=[]
 deep:List (Nat×TypeId×Sh×Nat):=[]
 rX:List (Nat×Nat×TypeId×Sh):=[]
inductive jv where
 | inv (a:LA)
 | gen (a:LA) (gh:a.α->Nat)
 | Ej (n:Nat)
 | rng (a:RA)
 | cut (a:LA)
inductive RC where
 | keep
 | data (s:Sh)
 | row (t:TypeId) (s:Sh)
 | hd (t:TypeId) (s r:Sh)
 | cel (q:Option (TypeId×Sh×Nat))
variable {rc:List RC}
structure SQ where
 ss:List Sh
 ct:List (bU ss)->CT
structure SF where
 ss:List Sh
 r:Sh
 ct:(bU ss->Prop)->(bU ss->r.den)->CT
structure Env where
 cx:Cx
 n:Nat
 ct:Nat->Option CT
 ann:Nat->Option (St->jv)
 ip:Nat->Option IP:=λ_=>none
 rc:List RC:=[]
 lits:List Nat:=[]
 P:Option Program:=none
 rd:Bool:=false
 hc:Nat->Nat->Option CT:=λ_ _=>none
 XI:Nat->Option MK:=λ_=>none
 sq:Nat->Option SQ:=λ_=>none
 sf:Nat->Option SF:=λ_=>none
variable {E:Env}
abbrev Ll:List SV->List Nat
 | []=>[]
 | v :: r=>match v with
   | .c (.row i)=>i :: Ll r
   | .agg xs=>QL xs (Ll r)
   | _=>Ll r
abbrev XJ(E:Env) (s:St) (G:Gd) (f:Nat) (args:List Operand):List Nat:=match G with
 | _ :: _=>[]
 | []=>match E.ct f with
   | none=>[]
   | some cc=>match qQ E.cx s [] args with
     | none=>[]
     | some vs=>match allL noRow vs with
       | true=>[]
       | false=>match F6 s [] vs with
         | none=>[]
         | some bs=>match xC cc.ps bs with
           | none=>[]
           | some dd=>match dD (IJ (cc.res dd).2) (allL vK (cc.res dd).1) with
             | true=>[]
             | false=>Ll vs
abbrev aiE(E:Env) (s:St) (G:Gd) (ps:List (Nat×Operand)):List Nat:=match G with
 | _ :: _=>[]
 | []=>rowsOf E.cx s ps
abbrev XK(E:Env) (s:St) (p x:Operand):List Nat:=match bM E.cx s [] x with
 | some (.one v)=>match Ll [v]with
   | []=>[]
   | i :: r=>match bM E.cx s [] p with
     | some (.one (.c (.own q _)))=>match eF s.T q with
       | some ([],.obj _ _ _)=>i :: r
       | _=>[]
     | some (.one (.c (.jS _ _ _ _)))=>i :: r
     | _=>[]
 | _=>[]
abbrev Em:List Operand->Option (List Operand×Nat)
 | []=>none
 | x :: l=>match l with
   | []=>match x with
     | .func g=>some ([],g)
     | _=>none
   | _ :: _=>match Em l with
     | some (m,g)=>some (x :: m,g)
     | none=>none
theorem En{a:Act}:∀{l xs:List Operand}{g:Nat},Em l=some (xs,g)->l.map a.eval=xs.map a.eval++[.func (.func g) #[] #[]]
 | [],_,_,h=>by simp[Em]at h
 | [x],xs,g,h=>by
   simp only[Em]at h;split at h
   .cases h;rfl
   .cases h
 | x :: y :: l,xs,g,h=>by
   simp only[Em]at h;split at h
   .rename_i m g' hm;cases h;have:=En (a:=a) (l:=y :: l) hm;simp only[TT]at this ⊢;rw[this];rfl
   .cases h
abbrev Eo:List Operand->Option (List Operand×Operand)
 | []=>none
 | x :: l=>match l with
   | []=>some ([],x)
   | _ :: _=>match Eo l with
     | some (m,g)=>some (x :: m,g)
     | none=>none
theorem Ep{a:Act}:∀{l xs:List Operand}{g:Operand},Eo l=some (xs,g)->l.map a.eval=xs.map a.eval++[a.eval g]
 | [],_,_,h=>by simp[Eo]at h
 | [x],xs,g,h=>by
   simp only[Eo]at h;cases h;rfl
 | x :: y :: l,xs,g,h=>by
   simp only[Eo]at h;split at h
   .rename_i m g' hm;cases h;have:=Ep (a:=a) (l:=y :: l) hm;simp only[TT]at this ⊢;rw[this];rfl
   .cases h
abbrev XL(ss ss':List Sh) (L:List (bU ss)):Option (List (bU ss')):=if h:ss=ss' then some (h▸L) else none
theorem XM{ss ss':List Sh}{L:List (bU ss)}{M:List (bU ss')} (h:XL ss ss' L=some M):∃e:ss=ss',e▸L=M:=by
 unfold XL at h;split at h
 .rename_i e;cases h;exact⟨e,rfl⟩
 .cases h
abbrev hcL(E:Env) (f:Nat) (args:List Operand):Option (CT×List Operand):=match Em args with
 | some (xs,g)=>match E.hc f g with
   | some ct=>some (ct,xs)
   | none=>none
 | none=>none
abbrev Jc(E:Env) (ops:List Oper) (o:Oper) (s:St) (K:St->Prop):Prop:=match kY E.n o.dst with
 | false=>False
 | true=>uD E.lits s ops o.guard λG s=>match o.op with
   | .alloc t=>IB E.cx s G o.dst t K
   | .box t x=>acQ E.cx s G o.dst t x K
   | .buildSlice t n ps=>mM E.cx (nD s (aiE E s G (tl ps))) G o.dst t n (tl ps) K
   | .makeSlice t l c=>QE E.cx s G o.dst t l c K
   | .store t p x=>match G with
     | []=>match ac3 E.cx s o.dst t p x K with
       | some q=>q
       | none=>IC E.cx (nD s (XK E s p x)) o.dst t p x K
     | _ :: _=>False
   | .call c=>match c.callee with
     | .value (.func f)=>match hcL E f (tl c.args) with
       | some (ct,xs)=>ji E.cx (λ_=>some ct) s G o.dst f xs K
       | none=>ji E.cx E.ct (nD s (XJ E s G f (tl c.args))) G o.dst f (tl c.args) K
     | .builtin .append=>match G with
       | []=>match tl c.args with
         | [x,y]=>match tl c.argTypes with
           | [t,t']=>match Nat.beq t t' with
             | true=>match QV s x λs=>vH E.cx s o.dst t x y K with
               | some q=>q
               | none=>vH E.cx s o.dst t x y K
             | false=>False
           | _=>False
         | _=>False
       | _ :: _=>False
     | .builtin .copy=>match G with
       | []=>match tl c.args with
         | [x,y]=>match tl c.argTypes with
           | [t,_]=>QW E.cx s o.dst t x y K
           | _=>False
         | _=>False
       | _ :: _=>False
     | .builtin .min=>match G with
       | []=>match tl c.args with
         | [x,y]=>ac6 E.cx s o.dst x y K
         | _=>False
       | _ :: _=>False
     | .builtin .max=>match G with
       | []=>match tl c.args with
         | [x,y]=>Oz E.cx s o.dst x y K
         | _=>False
       | _ :: _=>False
     | _=>nH E.cx s G o λe=>K (s.put o.dst G e)
   | _=>nH E.cx s G o λe=>K (s.put o.dst G e)
abbrev iZ(E:Env) (ops:List Oper) (o:Oper) (s:St) (K:St->Prop):Prop:=match apP E.cx s o K with
 | some p=>match kY E.n o.dst with
   | false=>False
   | true=>p
 | none=>Jc E ops o s K
structure gI (P:Program) (E:Env):Prop where
 prog:∀P',E.P=some P'->P'=P
 hc:∀f g c,E.hc f g=some c->CTX P E.cx.gd f [.func (.func g) #[] #[]] c/\FW P f
 XI:∀g m,E.XI g=some m->∀d h lb,m.pre d->aI E.cx.gd h->capD h m.ss d lb->(m.f d).rel h (.func (.func g) #[] lb.toArray)
 mixed:P.follows .mixedOrders=true
 ti:bT P E.cx.ti
 ct:∀f c,E.ct f=some c->II P E.cx.gd f c/\∃fn,P.funcs[f]?=some fn/\fn.body.isSome=true/\(fn.name == "runtime.NumGoroutine")=false
 ip:∀f c,E.ip f=some c->UF P E.cx.gd f c/\∃fn,P.funcs[f]?=some fn/\fn.body.isSome=true/\(fn.name == "runtime.NumGoroutine")=false
 sq:∀f q,E.sq f=some q->(∀L,CTS P E.cx.gd f [.c (.abs (.seq P q.ss L))] (q.ct L))/\FW P f
 sf:∀f q,E.sf f=some q->(∀pre g,CTS P E.cx.gd f [.c (.abs (.clo P q.ss q.r pre g))] (q.ct pre g))/\FW P f
theorem fV.cast{b b':Bool} (e:b=b') (h':fV P N B h0 h w a o b' K):fV P N B h0 h w a o b K:=by rw[e];exact h'
theorem adh(s:St) (i:Nat):(KU s i).gl=s.gl:=by
 unfold KU;split<;>rfl
theorem qU:∀{l:List Nat}{s:St},(nD s l).gl=s.gl
 | [],_=>rfl
 | i :: l,s=>by
   show(nD (KU s i) l).gl=s.gl;rw[qU,adh]
theorem fV.le{P:Program}{N:Nat}{B:Base}{h0 h h':FH}{w:World}{a:Act}{o:Oper}{b:Bool}{K:St->Prop} (le:h.le h') (k:fV P N B h0 h' w a o b K):fV P N B h0 h w a o b K:=
 λNx Q next=>k Nx Q λs' h2 β' w' v k' le' q aj=>next s' h2 β' w' v k' (le.trans le') q aj
theorem U4(ok:gI P E) (aj:Sat E.n B h0 s h β w a) (hg:aI E.cx.gd h)
 (k:Jc E (tl ops) o s K):fV P E.n B h0 h w a o (Region.wanted o (yielded ops a.tmps)) K:=by
 unfold Jc at k;split at k
 .cases k
 rename_i hd;obtain⟨G,s',k,aW,hw,hG⟩:=vG aj k;refine fV.cast hw ?_;split at k
 .rename_i t ho;exact Ol ok.ti aW hG hd ho k
 .rename_i t x ho;exact WQ ok.ti aW hg hG hd ho k
 .rename_i t n ps ho;obtain⟨h',le,bJ⟩:=aW.FP (l:=aiE E s' G (tl ps));have:=tu ok.ti bJ (hg.mono le) (by rw[qU];exact hG) hd ho k
  rw[qU]at this;exact fV.le le this
 .rename_i t l c ho;exact UD ok.ti aW hg hG hd ho k
 .rename_i t p x ho;split at k
  .split at k
   .rename_i q hq;exact Xn ok.ti aW hg hd ho hq k
   .obtain⟨h',le,bJ⟩:=aW.FP (l:=XK E s' p x);have:=Om ok.ti bJ (hg.mono le) hd ho k;rw[qU]at this;exact fV.le le this
  .cases k
 .rename_i c ho;split at k
  .rename_i f bQ;split at k
   .rename_i ct xs hl;unfold hcL at hl;split at hl
    .rename_i xs' g hlf;split at hl
     .rename_i ct' hct;cases hl;obtain⟨hc,hf⟩:=ok.hc f g ct hct;have k':ji E.cx (λf'=>if f'=f then some ct else none) s' G o.dst f xs K:=by
       unfold ji at k ⊢;simpa using k
      exact rV (suf:=[.func (.func g) #[] #[]]) (λf' c' e=>by
       split at e
       .rename_i hff;cases e;rw[hff];exact hc
       .cases e) aW hg hG hd ho bQ (λ_=>rfl) (by
       have:=En (a:=a) hlf;rw[<-this];cases c.args;simp) hf k'
     .cases hl
    .cases hl
   .obtain⟨h',le,bJ⟩:=aW.FP (l:=XJ E s' G f (tl c.args));refine fV.le le ?_;rw[<-qU (l:=XJ E s' G f (tl c.args)) (s:=s')]at hG ⊢;generalize nD s' (XJ E s' G f (tl c.args))=s' at k bJ hG ⊢;unfold ji at k;cases hct:E.ct f with
    | none=>rw[hct]at k;cases k
    | some cc=>exact UE (λf c e=>(ok.ct f c e).1) bJ (hg.mono le) hG hd ho bQ (ok.ct f cc hct).2 k
  .rename_i bQ;split at k
   .split at k
    .rename_i x y ha;split at k
     .rename_i t t' ht;split at k
      .rename_i htt;have htt:t=t':=iC htt;subst htt;split at k
       .rename_i q hq;obtain⟨s2,β2,k2,bJ,egl⟩:=ac4 aW hq k;have:=Bh ok.ti bJ hg hd ho bQ (iH ha) (iH ht) k2;rw[egl]at this;exact this
       .exact Bh ok.ti aW hg hd ho bQ (iH ha) (iH ht) k
      .cases k
     .cases k
    .cases k
   .cases k
  .rename_i bQ;split at k
   .split at k
    .rename_i x y ha;split at k
     .rename_i t t' ht;exact UQ ok.ti aW hg hd ho bQ (iH ha) (iH ht) k
     .cases k
    .cases k
   .cases k
  .rename_i bQ;split at k
   .split at k
    .rename_i x y ha;exact Xq aW hg hd ho bQ (iH ha) k
    .cases k
   .cases k
  .rename_i bQ;split at k
   .split at k
    .rename_i x y ha;exact UO aW hg hd ho bQ (iH ha) k
    .cases k
   .cases k
  .exact Gy ok.ti aW hg hG hd k
 .exact Gy ok.ti aW hg hG hd k
theorem qV(ok:gI P E) (aj:Sat E.n B h0 s h β w a) (hg:aI E.cx.gd h)
 (k:iZ E (tl ops) o s K):fV P E.n B h0 h w a o (Region.wanted o (yielded ops a.tmps)) K:=by
 unfold iZ at k;split at k
 .rename_i p hp;split at k
  .cases k
  .rename_i hd;exact Xv ok.ti aj hg hd hp k
 .exact U4 ok aj hg k
abbrev XN(E:Env) (ops:List Oper):List Oper->St->(St->Prop)->Prop
 | [],s,K=>K s
 | o :: r,s,K=>iZ E ops o s λs=>XN E ops r s K
abbrev iW(k:Nat):List Nat->Bool
 | []=>false
 | j :: l=>match Nat.beq k j with
   | true=>true
   | false=>iW k l
theorem jq{k j:Nat}{l:List Nat}:iW k (j :: l)=(Nat.beq k j || iW k l):=by
 simp only[iW];cases Nat.beq k j<;>rfl
theorem lD{k:Nat}{m:List Nat}:∀{l:List Nat},iW k (fA l m)=(iW k l || iW k m)
 | []=>rfl
 | j :: l=>by rw[show fA (j :: l) m=j :: fA l m from rfl,jq,jq,lD,Bool.or_assoc]
abbrev jK:List Oper->List Nat
 | []=>[]
 | o :: l=>match o.dst with
   | some d=>d :: jK l
   | none=>jK l
def Same(ws:List Nat) (a a':Act):Prop:=∀t,iW t ws=false->a'.tmps[t]?=a.tmps[t]?
theorem Same.refl(ws:List Nat) (a:Act):Same ws a a:=λ_ _=>rfl
theorem Same.trans{ws:List Nat}{a b c:Act} (x:Same ws a b) (y:Same ws b c):Same ws a c:=λt h=>(y t h).trans (x t h)
theorem Same.left{l m:List Nat} (x:Same l a b):Same (fA l m) a b:=λt h=>x t (by rw[lD,l7]at h;exact h.1)
theorem Same.right{l m:List Nat} (x:Same m a b):Same (fA l m) a b:=λt h=>x t (by rw[lD,l7]at h;exact h.2)
theorem Same.put{o:Oper}{l:List Oper}{a:Act}{v:Value}{b:Act} (x:Same (jK l) (a.put o.dst v) b):Same (jK (o :: l)) a b:=by
 intro t h;cases hd:o.dst with
 | none=>
   have e:jK (o :: l)=jK l:=by simp only[jK,hd]
   rw[e]at h;rw[x t h,hd];rfl
 | some d=>
   have e:jK (o :: l)=d :: jK l:=by simp only[jK,hd]
   rw[e,jq,l7]at h;rw[x t h.2,hd];have hne:d≠t:=λhh=>VY h.1 hh.symm
   simp[Act.put,ahM hne]
abbrev aiF(E:Env) (s:St) (o:Oper):Option IP:=match o.guard with
 | some _=>none
 | none=>match o.op with
   | .call c=>match c.callee with
     | .value (.func f)=>match E.ip f with
       | none=>none
       | some ip=>match tl c.args with
         | []=>none
         | x :: _=>match bM E.cx s [] x with
           | some (.one (.c (.row _)))=>some ip
           | _=>none
     | _=>none
   | _=>none
abbrev XO(E:Env) (s:St) (o:Oper):Option IP:=match o.guard with
 | some _=>none
 | none=>match o.op with
   | .call c=>match c.callee with
     | .value (.func f)=>match E.ip f with
       | none=>none
       | some ip=>match tl c.args with
         | []=>none
         | x :: _=>match bM E.cx s [] x with
           | some (.one (.c (.sub _ _)))=>some ip
           | _=>none
     | _=>none
   | _=>none
abbrev kP:Op->List Operand
 | .call c=>tl c.args
 | _=>[]
abbrev aiG:Value->Option Nat
 | .func (.func f) a b=>match tl a with
   | []=>match tl b with
     | []=>some f
     | _ :: _=>none
   | _ :: _=>none
 | _=>none
abbrev BN(sh:Sh):ay->Option SV
 | .obj _ s d=>match dD sh.isAgg s.isAgg with
   | true=>some (.dat s d)
   | false=>none
 | .blk _ xs=>match sh.isAgg with
   | true=>some (.agg xs)
   | false=>match xs with
     | [x]=>some (.c x)
     | _=>none
 | _=>none
abbrev OW(s:St):(ss:List Sh)->List Operand->Option (St×bU ss)
 | [],[]=>some (s,())
 | sh :: ss,x :: l=>match x with
   | .tmp t=>match iF s.env t with
     | some ([],.one (.c (.own i 0)))=>match eF s.T i with
       | some ([],r)=>match BN sh r with
         | some v=>match toDat sh v with
           | some d=>match OW { s with T:=cZ s.T i ([],.gone) } ss l with
             | some (s',ds)=>some (s',(d,ds))
             | none=>none
           | none=>none
         | none=>none
       | _=>none
     | _=>none
   | _=>none
 | _,_=>none
inductive HO where
 | hc (c:CT) (xs:List Operand)
 | cc (f:Nat) (xs:List Operand)
 | mk (g:Nat) (cap:List Operand)
 | sq (P:Program) (c:CT) (xs:List Operand)
 | sf (P:Program) (ss:List Sh) (r:Sh) (pre:bU ss->Prop) (g:bU ss->r.den) (q:SF) (xs:List Operand)
abbrev am2(E:Env) (s:St) (f:Nat) (args:List Operand):Option HO:=match E.sf f with
 | none=>none
 | some q=>match Eo args with
   | none=>none
   | some (xs,x)=>match bM E.cx s [] x with
     | some (.one (.c (.abs (.clo P ss r pre g))))=>some (.sf P ss r pre g q xs)
     | _=>none
abbrev am3(E:Env) (s:St) (f:Nat) (args:List Operand):Option HO:=match E.sq f with
 | none=>am2 E s f args
 | some q=>match Eo args with
   | none=>none
   | some (xs,x)=>match bM E.cx s [] x with
     | some (.one (.c (.abs (.seq P ss L))))=>match XL ss q.ss L with
       | some L=>some (.sq P (q.ct L) xs)
       | none=>none
     | _=>none
abbrev aiH(E:Env) (s:St) (o:Oper):Option HO:=match o.guard with
 | some _=>none
 | none=>match o.op with
   | .call c=>match c.callee with
     | .value (.func f)=>match Em (tl c.args) with
       | some (xs,g)=>match E.hc f g with
         | some ct=>some (.hc ct xs)
         | none=>none
       | none=>am3 E s f (tl c.args)
     | .value (.tmp t)=>match iF s.env t with
       | some ([],.one (.c (.v v)))=>match aiG v with
         | some f=>some (.cc f (tl c.args))
         | none=>none
       | some ([],.one (.c (.abs (.clo P ss r pre g))))=>some (.sq P { ps:=ss,pre:=pre,res:=λd=>([],.one (iG r (g d))) } (tl c.args))
       | _=>none
     | _=>none
   | .makeFunc (.func g) fst cap=>match tl fst with
     | []=>some (.mk g (tl cap))
     | _ :: _=>none
   | _=>none
abbrev hoK(E:Env) (s:St) (d:Option Nat) (x:HO) (K:St->Prop):Prop:=match x with
 | .hc c xs=>ji E.cx (λ_=>some c) s [] d 0 xs K
 | .cc f xs=>ji E.cx E.ct s [] d f xs K
 | .sq P c xs=>E.P=some P/\ji E.cx (λ_=>some c) s [] d 0 xs K
 | .sf P ss r pre g q xs=>E.P=some P/\∃pre' g',FN.clo P ss r pre g=FN.clo P q.ss q.r pre' g'/\ji E.cx (λ_=>some (q.ct pre' g')) s [] d 0 xs K
 | .mk g cap=>match E.XI g with
   | none=>False
   | some m=>match OW s m.ss cap with
     | none=>False
     | some (s',ds)=>m.pre ds/\K (s'.put d [] (.one (.c (.abs (m.f ds)))))
abbrev apt(E:Env) (s:St) (args:List Operand) (n:Nat):Bool:=match qQ E.cx s [] args with
 | some vs=>match vs with
   | .agg xs :: _=>match eF xs n with
     | some (.row _)=>true
     | _=>false
   | _=>false
 | none=>false
abbrev aiI(E:Env) (s:St) (o:Oper):Option (CT×Nat):=match o.guard with
 | some _=>none
 | none=>match o.op with
   | .call c=>match c.callee with
     | .value (.func f)=>match E.ct f with
       | none=>none
       | some ct=>match ct.ps with
         | sh :: _=>match aiu sh 0 with
           | some n=>match apt E s (tl c.args) n with
             | true=>some (ct,n)
             | false=>none
           | none=>none
         | []=>none
     | _=>none
   | _=>none
abbrev Lm(E:Env) (ops:List Oper) (o:Oper) (s:St) (K:St->Prop):Prop:=match aiI E s o with
 | some p=>match kY E.n o.dst with
   | false=>False
   | true=>ptK E.cx p.1 p.2 s o.dst (kP o.op) K
 | none=>match rtP E.cx s o K with
 | some p=>match kY E.n o.dst with
   | false=>False
   | true=>p
 | none=>match aiB E.cx s o K with
 | some p=>match kY E.n o.dst with
   | false=>False
   | true=>p
 | none=>match aiH E s o with
 | some x=>match kY E.n o.dst with
   | false=>False
   | true=>hoK E s o.dst x K
 | none=>match XO E s o with
 | some ip=>match kY E.n o.dst with
   | false=>False
   | true=>aiq E.cx ip s o.dst (kP o.op) K
 | none=>match aiF E s o with
 | none=>match aiz E.cx s o K with
   | none=>iZ E ops o s K
   | some p=>match kY E.n o.dst with
     | false=>False
     | true=>p
 | some ip=>match kY E.n o.dst with
   | false=>False
   | true=>ipK E.cx ip s o.dst (kP o.op) K
abbrev adi(E:Env) (ops:List Oper):List Oper->St->(St->Prop)->Prop
 | [],s,K=>K s
 | o :: r,s,K=>Lm E ops o s λs=>adi E ops r s K
theorem U5{ip:IP} (e:aiF E s o=some ip):o.guard=none/\∃c f,o.op=.call c/\c.callee=.value (.func f)/\E.ip f=some ip:=by
 unfold aiF at e;split at e
 .cases e
 .rename_i hgd;split at e
  .rename_i c ho;split at e
   .rename_i f bQ;split at e
    .cases e
    .rename_i ip' QK;split at e
     .cases e
     .split at e
      .cases e;exact⟨hgd,c,f,ho,bQ,QK⟩
      .cases e
   .cases e
  .cases e
theorem OX{ip:IP} (e:XO E s o=some ip):o.guard=none/\∃c f,o.op=.call c/\c.callee=.value (.func f)/\E.ip f=some ip:=by
 unfold XO at e;split at e
 .cases e
 .rename_i hgd;split at e
  .rename_i c ho;split at e
   .rename_i f bQ;split at e
    .cases e
    .rename_i ip' QK;split at e
     .cases e
     .split at e
      .cases e;exact⟨hgd,c,f,ho,bQ,QK⟩
      .cases e
   .cases e
  .cases e
theorem adk{v:Value}{f:Nat} (h:aiG v=some f):v=.func (.func f) #[] #[]:=by
 unfold aiG at h;split at h
 .rename_i f' x y;split at h
  .rename_i hx;split at h
   .rename_i hy;cases h;rw[iH hx,iH hy]
   .cases h
  .cases h
 .cases h
theorem aiJ{s:Sh} (h:s.isAgg=false):s.size=1:=by cases s<;>simp_all[Sh.isAgg,Sh.size]
theorem Q9{N:Nat}{B:Base}{h0:FH}{w:World}{a:Act}{β:List RV}:∀{ss:List Sh}{l:List Operand}{s s':St}{h:FH}{ds:bU ss},Sat N B h0 s h β w a->OW s ss l=some (s',ds) ->
 ∃h',h.le h'/\Sat N B h0 s' h' β w a/\capD h' ss ds (l.map a.eval)
 | [],[],s,s',h,ds,aj,e=>by simp[OW]at e;subst e;exact⟨h,FH.le.refl h,aj,trivial⟩
 | [],_ :: _,s,s',h,ds,aj,e=>by simp[OW]at e
 | _ :: _,[],s,s',h,ds,aj,e=>by simp[OW]at e
 | sh :: ss,x :: l,s,s',h,ds,aj,e=>by
   unfold OW at e;split at e
   .rename_i t;split at e
    .rename_i i hlk;split at e
     .rename_i r hT;split at e
      .rename_i v hv;split at e
       .rename_i d hd;split at e
        .rename_i s2 ds2 hc;cases e;obtain⟨z,z1,z2,_⟩:=aj.env t [] _ hlk;obtain⟨b,hb,ez⟩:∃b,β[i]?=some (.blk b)/\z=.pointer (some ⟨b,0,none⟩):=(z2 rfl:dh h β (.c (.own i 0)) z).1;have fQ:=bG hT (show gv s.gl []=true from rfl)
         have hold:=aj.ok.holds i r _ fQ hb;have hlive:r.live=true:=by cases r<;>first | rfl | (simp[BN]at hv)
         obtain⟨le1,ok1⟩:=aj.ok.Ul fQ hlive hb (kZ.2 rfl);have jl:Sat N B h0 { s with T:=cZ s.T i ([],.gone) } (h.plus w b) β w a:=aj.mem (by rw[fP];exact ok1) le1 (Ext.refl _) (by
          intro q hq;rw[eY]at hq;rcases Ic hq with hq | hq
          .exact aj.gT q hq
          .subst hq;rfl)
         obtain⟨h',iD,bJ,cap⟩:=Q9 (l:=l) jl hc;refine⟨h',le1.trans iD,bJ,⟨?_,cap⟩⟩;have ev:a.eval (.tmp t)=z:=by simp[Act.eval,z1]
         rw[ev,ez];have at_:∀(ys:List Value) (tt:TypeId),w.heap[b]?=some (.cells ys.toArray tt (0,0))->(∀u∈ys,dF u)->At h' b 0 ys:=by
          intro ys tt hw h1 j u hj;refine iD _ _ _ ?_;unfold FH.plus;rw[if_pos rfl,Dk];exact nY hw (by simpa using hj) (h1 u (iy hj)).2
         have key:∀(ys:List Value) (tt:TypeId),w.heap[b]?=some (.cells ys.toArray tt (0,0))->(sh.isAgg=true->dh h β v (.agg ys.toArray))->(sh.isAgg=false->∃y,ys=[y]/\dh h β v y) ->
          ∃b' cs,(Value.pointer (some ⟨b,0,none⟩))=.pointer (some ⟨b',0,none⟩)/\Rd h' sh cs d/\At h' b' 0 cs:=by
          intro ys tt hw k1 k2;cases hag:sh.isAgg with
          | true=>
            obtain⟨cs,e1,rd⟩:=toDat_ok hd (k1 hag);unfold mkV at e1;rw[if_pos hag]at e1;injection e1 with e1
            have e1:ys=cs:=by simpa using e1
            subst e1;exact⟨b,ys,rfl,(rd.mono le1 _).mono iD _,at_ ys tt hw (Rd.one _ rd)⟩
          | false=>
            obtain⟨y,rfl,c⟩:=k2 hag;obtain⟨cs,e1,rd⟩:=toDat_ok hd c;unfold mkV at e1;rw[if_neg (by rw[hag];simp)]at e1
            have hs:=Rd.size sh rd;rw[aiJ hag]at hs;obtain⟨u,rfl⟩:=List.length_eq_one_iff.1 hs;have e1:y=u:=e1;subst e1;exact⟨b,[y],rfl,(rd.mono le1 _).mono iD _,at_ [y] tt hw (Rd.one _ rd)⟩
         cases r with
         | obj tt s0 d0=>
           simp only[BN]at hv;split at hv
           .rename_i hag;rw[aB,bY]at hag;cases hv;obtain⟨ys,e1,rd⟩:=hold;exact key ys tt e1 (λ_=>⟨hag.2,ys,rfl,rd⟩) (λhh=>by rw[hag.1]at hh;cases hh)
           .cases hv
         | blk tt cs=>
           obtain⟨ys,e1,al⟩:=hold;simp only[BN]at hv;split at hv
           .rename_i hag;cases hv;exact key ys tt e1 (λ_=>⟨ys,rfl,al⟩) (λhh=>by rw[hag]at hh;cases hh)
           .rename_i hag;split at hv
            .rename_i x;cases hv;cases ys with
             | nil=>exact al.elim
             | cons y ys=>
               cases ys with
               | cons _ _=>exact al.2.elim
               | nil=>exact key [y] tt e1 (λhh=>by rw[hag]at hh;cases hh) (λ_=>⟨y,rfl,al.1⟩)
            .cases hv
         | row _ _ _=>simp[BN]at hv
         | deep _ _ _ _ _ _ _ _=>simp[BN]at hv
         | mp _ _ _=>simp[BN]at hv
         | NI _ _ _ _=>simp[BN]at hv
         | it _ _ _ _=>simp[BN]at hv
         | Kv _ _ _ _=>simp[BN]at hv
         | Gp _ _ _ _=>simp[BN]at hv
         | gone=>simp[BN]at hv
        .cases e
       .cases e
      .cases e
     .cases e
    .cases e
   .cases e
theorem aiK(ok:gI P E) (aj:Sat E.n B h0 s h β w a) (hg:aI E.cx.gd h){x:HO} (hx:aiH E s o=some x) (hd:kY E.n o.dst=true)
 (k:hoK E s o.dst x K):fV P E.n B h0 h w a o (Region.wanted o (yielded ops a.tmps)) K:=by
 unfold aiH at hx;split at hx
 .cases hx
 rename_i hgd;rw[show Region.wanted o (yielded ops a.tmps)=gv s.gl [] by simp[Region.wanted,hgd,gv]]
 split at hx
 .rename_i c ho;split at hx
  .rename_i f bQ;split at hx
   .rename_i xs g hl;split at hx
    .rename_i ct hct;cases hx;obtain⟨hc,hf⟩:=ok.hc f g ct hct;simp only[hoK]at k;have k':ji E.cx (λf'=>if f'=f then some ct else none) s [] o.dst f xs K:=by
      unfold ji at k ⊢;simpa using k
     exact rV (suf:=[.func (.func g) #[] #[]]) (λf' c' e=>by
      split at e
      .rename_i hff;cases e;rw[hff];exact hc
      .cases e) aj hg rfl hd ho bQ (λ_=>rfl) (by
      have:=En (a:=a) hl;rw[<-this];cases c.args;simp) hf k'
    .cases hx
   .unfold am3 at hx;split at hx
    .unfold am2 at hx;split at hx
     .cases hx
     rename_i q hq;split at hx
     .cases hx
     rename_i xs x hl;split at hx
     .rename_i P' ss r pre g hxe;cases hx;simp only[hoK]at k;obtain⟨eP,pre',g',eA,k⟩:=k;have:=ok.prog _ eP;subst this;obtain⟨hc,hf⟩:=ok.sf f q hq;have k':ji E.cx (λf'=>if f'=f then some (q.ct pre' g') else none) s [] o.dst f xs K:=by
       unfold ji at k ⊢;simpa using k
      rw[eA]at hxe;have Gz:dh h β (.c (.abs (.clo P' q.ss q.r pre' g'))) (a.eval x):=aP aj hg (show gv s.gl []=true from rfl) hxe
      exact xE (suf:=[a.eval x]) (λc' e d vs h' le hw hg' ha hp=>by
       have e':q.ct pre' g'=c':=by simpa using e
       subst e';exact hc pre' g' d vs [a.eval x] h' w hw hg' ha ⟨⟨(show FN.rel h' (.clo P' q.ss q.r pre' g') (a.eval x) from FN.yx le (show FN.rel h (.clo P' q.ss q.r pre' g') (a.eval x) from Gz.1)),Gz.2⟩,trivial⟩ hp) aj hg rfl hd ho bQ (λ_=>rfl) (by
       have:=Ep (a:=a) hl;rw[<-this];cases c.args;simp) hf k'
     .cases hx
    rename_i q hq;split at hx
    .cases hx
    rename_i xs x hl;split at hx
    .rename_i P' ss L hxe;split at hx
     .rename_i L' hL;cases hx;obtain⟨e1,e2⟩:=XM hL;simp only[hoK]at k;obtain⟨eP,k⟩:=k;have:=ok.prog _ eP;subst this;subst e1;simp only at e2;subst e2;obtain⟨hc,hf⟩:=ok.sq f q hq;have k':ji E.cx (λf'=>if f'=f then some (q.ct L) else none) s [] o.dst f xs K:=by
       unfold ji at k ⊢;simpa using k
      have Gz:dh h β (.c (.abs (.seq P' q.ss L))) (a.eval x):=aP aj hg (show gv s.gl []=true from rfl) hxe
      exact xE (suf:=[a.eval x]) (λc' e d vs h' le hw hg' ha hp=>by
       have e':q.ct L=c':=by simpa using e
       subst e';exact hc L d vs [a.eval x] h' w hw hg' ha ⟨⟨(show FN.rel h' (.seq P' q.ss L) (a.eval x) from FN.yx le (show FN.rel h (.seq P' q.ss L) (a.eval x) from Gz.1)),Gz.2⟩,trivial⟩ hp) aj hg rfl hd ho bQ (λ_=>rfl) (by
       have:=Ep (a:=a) hl;rw[<-this];cases c.args;simp) hf k'
     .cases hx
    .cases hx
  .rename_i t bQ;split at hx
   .rename_i v hlk;split at hx
    .rename_i f hfn;cases hx;simp only[hoK]at k;obtain⟨z,z1,z2,_⟩:=aj.env t [] _ hlk;have ez:z=.func (.func f) #[] #[]:=((z2 rfl:dh h β (.c (.v v)) z).1.1).trans (adk hfn);have hct:∃cc,E.ct f=some cc:=by
      unfold ji at k;cases hh:E.ct f with
      | none=>rw[hh]at k;cases k
      | some cc=>exact⟨cc,rfl⟩
     obtain⟨cc,hct⟩:=hct;exact rV (suf:=[]) (λf' c' e=>(ok.ct f' c' e).1.x) aj hg rfl hd ho bQ (λ_=>by simp[Act.eval,z1,ez]) (by cases c.args;simp) (ok.ct f cc hct).2 k
    .cases hx
   .rename_i P' ss r pre g hlk;cases hx;simp only[hoK]at k;obtain⟨eP,k⟩:=k;have:=ok.prog _ eP;subst this;obtain⟨z,z1,z2,_⟩:=aj.env t [] _ hlk;obtain⟨gn,lb,ez,hf,kk⟩:Wp P' h ss r pre g z:=(z2 rfl:dh h β (.c (.abs (.clo P' ss r pre g))) z).1;have k':ji E.cx (λf'=>if f'=gn then some { ps:=ss,pre:=pre,res:=λd=>([],.one (iG r (g d))) } else none) s [] o.dst gn (tl c.args) K:=by
     unfold ji at k ⊢;simpa using k
    exact D5 (lb:=lb) (suf:=lb.toList) (λc' e d vs h' le hw hg' ha hp=>by
     have e':({ ps:=ss,pre:=pre,res:=λd=>([],.one (iG r (g d))) }:CT)=c':=by simpa using e
     subst e';rw[show(vs++lb.toList).toArray=vs.toArray++lb by simp]
     refine(kk d vs h' w le hw (DZ ha) hp).mono ?_;rintro en w' ⟨v,rfl,⟨cs,rfl,rd⟩,bel,dr⟩;refine⟨h',[],_,rfl,⟨⟨bel.os,bel.tape,bel.output,bel.size,λk hk ha=>bel.block k hk⟩,dr,rfl,λi r v e _=>by simp at e,λi r v b e _ _ _=>by simp at e,λi j r r' u v b e _ _ _ _ _ _ _=>by simp at e,FH.le.refl h',λb o v hh=>(jR (bel.block b (oz (hw b o v hh)))).trans (hw b o v hh),λb o v hh=>.inl hh,λk o hh=>hh.elim⟩,jh r (rd.mono (λ_ _ _ e=>by cases e) r)⟩) aj hg rfl hd ho bQ (λ_=>by simp[Act.eval,z1,ez]) (by cases c.args;simp) hf k'
   .cases hx
  .cases hx
 .rename_i g fst cap ho;split at hx
  .rename_i apu;cases hx;simp only[hoK]at k;split at k
   .cases k
   rename_i m hm;split at k
   .cases k
   rename_i s' ds hcap;obtain⟨h',le,aW,jJ⟩:=Q9 aj hcap;obtain⟨hmp,k⟩:=k;have rel:=ok.XI g m hm ds h' _ hmp (hg.mono le) jJ;intro Nx Q next
   rw[if_pos rfl];refine kF (v:=.func (.func g) #[] ((tl cap).map a.eval).toArray) ?_ (next _ _ _ _ _ k le (λ_=>mD.refl w) (aW.put (dR hd) rfl (λ_=>⟨rel,FN.acG rel⟩) λhh=>by cases hh))
   simp only[execOp,ho,Instr.makeFunc,Sem.run_bind,Sem.run_pure,Result.andThen_ok];rw[iH apu];have:cap.map a.eval=((tl cap).map a.eval).toArray:=by cases cap;simp
   rw[this];simp
  .cases hx
 .cases hx
theorem U6{p:CT×Nat} (e:aiI E s o=some p):o.guard=none/\∃c f,o.op=.call c/\c.callee=.value (.func f)/\E.ct f=some p.1:=by
 unfold aiI at e;split at e
 .cases e
 .rename_i hgd;split at e
  .rename_i c ho;split at e
   .rename_i f bQ;split at e
    .cases e
    .rename_i ct hct;split at e
     .split at e
      .split at e
       .cases e;exact⟨hgd,c,f,ho,bQ,hct⟩
       .cases e
      .cases e
     .cases e
   .cases e
  .cases e
theorem Es(ok:gI P E) (aj:Sat E.n B h0 s h β w a) (hg:aI E.cx.gd h)
 (k:Lm E (tl ops) o s K):Bj P E.n B h0 h w a o (Region.wanted o (yielded ops a.tmps)) K:=by
 unfold Lm at k;split at k
 .rename_i p hp;obtain⟨hgd,c,f,ho,bQ,hf⟩:=U6 hp;split at k
  .cases k
  .rename_i hd;rw[show Region.wanted o (yielded ops a.tmps)=true by simp[Region.wanted,hgd]]
   rw[show kP o.op=tl c.args by simp only[kP,ho]]at k
   exact(ac8 (ok.ct f _ hf).1 aj hg hd ho bQ (ok.ct f _ hf).2 k).weak
 split at k
 .rename_i p hp;split at k
  .cases k
  .rename_i hd;exact(XA ok.ti aj hg hd hp k).weak
 split at k
 .rename_i p hp;split at k
  .cases k
  .rename_i hd;obtain⟨hgd,st⟩:=adg ok.ti aj hg hd hp k;rw[show Region.wanted o (yielded ops a.tmps)=true by simp[Region.wanted,hgd]]
   exact st
 split at k
 .rename_i x hx;split at k
  .cases k
  .rename_i hd;exact(aiK ok aj hg hx hd k).weak
 split at k
 .rename_i ip QK;obtain⟨hgd,c,f,ho,bQ,hf⟩:=OX QK;split at k
  .cases k
  .rename_i hd;rw[show Region.wanted o (yielded ops a.tmps)=true by simp[Region.wanted,hgd]]
   rw[show kP o.op=tl c.args by simp only[kP,ho]]at k
   exact Xp (ok.ip f ip hf).1 (ok.ip f ip hf).2 aj hg hd ho bQ k
 split at k
 .split at k
  .exact(qV ok aj hg k).weak
  .rename_i p hp;split at k
   .cases k
   .rename_i hd;exact ac9 ok.ti aj hg hd hp k
 .rename_i ip QK;obtain⟨hgd,c,f,ho,bQ,hf⟩:=U5 QK;split at k
  .cases k
  .rename_i hd;rw[show Region.wanted o (yielded ops a.tmps)=true by simp[Region.wanted,hgd]]
   rw[show kP o.op=tl c.args by simp only[kP,ho]]at k
   exact acY (ok.ip f ip hf).1 (ok.ip f ip hf).2 aj hg hd ho bQ k
theorem Jd{P:Program}{E:Env} (ok:gI P E){B:Base}{h0:FH} (hg:aI E.cx.gd h0){ops:Array Oper}{R:Act->World->Prop}{K:St->Prop}:∀(l:List Oper){s:St}{h:FH}{β:List RV}{w:World}{a:Act},Sat E.n B h0 s h β w a ->
 adi E (tl ops) l s K->(∀s' h' β' w' a',K s'->h.le h'->Sat E.n B h0 s' h' β' w' a'->Same (jK l) a a'->R a' w')->wpL P ops R l a w
 | [],s,h,β,w,a,aj,k,next=>next _ _ _ _ _ k (FH.le.refl h) aj (Same.refl _ _)
 | o :: r,s,h,β,w,a,aj,k,next=>by
   have:=Es ok aj (hg.mono aj.ok.hle) k (wpL P ops R r) IK λs' h' β' w' v k' le aW=>Jd ok hg r aW k' λs2 h2 β2 w2 a2 k2 iD bJ sm=>next s2 h2 β2 w2 a2 k2 (le.trans iD) bJ sm.put
   unfold wpL;split
   .rename_i hw;rw[if_pos hw]at this;exact this
   .rename_i hw;rw[if_neg hw]at this;exact this
def XP(ops:Array Oper) (listed:Array Bool) (i:Nat):List Nat:=
 (List.range ops.size).foldl (λacc j=>if j != i && !listed.getD j true && (match ops[j]? with | some o=>o.after.any (λe=>Region.binds .any e && (e.on == i || acc.contains e.on)) | none=>false) then j :: acc else acc) []
def OY(ops:Array Oper) (listed:Array Bool) (i:Nat) (bl:List Nat):Bool:=
 (bl.all λj=>!listed.getD j true && (match ops[j]? with | some o=>o.after.any (λe=>Region.binds .any e && (e.on == i || bl.contains e.on)) | none=>false)) &&
 ((List.range ops.size).all λj=>j == i || listed.getD j true || xH ops j || bl.contains j)
theorem Bo{listed:Array Bool}{bl:List Nat} (h:OY ops listed i bl=true):
 Waits .any ops listed i bl/\∀j,j≠i->listed.getD j true=false->xH ops j=false->j∈bl:=by
 simp only[OY,bY,NH]at h;refine⟨λj hj=>?_,λj hji hun hs=>?_⟩
 .have h1:=h.1 j hj;simp only[Di]at h1;refine⟨h1.1,?_⟩;cases ho:ops[j]? with
  | none=>rw[ho]at h1;exact absurd h1.2 (by simp)
  | some o=>
    rw[ho]at h1;obtain⟨e,he,hb⟩:=Array.any_eq_true'.1 h1.2;simp only[bY,wC,Bd,acz]at hb;exact⟨o,rfl,e,he,hb.1,hb.2⟩
 .rcases V7 j ops.size with iQ | hge
  .have h2:=h.2 j (acE.2 iQ);simp only[wC,Bd,hji,hun,hs,acz,acB,false_or]at h2;exact h2
  .have:ops[j]?=none:=acw hge;simp[xH,this]at hs
inductive DT where
 | done
 | fl (i:Nat) (t:DT)
 | op (i:Nat) (t:DT)
 | alt (i:Nat) (t m:DT)
inductive OT where
 | done
 | op (o:Oper) (t:OT)
 | alt (o:Oper) (t m:OT)
def DT.alts:DT->List Nat
 | .op i _=>[i]
 | .alt i _ m=>i :: m.alts
 | _=>[]
def CB(ops:Array Oper) (listed:Array Bool) (i:Nat):Bool:=match ops[i]? with
 | some o=>jT o.op && Region.free .any ops listed i && (Region.ready .any ops listed).contains i && (!isLoad o.op || OY ops listed i (XP ops listed i))
 | none=>false
def kH(ops:Array Oper):DT->Bool->Nat->Array Bool->Bool
 | .done,top,n,listed=>top && n == 0 && (Region.ready .any ops listed).isEmpty
 | .fl i t,top,n,listed=>top && n != 0 && CB ops listed i && kH ops t true (n - 1) (listed.setIfInBounds i true)
 | .op i t,top,n,listed=>(!top || Region.ready .any ops listed == [i]) && n != 0 && (ops[i]?).isSome && kH ops t true (n - 1) (listed.setIfInBounds i true)
 | .alt i t m,top,n,listed=>(!top || Region.ready .any ops listed == i :: m.alts) && n != 0 && (ops[i]?).isSome && kH ops t true (n - 1) (listed.setIfInBounds i true) && kH ops m false n listed
def goT(g:Nat->DT):List Nat->DT
 | []=>.done
 | [i]=>.op i (g i)
 | i :: r=>.alt i (g i) (goT g r)
def U7(ops:Array Oper):Nat->Array Bool->DT
 | 0,_=>.done
 | f+1,listed=>
   let rs:=Region.ready .any ops listed
   match rs.find? (λi=>CB ops listed i) with
   | some i=>.fl i (U7 ops f (listed.setIfInBounds i true))
   | none=>goT (λi=>U7 ops f (listed.setIfInBounds i true)) rs
def CG(ops:Array Oper):DT->OT
 | .done=>.done
 | .fl i t=>match ops[i]? with
   | some o=>.op o (CG ops t)
   | none=>.done
 | .op i t=>match ops[i]? with
   | some o=>.op o (CG ops t)
   | none=>.done
 | .alt i t m=>match ops[i]? with
   | some o=>.alt o (CG ops t) (CG ops m)
   | none=>.done
def ofL:List Oper->OT
 | []=>.done
 | o :: l=>.op o (ofL l)
abbrev qW(E:Env) (ops:List Oper):OT->St->(St->Prop)->Prop
 | .done,s,K=>K s
 | .op o t,s,K=>iZ E ops o s λs=>qW E ops t s K
 | .alt o t m,s,K=>(iZ E ops o s λs=>qW E ops t s K)/\qW E ops m s K
theorem Lp{E:Env}{ops:List Oper}{K:St->Prop}:∀(l:List Oper),(λs=>qW E ops (ofL l) s K)=λs=>XN E ops l s K
 | []=>rfl
 | o :: l=>by
   funext s
   show iZ E ops o s (λs=>qW E ops (ofL l) s K)=iZ E ops o s λs=>XN E ops l s K
   rw[Lp l]
theorem U8{ops:List Oper} (l:List Oper) (h:qW E ops (ofL l) s K):XN E ops l s K:=by
 have:=congrFun (Lp (E:=E) (ops:=ops) (K:=K) l) s;rw[<-this];exact h
def isPure(o:Oper):Bool:=match o.op with
 | .alloc _ | .box .. | .buildSlice .. | .makeSlice .. | .store ..=>false
 | .call c=>(match c.callee with | .value (.func _)=>false | .builtin .append=>false | .builtin .copy=>false | .builtin .min=>false | .builtin .max=>false | _=>true)
 | _=>true
def vT(ops:Array Oper):Option OT:=
 if ops.all isPure && Region.lexB .any ops then some (ofL ops.toList)
 else
  let t:=U7 ops ops.size (Array.replicate ops.size false)
  if Region.noSelect ops && kH ops t true ops.size (Array.replicate ops.size false) then some (CG ops t) else none
section
variable {P:Program}{E:Env}{B:Base}{h0:FH}{s:St}{h:FH}{β:List RV}{w:World}{a:Act}{o:Oper}{ops:Array Oper}{K:St->Prop}
theorem Lr{L:List Nat}{l:List Oper}{g:Option (Nat×Bool)}{K K':Gd->St->Prop} (hk:∀G s,K G s->K' G s) (h:uD L s l g K):uD L s l g K':=by
 unfold uD at *;split at h
 .exact hk _ _ h
 .split at h
  .cases h
  .split at h
   .split at h
    .split at h
     .split at h
      .exact hk _ _ h
      .cases h
     .split at h
      .cases h
      .exact hk _ _ h
    .cases h
   .split at h
    .split at h
     .exact hk _ _ h
     .exact hk _ _ h
    .cases h
theorem Et(hp:isPure o=true) (k:iZ E (tl ops) o s K):kY E.n o.dst=true/\uD E.lits s (tl ops) o.guard λG s=>nH E.cx s G o λe=>K (s.put o.dst G e):=by
 unfold iZ at k;rw[Xw (λt n ps ho=>by simp[isPure,ho]at hp) (λc ho bQ=>by simp[isPure,ho,bQ]at hp)]at k
 simp only at k;unfold Jc at k;split at k
 .cases k
 rename_i hd;refine⟨hd,?_⟩;have key:∀G s,(match o.op with
  | .alloc t=>IB E.cx s G o.dst t K
  | .box t x=>acQ E.cx s G o.dst t x K
  | .buildSlice t n ps=>mM E.cx (nD s (aiE E s G (tl ps))) G o.dst t n (tl ps) K
  | .makeSlice t l c=>QE E.cx s G o.dst t l c K
  | .store t p x=>match G with
    | []=>match ac3 E.cx s o.dst t p x K with
      | some q=>q
      | none=>IC E.cx (nD s (XK E s p x)) o.dst t p x K
    | _ :: _=>False
  | .call c=>match c.callee with
    | .value (.func f)=>match hcL E f (tl c.args) with
      | some (ct,xs)=>ji E.cx (λ_=>some ct) s G o.dst f xs K
      | none=>ji E.cx E.ct (nD s (XJ E s G f (tl c.args))) G o.dst f (tl c.args) K
    | .builtin .append=>match G with
      | []=>match tl c.args with
        | [x,y]=>match tl c.argTypes with
          | [t,t']=>match Nat.beq t t' with
            | true=>match QV s x λs=>vH E.cx s o.dst t x y K with
              | some q=>q
              | none=>vH E.cx s o.dst t x y K
            | false=>False
          | _=>False
        | _=>False
      | _ :: _=>False
    | .builtin .copy=>match G with
      | []=>match tl c.args with
        | [x,y]=>match tl c.argTypes with
          | [t,_]=>QW E.cx s o.dst t x y K
          | _=>False
        | _=>False
      | _ :: _=>False
    | .builtin .min=>match G with
      | []=>match tl c.args with
        | [x,y]=>ac6 E.cx s o.dst x y K
        | _=>False
      | _ :: _=>False
    | .builtin .max=>match G with
      | []=>match tl c.args with
        | [x,y]=>Oz E.cx s o.dst x y K
        | _=>False
      | _ :: _=>False
    | _=>nH E.cx s G o λe=>K (s.put o.dst G e)
  | _=>nH E.cx s G o λe=>K (s.put o.dst G e))->nH E.cx s G o λe=>K (s.put o.dst G e):=by
  intro G s k;split at k
  .rename_i ho;simp[isPure,ho]at hp
  .rename_i ho;simp[isPure,ho]at hp
  .rename_i ho;simp[isPure,ho]at hp
  .rename_i ho;simp[isPure,ho]at hp
  .rename_i ho;simp[isPure,ho]at hp
  .rename_i c ho;split at k
   .rename_i hc;simp[isPure,ho,hc]at hp
   .rename_i hc;simp[isPure,ho,hc]at hp
   .rename_i hc;simp[isPure,ho,hc]at hp
   .rename_i hc;simp[isPure,ho,hc]at hp
   .rename_i hc;simp[isPure,ho,hc]at hp
   .exact k
  .exact k
 exact Lr key k
theorem XQ{x:Callee} (h:(match x with | .builtin .len=>true | _=>false)=true):x=.builtin .len:=by
 split at h
 .rfl
 .cases h
theorem OZ(hf:jT o.op=true):isPure o=true:=by
 cases ho:o.op with
 | call c=>
   rw[ho]at hf;have:c.callee=.builtin .len:=XQ hf;simp[isPure,ho,this]
 | _=>
   rw[ho]at hf
   first
    | (simp[isPure,ho];done)
    | (simp[jT,mF]at hf;done)
theorem uJ{x:Op} (hf:jT x=true):quietly x=true:=by
 cases x with
 | call c=>
   have:c.callee=.builtin .len:=XQ hf;simp[quietly,this]
 | _=>
   first
    | rfl
    | (simp[jT,mF]at hf;done)
theorem xK(ok:gI P E) (aj:Sat E.n B h0 s h β w a) (hg:aI E.cx.gd h) (hf:jT o.op=true) (k:iZ E (tl ops) o s K):
 ∃v s',YI P ops (isLoad o.op) w o v a/\K s'/\Sat E.n B h0 s' h β w (a.put o.dst v):=by
 obtain⟨hd,k⟩:=Et (OZ hf) k;obtain⟨G,s',k,aW,hw,hG⟩:=vG aj k;obtain⟨e,k1,k2⟩:=Uz ok.ti aW hg hf k;cases hgv:gv s'.gl G with
 | true=>
   obtain⟨v,r,c⟩:=k2 hgv;refine⟨v,_,.inl ⟨by rw[hw];exact hgv,λw' hg'=>?_⟩,k1,aW.put (dR hd) hG (λ_=>c) λhh=>by rw[hgv]at hh;cases hh⟩
   exact r w' hg'
 | false=>
   exact⟨undef,_,.inr ⟨by rw[hw];exact hgv,rfl⟩,k1,aW.put (dR hd) hG (λhh=>by rw[hgv]at hh;cases hh) λ_=>rfl⟩
theorem still_step(ok:gI P E) (aj:Sat E.n B h0 s h β w a) (hg:aI E.cx.gd h) (hp:isPure o=true) (k:iZ E (tl ops) o s K){Nx:Act->Prop}
 (next:∀v s',K s'->Sat E.n B h0 s' h β w (a.put o.dst v)->Nx (a.put o.dst v)):if Region.wanted o (yielded ops a.tmps) then o.still P a w Nx else Nx (a.put o.dst undef):=by
 obtain⟨hd,k⟩:=Et hp k;obtain⟨G,s',k,aW,hw,hG⟩:=vG aj k;obtain⟨e,k1,k2⟩:=DN ok.ti aW hg k;rw[hw];cases hgv:gv s'.gl G with
 | true=>
   obtain⟨v,r,c⟩:=k2 hgv;rw[if_pos rfl];unfold Oper.still;rw[r,Oper.stillUpon_value];exact next _ _ k1 (aW.put (dR hd) hG (λ_=>c) λhh=>by rw[hgv]at hh;cases hh)
 | false=>
   rw[if_neg (by simp)]
   exact next _ _ k1 (aW.put (dR hd) hG (λhh=>by rw[hgv]at hh;cases hh) λ_=>rfl)
theorem Ls(ok:gI P E) (hg:aI E.cx.gd h0){R:Act->Prop}:∀(l:List Oper){s:St}{a:Act},l.all isPure=true->Sat E.n B h0 s h β w a->XN E (tl ops) l s K ->
 (∀s' a',K s'->Sat E.n B h0 s' h β w a'->Same (jK l) a a'->R a')->wpStill P ops w R l a
 | [],s,a,_,aj,k,next=>next _ _ k aj (Same.refl _ _)
 | o :: r,s,a,hp,aj,k,next=>by
   simp only[List.all_cons,bY]at hp;exact still_step ok aj (hg.mono aj.ok.hle) hp.1 k λv s' k' aW=>Ls ok hg r hp.2 aW k' λs2 a2 k2 bJ sm=>next s2 a2 k2 bJ sm.put
abbrev Ar(cx:Cx):List Oper->Bool
 | []=>false
 | o :: l=>match o.op with
   | .call c=>match c.callee with
     | .builtin .len=>match tl c.argTypes with
       | [t]=>match XC cx t with
         | true=>true
         | false=>Ar cx l
       | _=>Ar cx l
     | _=>Ar cx l
   | .lookup _ _ _ _=>true
   | _=>Ar cx l
abbrev stepM(E:Env) (ops:List Oper) (o:Oper) (s:St) (K:St->Prop):Prop:=match o.guard with
 | some _=>iZ E ops o s K
 | none=>match Ja E.cx s o.op λe=>K (s.put o.dst [] e) with
   | some p=>match kY E.n o.dst with
     | false=>False
     | true=>p
   | none=>iZ E ops o s K
abbrev U9(E:Env) (ops:List Oper):List Oper->St->(St->Prop)->Prop
 | [],s,K=>K s
 | o :: r,s,K=>stepM E ops o s λs=>U9 E ops r s K
theorem Au(ok:gI P E) (hg:aI E.cx.gd h0){R:Act->Prop}:∀(l:List Oper){s:St}{a:Act},l.all isPure=true->Sat E.n B h0 s h β w a->U9 E (tl ops) l s K ->
 (∀s' a',K s'->Sat E.n B h0 s' h β w a'->Same (jK l) a a'->R a')->wpStill P ops w R l a
 | [],s,a,_,aj,k,next=>next _ _ k aj (Same.refl _ _)
 | o :: r,s,a,hp,aj,k,next=>by
   simp only[List.all_cons,bY]at hp;have old:iZ E (tl ops) o s (λs=>U9 E (tl ops) r s K)->wpStill P ops w R (o :: r) a:=λk=>
    still_step ok aj (hg.mono aj.ok.hle) hp.1 k λv s' k' aW=>Au ok hg r hp.2 aW k' λs2 a2 k2 bJ sm=>next s2 a2 k2 bJ sm.put
   simp only[U9,stepM]at k;split at k
   .exact old k
   .rename_i hgd;split at k
    .rename_i p hp';split at k
     .cases k
     .rename_i hd;obtain⟨e,v,k1,run,c⟩:=Lj ok.ti aj (hg.mono aj.ok.hle) hp' k;unfold wpStill;rw[if_pos (by simp[Region.wanted,hgd])]
      unfold Oper.still;rw[run,Oper.stillUpon_value];exact Au ok hg r hp.2 (aj.put (dR hd) rfl (λ_=>c) λhh=>by cases hh) k1 λs2 a2 k2 bJ sm=>next s2 a2 k2 bJ sm.put
    .exact old k
def adl(ops:Array Oper):Bool:=ops.all isPure && Region.lexB .any ops
theorem uK{t:Nat}:∀{l:List Oper},iW t (jK l)=true↔∃o∈l,o.dst=some t
 | []=>by simp[jK,iW]
 | o :: l=>by
   cases hd:o.dst with
   | none=>
     have e:jK (o :: l)=jK l:=by simp only[jK,hd]
     rw[e,uK];simp[hd]
   | some d=>
     have e:jK (o :: l)=d :: jK l:=by simp only[jK,hd]
     rw[e,jq,wC,uK];constructor
     .rintro(h | ⟨o',h1,h2⟩)
      .exact⟨o,by simp,by rw[hd,iC h]⟩
      .exact⟨o',by simp[h1],h2⟩
     .rintro⟨o',h1,h2⟩;rcases ni.1 h1 with rfl | h1
      .rw[hd]at h2;cases h2;exact .inl (Nat.beq_refl _)
      .exact .inr ⟨o',h1,h2⟩
theorem Same.sub{l m:List Oper} (hs:∀o∈l,o∈m) (x:Same (jK l) a b):Same (jK m) a b:=λt h=>x t (by
 cases hh:iW t (jK l) with
 | false=>rfl
 | true=>
   obtain⟨o,h1,h2⟩:=uK.1 hh;rw[uK.2 ⟨o,hs o h1,h2⟩]at h;cases h)
theorem Same.put_mem{ol:List Oper} (ho:o∈ol){v:Value} (x:Same (jK ol) (a.put o.dst v) b):Same (jK ol) a b:=by
 intro t h;rw[x t h];cases hd:o.dst with
 | none=>rfl
 | some d=>
   have hne:d≠t:=by
    rintro rfl;rw[uK.2 ⟨o,ho,hd⟩]at h;cases h
   simp[Act.put,ahM hne]
theorem yZ(ok:gI P E) (hg:aI E.cx.gd h0) (hs:Region.noSelect ops=true){R:Act->World->Prop}:∀(t:DT){n:Nat}{listed:Array Bool}{s:St}{h:FH}{β:List RV}{w:World}{a:Act},
 Sat E.n B h0 s h β w a->qW E (tl ops) (CG ops t) s K->(∀s' h' β' w' a',K s'->h.le h'->Sat E.n B h0 s' h' β' w' a'->Same (jK ops.toList) a a'->R a' w') ->
 (kH ops t true n listed=true->anyI P .any ops (xH ops) R n listed a w) /\
 (kH ops t false n listed=true->∀i∈t.alts,zU P ops i (λa' w'=>(xH ops i=true->mD w w')/\anyI P .any ops (xH ops) R (n - 1) (listed.setIfInBounds i true) a' w') a w)
 | .done,n,listed,s,h,β,w,a,aj,k,next=>by
   refine⟨λhc=>?_,λhc=>by simp[kH]at hc⟩
   simp only[kH,FM,bY,Bd]at hc;obtain⟨rfl,he⟩:=hc;exact⟨by simpa using he,next _ _ _ _ _ k (FH.le.refl h) aj (Same.refl _ _)⟩
 | .fl i t,n,listed,s,h,β,w,a,aj,k,next=>by
   refine⟨λhc=>?_,λhc=>by simp[kH]at hc⟩
   simp only[kH,FM,bY,Kt,ne_eq]at hc;obtain⟨⟨hn,hb⟩,hc⟩:=hc;obtain⟨n,rfl⟩:∃m,n=m+1:=⟨n - 1,by omega⟩
   unfold CB at hb;cases hi:ops[i]? with
   | none=>rw[hi]at hb;simp at hb
   | some o=>
     rw[hi]at hb;simp only[bY]at hb;simp only[CG,hi,qW]at k;have lC:o∈ops.toList:=iy (i:=i) (by simpa using hi)
     obtain⟨⟨⟨hf,hfree⟩,hr⟩,hl⟩:=hb;obtain⟨v,s',hy,k',aW⟩:=xK ok aj (hg.mono aj.ok.hle) hf k;have hq:xH ops i=true:=by
      simp only[xH,hi];exact uJ hf
     refine D6 (bl:=XP ops listed i) hi (Region.noSelect_spec hs) hq n listed a w (Region.free_spec hi hfree) (λe=>?_) (by simpa using hr) hy (λ_=>mD.refl w)
      ((yZ ok hg hs t aW k' λs2 h2 β2 w2 a2 k2 iD bJ sm=>next s2 h2 β2 w2 a2 k2 iD bJ (sm.put_mem lC)).1 hc)
     rw[e]at hl;exact Bo (by simpa using hl)
 | .op i t,n,listed,s,h,β,w,a,aj,k,next=>by
   have key:n≠0->(ops[i]?).isSome=true->kH ops t true (n - 1) (listed.setIfInBounds i true)=true->zU P ops i (λa' w'=>(xH ops i=true->mD w w')/\anyI P .any ops (xH ops) R (n - 1) (listed.setIfInBounds i true) a' w') a w:=by
    intro hn hi hc;obtain⟨o,hi⟩:=A87.1 hi;have lC:o∈ops.toList:=iy (i:=i) (by simpa using hi)
    simp only[CG,hi,qW]at k;unfold zU;simp only[hi];refine qV ok aj (hg.mono aj.ok.hle) k _ IK λs' h' β' w' v k' le Ah aW=>⟨λe=>Ah (by simpa[xH,hi]using e),?_⟩
    exact(yZ ok hg hs t aW k' λs2 h2 β2 w2 a2 k2 iD bJ sm=>next s2 h2 β2 w2 a2 k2 (le.trans iD) bJ (sm.put_mem lC)).1 hc
   refine⟨λhc=>?_,λhc j hj=>?_⟩
   .simp only[kH,Uf,NV,bY,Kt,ne_eq,Bd]at hc;obtain⟨⟨⟨hr,hn⟩,hi⟩,hc⟩:=hc;obtain⟨m,rfl⟩:∃m,n=m+1:=⟨n - 1,by omega⟩
    refine⟨λh0=>by rw[hr]at h0;simp at h0,λj hj=>?_⟩
    rw[hr]at hj;simp at hj;subst hj;exact key hn hi hc
   .simp only[kH,NU,NY,FM,bY,Kt,ne_eq]at hc;simp only[DT.alts,A82]at hj;subst hj;exact key hc.1.1 hc.1.2 hc.2
 | .alt i t m,n,listed,s,h,β,w,a,aj,k,next=>by
   have key:n≠0->(ops[i]?).isSome=true->kH ops t true (n - 1) (listed.setIfInBounds i true)=true->kH ops m false n listed=true ->
    ∀j∈i :: m.alts,zU P ops j (λa' w'=>(xH ops j=true->mD w w')/\anyI P .any ops (xH ops) R (n - 1) (listed.setIfInBounds j true) a' w') a w:=by
    intro hn hi hc hm j hj;obtain⟨o,hi⟩:=A87.1 hi;have lC:o∈ops.toList:=iy (i:=i) (by simpa using hi)
    simp only[CG,hi,qW]at k;rcases ni.1 hj with rfl | hj
    .unfold zU;simp only[hi];refine qV ok aj (hg.mono aj.ok.hle) k.1 _ IK λs' h' β' w' v k' le Ah aW=>⟨λe=>Ah (by simpa[xH,hi]using e),?_⟩
     exact(yZ ok hg hs t aW k' λs2 h2 β2 w2 a2 k2 iD bJ sm=>next s2 h2 β2 w2 a2 k2 (le.trans iD) bJ (sm.put_mem lC)).1 hc
    .exact(yZ ok hg hs m aj k.2 next).2 hm j hj
   refine⟨λhc=>?_,λhc j hj=>?_⟩
   .simp only[kH,Uf,NV,bY,Kt,ne_eq,Bd]at hc;obtain⟨⟨⟨⟨hr,hn⟩,hi⟩,hc⟩,hm⟩:=hc;obtain⟨q,rfl⟩:∃m,n=m+1:=⟨n - 1,by omega⟩
    refine⟨λh0=>by rw[hr]at h0;simp at h0,λj hj=>?_⟩
    rw[hr]at hj;exact key hn hi hc hm j hj
   .simp only[kH,NU,NY,FM,bY,Kt,ne_eq]at hc;exact key hc.1.1.1 hc.1.1.2 hc.1.2 hc.2 j hj
theorem Sat.drawn(aj:Sat E.n B h0 s h β w a) (n:Nat) (hn:w.drawn<=n):Sat E.n B h0 s h β { w with drawn:=n } a where
 ok:=⟨⟨aj.ok.below.os,aj.ok.below.tape,aj.ok.below.output,aj.ok.below.size,aj.ok.below.block⟩,pq aj.ok.dr hn,aj.ok.len,λi r v h1 h2=>by
  have:=aj.ok.holds i r v h1 h2;cases r<;>cases v<;>exact this,aj.ok.own,aj.ok.inj,aj.ok.hle,aj.ok.hw,aj.ok.hg,aj.ok.kn⟩
 env:=aj.env
 gs:=aj.gs
 defers:=aj.defers
 sz:=aj.sz
 gb:=aj.gb
 gT:=aj.gT
theorem Rf(ok:gI P E) (hg:aI E.cx.gd h0){id:Nat}{ol:OT} (ho:vT ops=some ol) (aj:Sat E.n B h0 s h β w a) (k:qW E (tl ops) ol s K){F:Fence} (hF:Wd F) (hn:Cj ops.toList=true)
 (next:∀s' h' β' w' a',K s'->h.le h'->Sat E.n B h0 s' h' β' w' a'->Same (jK (tl ops)) a a'->Q .normal a' w'):(Code.region id ops true).wpIn F n P Q a w:=by
 unfold vT at ho;have et:tl ops=ops.toList:=by cases ops;rfl
 split at ho
 .rename_i hp;cases ho;simp only[bY]at hp;refine yY hF hn ok.mixed hp.2 (Ls ok hg ops.toList (by simpa using hp.1) (aj.drawn _ (TU _)) (U8 _ k) λs' a' k' aW sm=>next _ _ _ _ _ k' (FH.le.refl h) aW (by rw[et];exact sm))
 .simp only at ho;split at ho
  .rename_i hp;cases ho;simp only[bY,Bd]at hp;refine wpIn_region_any ok.mixed (I8 (sf:=xH ops) (R:=λa w=>Q .normal a w) hF hn (λ_ _ hh=>hh) _ _ _ _ ?_)
   exact(yZ ok hg hp.1 (R:=λa w=>Q .normal a w) (U7 ops ops.size (Array.replicate ops.size false)) (aj.drawn (w.drawn+1) (TU _)) k λs' h' β' w' a' k' le aW sm=>next _ _ _ _ _ k' le aW (by rw[et];exact sm)).1 hp.2
  .cases ho
end
section
variable {P:Program}{E:Env}{B:Base}{h0:FH}{s:St}{h:FH}{β:List RV}{w:World}{a:Act}{o:Oper}{ops:Array Oper}{K:St->Prop}
theorem XR(ok:gI P E) (hg:aI E.cx.gd h0){id:Nat} (ho:adl ops=true) (aj:Sat E.n B h0 s h β w a) (k:U9 E (tl ops) (tl ops) s K){F:Fence} (hF:Wd F) (hn:Cj ops.toList=true)
 (next:∀s' h' β' w' a',K s'->h.le h'->Sat E.n B h0 s' h' β' w' a'->Same (jK (tl ops)) a a'->Q .normal a' w'):(Code.region id ops true).wpIn F n P Q a w:=by
 unfold adl at ho;have et:tl ops=ops.toList:=by cases ops;rfl
 simp only[bY]at ho;rw[et]at next
 refine yY hF hn ok.mixed ho.2 (Au ok hg ops.toList (by simpa using ho.1) (aj.drawn _ (TU _)) (by rw[et]at k ⊢;exact k) λs' a' k' aW sm=>next _ _ _ _ _ k' (FH.le.refl h) aW sm)
end
abbrev adn:Op->Bool
 | .call _=>true
 | _=>false
def Aw:Op->Bool
 | .call c=>(match c.callee with
   | .builtin .len=>true
   | _=>false)
 | o=>quietly o
def Lu(ops:Array Oper) (i:Nat):Bool:=match ops[i]? with
 | some o=>Aw o.op
 | none=>true
def O1(ops:Array Oper) (listed:Array Bool) (i:Nat) (bl:List Nat):Bool:=
 (bl.all λj=>!listed.getD j true && (match ops[j]? with | some o=>o.after.any (λe=>Region.binds .any e && (e.on == i || bl.contains e.on)) | none=>false)) &&
 ((List.range ops.size).all λj=>j == i || listed.getD j true || Lu ops j || bl.contains j)
theorem LC{listed:Array Bool}{bl:List Nat} (h:O1 ops listed i bl=true):
 Waits .any ops listed i bl/\∀j,j≠i->listed.getD j true=false->Lu ops j=false->j∈bl:=by
 simp only[O1,bY,NH]at h;refine⟨λj hj=>?_,λj hji hun hs=>?_⟩
 .have h1:=h.1 j hj;simp only[Di]at h1;refine⟨h1.1,?_⟩;cases ho:ops[j]? with
  | none=>rw[ho]at h1;exact absurd h1.2 (by simp)
  | some o=>
    rw[ho]at h1;obtain⟨e,he,hb⟩:=Array.any_eq_true'.1 h1.2;simp only[bY,wC,Bd,acz]at hb;exact⟨o,rfl,e,he,hb.1,hb.2⟩
 .rcases V7 j ops.size with iQ | hge
  .have h2:=h.2 j (acE.2 iQ);simp only[wC,Bd,hji,hun,hs,acz,acB,false_or]at h2;exact h2
  .have:ops[j]?=none:=acw hge;simp[Lu,this]at hs
def Je(ops:Array Oper) (listed:Array Bool) (i:Nat):Bool:=match ops[i]? with
 | some o=>jT o.op && Region.free .any ops listed i && (Region.ready .any ops listed).contains i && (!isLoad o.op || O1 ops listed i (XP ops listed i))
 | none=>false
def tZ(ops:Array Oper):DT->Bool->Nat->Array Bool->Bool
 | .done,top,n,listed=>top && n == 0 && (Region.ready .any ops listed).isEmpty
 | .fl i t,top,n,listed=>top && n != 0 && Je ops listed i && tZ ops t true (n - 1) (listed.setIfInBounds i true)
 | .op i t,top,n,listed=>(!top || Region.ready .any ops listed == [i]) && n != 0 && (ops[i]?).isSome && tZ ops t true (n - 1) (listed.setIfInBounds i true)
 | .alt i t m,top,n,listed=>(!top || Region.ready .any ops listed == i :: m.alts) && n != 0 && (ops[i]?).isSome && tZ ops t true (n - 1) (listed.setIfInBounds i true) && tZ ops m false n listed
def Rh(ops:Array Oper):Nat->Array Bool->DT
 | 0,_=>.done
 | f+1,listed=>
   let rs:=Region.ready .any ops listed
   match rs.find? (λi=>Je ops listed i) with
   | some i=>.fl i (Rh ops f (listed.setIfInBounds i true))
   | none=>goT (λi=>Rh ops f (listed.setIfInBounds i true)) rs
def y5(ops:Array Oper):Option OT:=
 let t:=Rh ops ops.size (Array.replicate ops.size false)
 if Region.noSelect ops && tZ ops t true ops.size (Array.replicate ops.size false) then some (CG ops t) else none
abbrev LD(E:Env) (ops:List Oper) (o:Oper) (s:St) (K:St->Prop):Prop:=match jT o.op with
 | true=>iZ E ops o s K
 | false=>match rtP E.cx s o K with
 | some p=>match kY E.n o.dst with
   | false=>False
   | true=>p
 | none=>match adn o.op with
   | true=>Lm E ops o s K
   | false=>iZ E ops o s K
abbrev qw(E:Env) (ops:List Oper):OT->St->(St->Prop)->Prop
 | .done,s,K=>K s
 | .op o t,s,K=>LD E ops o s λs=>qw E ops t s K
 | .alt o t m,s,K=>(LD E ops o s λs=>qw E ops t s K)/\qw E ops m s K
abbrev LG(E:Env):List Oper->Bool
 | []=>false
 | o :: l=>match o.op with
   | .call c=>match c.callee with
     | .value (.func f)=>match E.ip f with
       | some _=>true
       | none=>LG E l
     | _=>LG E l
   | _=>LG E l
section
variable {P:Program}{E:Env}{B:Base}{h0:FH}{s:St}{h:FH}{β:List RV}{w:World}{a:Act}{o:Oper}{ops:Array Oper}{K:St->Prop}
theorem LH(ok:gI P E) (aj:Sat E.n B h0 s h β w a) (hg:aI E.cx.gd h) (hi:ops[i]?=some o) (k:LD E (tl ops) o s K){R:Act->World->Prop}
 (next:∀s' h' β' w' v,K s'->h.le h'->(Lu ops i=true->mD w w')->Sat E.n B h0 s' h' β' w' (a.put o.dst v)->R (a.put o.dst v) w'):zU P ops i R a w:=by
 unfold zU;simp only[hi];unfold LD at k;have plain:Aw o.op=quietly o.op->iZ E (tl ops) o s K->if Region.wanted o (yielded ops a.tmps)=true then o.wp P a w R IK else R (a.put o.dst undef) w:=λhq k=>
  qV ok aj hg k R IK λs' h' β' w' v k' le Ah aW=>next s' h' β' w' v k' le (λe=>Ah (by rw[<-hq];simpa[Lu,hi]using e)) aW
 split at k
 .rename_i hf;refine plain ?_ k;cases ho:o.op with
  | call c=>
    rw[ho]at hf;have:c.callee=.builtin .len:=XQ hf;simp[Aw,quietly,this]
  | _=>rfl
 .rename_i hf;split at k
  .rename_i p hp;split at k
   .cases k
   .rename_i hd;refine XA ok.ti aj hg hd hp k R IK λs' h' β' w' v k' le Ah aW=>next s' h' β' w' v k' le (λe=>Ah ?_) aW
    simp only[Lu,hi]at e;revert e;unfold Aw;split
    .rename_i c hc;split
     .rename_i h2;intro _;rw[hc];simp[quietly,h2]
     .intro e;cases e
    .exact λe=>e
  split at k
  .rename_i hc;refine Es ok aj hg k R IK λs' h' β' w' v k' le aW=>next s' h' β' w' v k' le (λe=>?_) aW
   exfalso;cases ho:o.op with
   | call c=>
     rw[ho]at hf;simp only[Lu,hi,ho,Aw]at e;have h1:c.callee=.builtin .len:=by
      revert e;split
      .rename_i h2;intro _;exact h2
      .intro e;cases e
     have:jT (Op.call c)=true:=by simp[jT,mF,h1]
     rw[this]at hf;cases hf
   | _=>rw[ho]at hc;cases hc
  .rename_i hc;refine plain ?_ k;cases ho:o.op with
   | call c=>rw[ho]at hc;cases hc
   | _=>rfl
theorem uM(ok:gI P E) (hg:aI E.cx.gd h0) (hs:Region.noSelect ops=true){R:Act->World->Prop}:∀(t:DT){n:Nat}{listed:Array Bool}{s:St}{h:FH}{β:List RV}{w:World}{a:Act},
 Sat E.n B h0 s h β w a->qw E (tl ops) (CG ops t) s K->(∀s' h' β' w' a',K s'->h.le h'->Sat E.n B h0 s' h' β' w' a'->Same (jK ops.toList) a a'->R a' w') ->
 (tZ ops t true n listed=true->anyI P .any ops (Lu ops) R n listed a w) /\
 (tZ ops t false n listed=true->∀i∈t.alts,zU P ops i (λa' w'=>(Lu ops i=true->mD w w')/\anyI P .any ops (Lu ops) R (n - 1) (listed.setIfInBounds i true) a' w') a w)
 | .done,n,listed,s,h,β,w,a,aj,k,next=>by
   refine⟨λhc=>?_,λhc=>by simp[tZ]at hc⟩
   simp only[tZ,FM,bY,Bd]at hc;obtain⟨rfl,hr⟩:=hc;exact⟨by simpa using hr,next _ _ _ _ _ k (FH.le.refl h) aj (Same.refl _ _)⟩
 | .fl i t,n,listed,s,h,β,w,a,aj,k,next=>by
   refine⟨λhc=>?_,λhc=>by simp[tZ]at hc⟩
   simp only[tZ,FM,bY,Kt,ne_eq]at hc;obtain⟨⟨hn0,hb⟩,hc⟩:=hc;obtain⟨n,rfl⟩:∃m,n=m+1:=⟨n - 1,by omega⟩
   unfold Je at hb;cases hi:ops[i]? with
   | none=>rw[hi]at hb;simp at hb
   | some o=>
     rw[hi]at hb;simp only[bY]at hb;simp only[CG,hi,qw]at k;have lC:o∈ops.toList:=iy (i:=i) (by simpa using hi)
     obtain⟨⟨⟨hf,hfree⟩,hr⟩,hl⟩:=hb;have k:iZ E (tl ops) o s λs=>qw E (tl ops) (CG ops t) s K:=by
      unfold LD at k;rw[hf]at k;exact k
     obtain⟨v,s',hy,k',aW⟩:=xK ok aj (hg.mono aj.ok.hle) hf k;have hq:Lu ops i=true:=by
      simp only[Lu,hi];cases ho:o.op with
      | call c=>
        rw[ho]at hf;have:c.callee=.builtin .len:=XQ hf;simp[Aw,this]
      | _=>
        have:=uJ hf;rw[ho]at this;exact this
     refine D6 (bl:=XP ops listed i) hi (Region.noSelect_spec hs) hq n listed a w (Region.free_spec hi hfree) (λe=>?_) (by simpa using hr) hy (λ_=>mD.refl w)
      ((uM ok hg hs t aW k' λs2 h2 β2 w2 a2 k2 iD bJ sm=>next s2 h2 β2 w2 a2 k2 iD bJ (sm.put_mem lC)).1 hc)
     rw[e]at hl;exact LC (by simpa using hl)
 | .op i t,n,listed,s,h,β,w,a,aj,k,next=>by
   have key:n≠0->(ops[i]?).isSome=true->tZ ops t true (n - 1) (listed.setIfInBounds i true)=true->zU P ops i (λa' w'=>(Lu ops i=true->mD w w')/\anyI P .any ops (Lu ops) R (n - 1) (listed.setIfInBounds i true) a' w') a w:=by
    intro hn0 hi hc;obtain⟨o,hi⟩:=A87.1 hi;have lC:o∈ops.toList:=iy (i:=i) (by simpa using hi)
    simp only[CG,hi,qw]at k;exact(LH ok aj (hg.mono aj.ok.hle) hi k λs' h' β' w' v k' le Ah aW=>⟨Ah,(uM ok hg hs t aW k' λs2 h2 β2 w2 a2 k2 iD bJ sm=>next s2 h2 β2 w2 a2 k2 (le.trans iD) bJ (sm.put_mem lC)).1 hc⟩)
   refine⟨λhc=>?_,λhc j hj=>?_⟩
   .simp only[tZ,Uf,NV,bY,Kt,ne_eq,Bd]at hc;obtain⟨⟨⟨hr,hn0⟩,hi⟩,hc⟩:=hc;obtain⟨m,rfl⟩:∃m,n=m+1:=⟨n - 1,by omega⟩
    refine⟨λh0=>by rw[hr]at h0;simp at h0,λj hj=>?_⟩
    rw[hr]at hj;simp at hj;subst hj;exact key hn0 hi hc
   .simp only[tZ,NU,NY,FM,bY,Kt,ne_eq]at hc;simp only[DT.alts,A82]at hj;subst hj;exact key hc.1.1 hc.1.2 hc.2
 | .alt i t mm,n,listed,s,h,β,w,a,aj,k,next=>by
   have key:n≠0->(ops[i]?).isSome=true->tZ ops t true (n - 1) (listed.setIfInBounds i true)=true->tZ ops mm false n listed=true ->
    ∀j∈i :: mm.alts,zU P ops j (λa' w'=>(Lu ops j=true->mD w w')/\anyI P .any ops (Lu ops) R (n - 1) (listed.setIfInBounds j true) a' w') a w:=by
    intro hn0 hi hc hm j hj;obtain⟨o,hi⟩:=A87.1 hi;have lC:o∈ops.toList:=iy (i:=i) (by simpa using hi)
    simp only[CG,hi,qw]at k;rcases ni.1 hj with rfl | hj
    .exact(LH ok aj (hg.mono aj.ok.hle) hi k.1 λs' h' β' w' v k' le Ah aW=>⟨Ah,(uM ok hg hs t aW k' λs2 h2 β2 w2 a2 k2 iD bJ sm=>next s2 h2 β2 w2 a2 k2 (le.trans iD) bJ (sm.put_mem lC)).1 hc⟩)
    .exact(uM ok hg hs mm aj k.2 next).2 hm j hj
   refine⟨λhc=>?_,λhc j hj=>?_⟩
   .simp only[tZ,Uf,NV,bY,Kt,ne_eq,Bd]at hc;obtain⟨⟨⟨⟨hr,hn0⟩,hi⟩,hc⟩,hm⟩:=hc;obtain⟨q,rfl⟩:∃m,n=m+1:=⟨n - 1,by omega⟩
    refine⟨λh0=>by rw[hr]at h0;simp at h0,λj hj=>?_⟩
    rw[hr]at hj;exact key hn0 hi hc hm j hj
   .simp only[tZ,NU,NY,FM,bY,Kt,ne_eq]at hc;exact key hc.1.1.1 hc.1.1.2 hc.1.2 hc.2 j hj
theorem XT(ok:gI P E) (hg:aI E.cx.gd h0){id:Nat}{ol:OT} (ho:y5 ops=some ol) (aj:Sat E.n B h0 s h β w a) (k:qw E (tl ops) ol s K){F:Fence} (hF:Wd F) (hn:Cj ops.toList=true)
 (next:∀s' h' β' w' a',K s'->h.le h'->Sat E.n B h0 s' h' β' w' a'->Same (jK (tl ops)) a a'->Q .normal a' w'):(Code.region id ops true).wpIn F n P Q a w:=by
 unfold y5 at ho;have et:tl ops=ops.toList:=by cases ops;rfl
 simp only at ho;split at ho
 .rename_i hp;cases ho;simp only[bY,Bd]at hp;refine wpIn_region_any ok.mixed (I8 (sf:=Lu ops) (R:=λa w=>Q .normal a w) hF hn (λ_ _ hh=>hh) _ _ _ _ ?_)
  exact(uM ok hg hp.1 (R:=λa w=>Q .normal a w) (Rh ops ops.size (Array.replicate ops.size false)) (aj.drawn (w.drawn+1) (TU _)) k λs' h' β' w' a' k' le aW sm=>next _ _ _ _ _ k' le aW (by rw[et];exact sm)).1 hp.2
 .cases ho
end
abbrev isNil{α:Type}:List α->Bool
 | []=>true
 | _ :: _=>false
abbrev uN(seen:List Nat):List (Nat×Gd×aZ)->List (Nat×Gd×aZ)
 | []=>[]
 | (k,g,e) :: l=>match iW k seen with
   | true=>uN seen l
   | false=>match isNil g with
     | true=>(k,g,e) :: uN (k :: seen) l
     | false=>uN (k :: seen) l
abbrev lY:List (Gd×ay)->List (Gd×ay)
 | []=>[]
 | (g,r) :: l=>match isNil g with
   | true=>([],r) :: lY l
   | false=>([],.gone) :: lY l
abbrev clean(s:St):St:={ env:=uN [] s.env,T:=lY s.T,gl:=[],gs:=[] }
theorem rY:∀{l:List (Nat×Gd×aZ)}{seen:List Nat}{t:Nat}{G:Gd}{e:aZ},iF (uN seen l) t=some (G,e)->iW t seen=false/\iF l t=some (G,e)/\G=[]
 | [],_,_,_,_,h=>by simp[uN,iF]at h
 | (k,g,e0) :: l,seen,t,G,e,h=>by
   unfold uN at h;split at h
   .rename_i hm;obtain⟨h1,h2,h3⟩:=rY h;refine⟨h1,?_,h3⟩;rw[bC,if_neg]
    .exact h2
    .rintro rfl;rw[hm]at h1;cases h1
   .rename_i hm;have sub:iF (uN (k :: seen) l) t=some (G,e)->iW t seen=false/\iF ((k,g,e0) :: l) t=some (G,e)/\G=[]:=by
     intro h;obtain⟨h1,h2,h3⟩:=rY h;rw[jq,l7]at h1;refine⟨h1.2,?_,h3⟩;rw[bC,if_neg]
     .exact h2
     .rintro rfl;exact VY h1.1 rfl
    split at h
    .rename_i hn;rw[bC]at h;split at h
     .rename_i hk;subst hk;cases h;refine⟨hm,by rw[bC,if_pos rfl],?_⟩
      cases g with
      | nil=>rfl
      | cons _ _=>cases hn
     .exact sub h
    .exact sub h
theorem Eu(gl:List Bool):∀(T:List (Gd×ay)) (i:Nat) (r:ay),(eff [] (lY T))[i]?=some r->r.live=true->(eff gl T)[i]?=some r
 | [],i,r,h,_=>by simp[lY,eff]at h
 | (g,r0) :: l,i,r,h,hl=>by
   have e1:eff [] (lY ((g,r0) :: l))=(match isNil g with | true=>r0 | false=>ay.gone) :: eff [] (lY l):=by
    simp only[lY];cases isNil g<;>rfl
   rw[e1]at h;cases i with
   | zero=>
     simp only[A99,A94]at h;cases g with
     | nil=>simp only[isNil]at h;subst h;rfl
     | cons _ _=>simp only[isNil]at h;subst h;cases hl
   | succ i=>
     simp only[acv,eff]at h ⊢
     exact Eu gl l i r h hl
theorem Ew:∀(T:List (Gd×ay)),(lY T).length=T.length
 | []=>rfl
 | (g,r) :: l=>by simp only[lY];split<;>simp[Ew l]
theorem xM:∀{T:List (Gd×ay)}{p:Gd×ay},p∈lY T->p.1=[]
 | [],p,h=>by simp[lY]at h
 | (g,r) :: l,p,h=>by
   simp only[lY]at h;split at h
   .rcases ni.1 h with rfl | h
    .rfl
    .exact xM h
   .rcases ni.1 h with rfl | h
    .rfl
    .exact xM h
theorem OK.weaken{T T':List ay} (ok:OK B h0 T h β w) (hl:T'.length=T.length) (sub:∀(i:Nat) r,T'[i]?=some r->r.live=true->T[i]?=some r):OK B h0 T' h β w where
 below:=ok.below
 dr:=ok.dr
 len:=by rw[hl];exact ok.len
 holds:=by
  intro i r v e e';cases hr:r.live with
  | true=>exact ok.holds i r v (sub i r e hr) e'
  | false=>cases r<;>first | (cases hr;done) | (cases v<;>trivial)
 own:=λi r v b e l e' hb=>ok.own i r v b (sub i r e l) l e' hb
 inj:=λi j r r' u v b e l e' l' f f' hb hb'=>ok.inj i j r r' u v b (sub i r e l) l (sub j r' e' l') l' f f' hb hb'
 hle:=ok.hle
 hw:=ok.hw
 hg:=ok.hg
 kn:=ok.kn
theorem Sat.clean{N:Nat}{B:Base}{h0:FH}{s:St}{h:FH}{β:List RV}{w:World}{a:Act} (aj:Sat N B h0 s h β w a):Sat N B h0 (clean s) h β w a:=by
 refine⟨?_,?_,?_,aj.defers,aj.sz,?_,?_⟩
 .exact aj.ok.weaken (by simp[iK,Ew]) λi r e l=>Eu s.gl s.T i r e l
 .intro t G e ht;obtain⟨_,h1,rfl⟩:=rY ht;exact aj.env t [] e h1
 .intro d i hi;have hi:Wv [] d=some i:=hi;cases hi
 .intro t G e ht;obtain⟨_,h1,rfl⟩:=rY ht;rfl
 .intro p hp;rw[xM hp]
abbrev writes:Code->List Nat
 | .region _ ops _=>jK (tl ops)
 | .seq a b=>fA (writes a) (writes b)
 | .cond _ a b=>fA (writes a) (writes b)
 | .block _ c=>writes c
 | .loop c=>writes c
 | _=>[]
abbrev keyOf:Code->Nat
 | .region id _ _=>id
 | .seq a _=>keyOf a
 | .cond _ a _=>keyOf a
 | .block _ c=>keyOf c
 | .loop c=>keyOf c
 | _=>0
abbrev CJ(n:Nat):SC->Bool
 | .own i _=>Nat.ble (i+1) n
 | .row i=>Nat.ble (i+1) n
 | .jS i _ _ _=>Nat.ble (i+1) n
 | .sub i _=>Nat.ble (i+1) n
 | .lQ i _ _ _ _=>Nat.ble (i+1) n
 | _=>true
abbrev y7(n:Nat):SV->Bool
 | .c x=>CJ n x
 | .agg xs=>allL (CJ n) xs
 | _=>true
abbrev lF(n:Nat):ay->Bool
 | .blk _ xs=>allL (CJ n) xs
 | _=>true
abbrev kT:SC->Bool
 | .v _=>true
 | .sl _ _=>true
 | .one _ _=>true
 | .fp _ _=>true
 | .abs _=>true
 | .junk=>true
 | _=>false
abbrev Az:SV->Bool
 | .c x=>kT x
 | .agg xs=>allL kT xs
 | _=>true
abbrev rZ:aZ->Bool
 | .one v=>Az v
 | .gV vs=>allL Az vs
abbrev qc(ws seen:List Nat):List (Nat×Gd×aZ)->List (Nat×Gd×aZ)
 | []=>[]
 | (k,g,e) :: l=>match iW k seen with
   | true=>qc ws seen l
   | false=>match iW k ws with
     | true=>qc ws (k :: seen) l
     | false=>match dD (isNil g) (rZ e) with
       | true=>(k,g,e) :: qc ws (k :: seen) l
       | false=>qc ws (k :: seen) l
abbrev keepR(n:Nat) (ws seen:List Nat):List (Nat×Gd×aZ)->List (Nat×SV)
 | []=>[]
 | (k,g,e) :: l=>match iW k seen with
   | true=>keepR n ws seen l
   | false=>match iW k ws with
     | true=>keepR n ws (k :: seen) l
     | false=>match isNil g with
       | true=>match e with
         | .one (.c (.own i off))=>match Nat.ble (i+1) n with
           | true=>(k,.c (.own i off)) :: keepR n ws (k :: seen) l
           | false=>keepR n ws (k :: seen) l
         | .one (.c (.row i))=>match Nat.ble (i+1) n with
           | true=>(k,.c (.row i)) :: keepR n ws (k :: seen) l
           | false=>keepR n ws (k :: seen) l
         | _=>keepR n ws (k :: seen) l
       | false=>keepR n ws (k :: seen) l
abbrev Ey(s:St):List (Nat×SV)->Bool
 | []=>true
 | (k,.c (.own i off)) :: l=>match iF s.env k with
   | some ([],.one (.c (.own i' off')))=>dD (dD (Nat.beq i i') (Nat.beq off off')) (Ey s l)
   | _=>false
 | (k,.c (.row i)) :: l=>match iF s.env k with
   | some ([],.one (.c (.row i')))=>dD (Nat.beq i i') (Ey s l)
   | _=>false
 | _=>false
abbrev Ez:List (Nat×SV)->List (Nat×Gd×aZ)
 | []=>[]
 | (k,v) :: l=>(k,[],.one v) :: Ez l
abbrev jZ:List (Nat×ay)->List (Gd×ay)->List (Gd×ay)
 | [],T=>T
 | (i,r) :: l,T=>jZ l (cZ T i ([],r))
abbrev qx(ws:List Nat) (s:St) (sl:List (Nat×SV)) (rs:List (Nat×ay)):St:=
 { env:=fA (Ez sl) (fA (Ez (keepR (aQ s.T) ws [] s.env)) (qc ws [] s.env)),T:=jZ rs s.T,gl:=[],gs:=[] }
abbrev XU:SV->SV
 | .c x=>match x with
   | .abs (.Uj sh l)=>.c (.sl sh l)
   | x=>.c x
 | v=>v
abbrev F9(s:St):List (Nat×SV)->Prop
 | []=>True
 | (k,v) :: l=>(match iF s.env k with
   | some ([],.one u)=>XU u=v
   | _=>False)/\F9 s l
abbrev wJ(n:Nat) (T:List (Gd×ay)):Bool:=allL (λp=>dD (isNil p.1) (lF n p.2)) T
abbrev GV(n:Nat) (ws:List Nat) (sl:List (Nat×SV)):Bool:=allL (λp=>dD (y7 n p.2) (iW p.1 ws)) sl
abbrev XV(s:St) (k:Nat) (t:TypeId) (sh:Sh):St:=match iF s.env k with
 | some ([],.one (.c (.v (.slice none 0 0))))=>{ s with T:=snoc s.T ([],.row t sh []),env:=(k,[],.one (.c (.row (aQ s.T)))) :: s.env,gs:=rmG s.gs k }
 | some ([],.one (.c (.own i 0)))=>match eF s.T i with
   | some ([],.blk t' [.v (.slice none 0 0)])=>{ s with T:=cZ s.T i ([],.blk t' [.sl sh []]) }
   | _=>s
 | _=>s
abbrev Jf(s:St) (k:Nat):St:=match iF s.env k with
 | some ([],.one (.c (.row r)))=>KU s r
 | some ([],.one (.c (.abs (.Uj sh l))))=>{ s with env:=(k,[],.one (.c (.sl sh l))) :: s.env,gs:=rmG s.gs k }
 | _=>s
abbrev qX(s:St):List Nat->St
 | []=>s
 | k :: l=>qX (Jf s k) l
theorem Sat.qX{N:Nat}{B:Base}{h0:FH}{w:World}{a:Act}{β:List RV}:∀(l:List Nat){s:St}{h:FH},Sat N B h0 s h β w a->∃h',h.le h'/\Sat N B h0 (qX s l) h' β w a
 | [],s,h,aj=>⟨h,FH.le.refl h,aj⟩
 | k :: l,s,h,aj=>by
   have h1:∃h',h.le h'/\Sat N B h0 (Jf s k) h' β w a:=by
    unfold Jf;split
    .exact aj.aio _
    .rename_i sh l hk;refine⟨h,FH.le.refl h,aj.ok,?_,?_,aj.defers,aj.sz,?_,aj.gT⟩
     .intro t' G e ht;rw[bC]at ht;split at ht
      .rename_i hkt;subst hkt;cases ht;obtain⟨z,z1,z2,z3⟩:=aj.env k _ _ hk;have c:dh h β (.c (.abs (.Uj sh l))) z:=z2 rfl;exact⟨z,z1,λ_=>⟨c.1.1,c.2⟩,λhh=>by cases hh⟩
      .exact aj.env t' G e ht
     .intro d i hi;obtain⟨hne,hi⟩:=Aa _ _ _ _ hi;obtain⟨G,b,q1,q2⟩:=aj.gs d i hi;exact⟨G,b,by rw[bC,if_neg (Ne.symm hne)];exact q1,q2⟩
     .intro t' G e ht;rw[bC]at ht;split at ht
      .cases ht;rfl
      .exact aj.gb _ _ _ ht
    .exact⟨h,FH.le.refl h,aj⟩
   obtain⟨h1,le1,jl⟩:=h1;obtain⟨h2,iD,bJ⟩:=Sat.qX l jl;exact⟨h2,le1.trans iD,bJ⟩
abbrev GX(s:St):List (Nat×TypeId×Sh)->St
 | []=>s
 | (k,t,sh) :: l=>GX (XV s k t sh) l
theorem Sat.XV{N:Nat}{B:Base}{h0:FH}{s:St}{h:FH}{β:List RV}{w:World}{a:Act} (aj:Sat N B h0 s h β w a) (k:Nat) (t:TypeId) (sh:Sh):∃β',Sat N B h0 (XV s k t sh) h β' w a:=by
 unfold jf.XV;split
 .rename_i hk;obtain⟨z,z1,z2,_⟩:=aj.env k _ _ hk;have ez:z=.slice none 0 0:=(z2 rfl:dh h β (.c (.v (.slice none 0 0))) z).1.1;subst ez;have ok:OK B h0 (eff s.gl (snoc s.T ([],.row t sh []))) h (β++[.row (.slice none 0 0)]) w:=by
   rw[iP];exact aj.ok.add (r:=.row t sh []) (v:=.row (.slice none 0 0)) (bV w none) (λb hb=>by rw[bg]at hb;simp[aA]at hb) (.inl ⟨rfl,rfl⟩)
  have gT:∀p∈snoc s.T (([]:Gd),ay.row t sh []),vk s.gl.length p.1=true:=by
   intro p hp;rw[gY,FI]at hp;rcases hp with hp | hp
   .exact aj.gT p hp
   .simp at hp;subst hp;rfl
  have sm:=aj.mem ok (FH.le.refl h) (Ext.append _ _) gT;refine⟨_,ok,?_,?_,aj.defers,aj.sz,?_,gT⟩
  .intro t' G e ht;rw[bC]at ht;split at ht
   .rename_i hkt;subst hkt;cases ht;refine⟨_,z1,λ_=>⟨?_,rfl,rfl⟩,λhh=>by cases hh⟩
    refine⟨.row (.slice none 0 0),?_,rfl⟩;have:aQ s.T=β.length:=by rw[aj.ok.len,iK,bF]
    rw[this];simp
   .exact sm.env t' G e ht
  .intro d i hi;obtain⟨hne,hi⟩:=Aa _ _ _ _ hi;obtain⟨G,b,q1,q2⟩:=aj.gs d i hi;exact⟨G,b,by rw[bC,if_neg (Ne.symm hne)];exact q1,q2⟩
  .intro t' G e ht;rw[bC]at ht;split at ht
   .cases ht;rfl
   .exact aj.gb _ _ _ ht
 .rename_i i hk;split
  .rename_i t' hT;refine⟨β,?_,aj.env,aj.gs,aj.defers,aj.sz,aj.gb,?_⟩
   .show OK B h0 (eff s.gl (cZ s.T i ([],.blk t' [.sl sh []]))) h β w;rw[fP];refine aj.ok.I5 (bG hT (show gv s.gl []=true from rfl)) rfl λv hv=>?_
    cases v with
    | blk b=>
      obtain⟨ys,e1,al⟩:=hv;refine⟨ys,e1,?_⟩;cases ys with
      | nil=>exact al.elim
      | cons y ys=>
        cases ys with
        | cons _ _=>exact al.2.elim
        | nil=>
          obtain⟨⟨c,o⟩,_⟩:=al;obtain rfl:y=.slice none 0 0:=c.1;exact⟨⟨.inl ⟨rfl,rfl⟩,o⟩,trivial⟩
    | row _=>exact hv.elim
    | deep _ _=>exact hv.elim
    | no=>exact hv.elim
   .intro p hp;rw[eY]at hp;rcases Ic hp with hp | hp
    .exact aj.gT p hp
    .subst hp;rfl
  .exact⟨β,aj⟩
 .exact⟨β,aj⟩
theorem Sat.GX{N:Nat}{B:Base}{h0 h:FH}{w:World}{a:Act}:∀(l:List (Nat×TypeId×Sh)){s:St}{β:List RV},Sat N B h0 s h β w a->∃β',Sat N B h0 (GX s l) h β' w a
 | [],s,β,aj=>⟨β,aj⟩
 | (k,t,sh) :: l,s,β,aj=>by
   obtain⟨β1,jl⟩:=aj.XV k t sh;exact Sat.GX l jl
abbrev am5(body:St->(Exit->St->Prop)->Prop) (ws:List Nat) (la:LA) (s:St) (K:Exit->St->Prop):Prop:=
 (∃x,la.inv x/\F9 s (la.slots x)/\s.T=jZ (la.res x) s.T) /\
 ∀x,la.inv x->match dD (wJ (aQ s.T) (jZ (la.res x) s.T)) (GV (aQ s.T) ws (la.slots x)) with
   | false=>False
   | true=>body (qx ws s (la.slots x) (la.res x)) λe s'=>match e with
     | .normal=>match Ey (tV la.can (nI la.ren s')) (keepR (aQ s.T) ws [] s.env) with
       | true=>∃x',la.inv x'/\F9 (tV la.can (nI la.ren s')) (la.slots x')/\qG (aQ s.T) (tV la.can (nI la.ren s')).T=jZ (la.res x') s.T/\la.meas x' < la.meas x
       | false=>False
     | e=>K e s'
abbrev Jg(body:St->(Exit->St->Prop)->Prop):Nat->St->(Exit->St->Prop)->Prop
 | 0,_,_=>False
 | n+1,s,K=>body s λe s'=>match e with
   | .normal=>Jg body n s' K
   | e=>K e s'
abbrev ado(E:Env) (c:Code) (s:St):Option jv:=match E.ann (keyOf c) with
 | some f=>some (f s)
 | none=>none
abbrev Ri(s:St) (t:Nat):Int:=match iF s.env t with
 | some (_,.one (.c (.v (.int _ n))))=>n
 | _=>0
abbrev XW(s:St) (t:Nat):ByteArray:=match iF s.env t with
 | some (_,.one (.c (.v (.string b))))=>b
 | _=>ByteArray.empty
abbrev slotL(sh:Sh) (s:St) (t:Nat):List sh.den:=match iF s.env t with
 | some (_,.one v)=>match Oq s sh v with
   | some l=>l
   | none=>[]
 | _=>[]
abbrev br(b:Bool) (X Y:Prop):Prop:=match b with
 | true=>X
 | false=>Y
theorem ah{b:Bool}{X Y:Prop}:br b X Y↔(b=true->X)/\(b=false->Y):=by cases b<;>simp[br]
abbrev LJ:(ps:List Nat)->(ss:List Sh)->bU ss->List (Nat×Gd×aZ)
 | p :: ps,s :: ss,d=>(p,[],.one (iG s d.1)) :: LJ ps ss d.2
 | _,_,_=>[]
abbrev wK(n:Nat):List Nat->List Sh->Bool
 | [],[]=>true
 | p :: ps,_ :: ss=>dD (dD (Nat.ble (p+1) n) (!(iW p ps))) (wK n ps ss)
 | _,_=>false
abbrev rdE(ws dr:List Nat) (s:St):List (Nat×Gd×aZ):=fA (Ez (keepR (aQ s.T) ws [] s.env)) (qc dr [] s.env)
abbrev O4(n:Nat) (body:St->(Exit->St->Prop)->Prop) (ws:List Nat) (ra:RA) (ps:List Nat) (ss:List Sh) (L:List (bU ss)) (s:St) (K:Exit->St->Prop):Prop:=
 match wK n ps ss with
 | false=>False
 | true=>
 (∃x,ra.inv 0 x/\s.T=jZ (ra.res x) s.T) /\
 (∀i x d,ra.inv i x->L[i]?=some d->match wJ (aQ s.T) (jZ (ra.res x) s.T) with
  | false=>False
  | true=>body { env:=fA (LJ ps ss d) (rdE ws (fA ra.drop ps) s),T:=jZ (ra.res x) s.T,gl:=[],gs:=[] } λe s'=>match Ey s' (keepR (aQ s.T) ws [] s.env) with
    | false=>False
    | true=>match e with
      | .normal=>∃x',ra.inv (i+1) x'/\qG (aQ s.T) s'.T=jZ (ra.res x') s.T
      | .ret=>K .ret { env:=rdE ws ra.drop s,T:=s'.T,gl:=s'.gl,gs:=[] }
      | .exit j=>K (.exit j) { env:=rdE ws ra.drop s,T:=s'.T,gl:=s'.gl,gs:=[] }
      | _=>False) /\
 ∀x,ra.inv (aQ L) x->match wJ (aQ s.T) (jZ (ra.res x) s.T) with
   | false=>False
   | true=>K .normal { env:=rdE ws ra.drop s,T:=jZ (ra.res x) s.T,gl:=[],gs:=[] }
abbrev tJ(s:St) (FP tY:List Nat) (nl:List (Nat×TypeId×Sh)) (rX:List (Nat×Nat×TypeId×Sh)) (dp:List (Nat×TypeId×Sh×Nat)):St:=vP (GL (GX (Am (qX s FP) tY) nl) rX) dp
theorem Sat.tJ{N:Nat}{B:Base}{h0 h:FH}{w:World}{a:Act}{s:St}{β:List RV} (aj:Sat N B h0 s h β w a) (FP tY:List Nat) (nl:List (Nat×TypeId×Sh)) (rX:List (Nat×Nat×TypeId×Sh)) (dp:List (Nat×TypeId×Sh×Nat)):∃h' β',h.le h'/\Sat N B h0 (tJ s FP tY nl rX dp) h' β' w a:=by
 obtain⟨h1,le1,jl⟩:=Sat.qX FP aj;obtain⟨h2,β2,iD,bJ⟩:=Sat.Am (l:=tY) jl;obtain⟨β3,O5⟩:=Sat.GX nl bJ;obtain⟨β4,XY⟩:=Sat.GL rX O5;obtain⟨β5,apv⟩:=Sat.vP dp XY;exact⟨h2,β5,le1.trans iD,apv⟩
abbrev xO:Nat->St->St
 | 0,s=>s
 | n+1,s=>xO n { s with T:=snoc s.T ([],.gone) }
theorem Sat.xO{N:Nat}{B:Base}{h0 h:FH}{w:World}{a:Act}:∀(n:Nat){s:St}{β:List RV},Sat N B h0 s h β w a->∃β',Sat N B h0 (xO n s) h β' w a
 | 0,s,β,aj=>⟨β,aj⟩
 | n+1,s,β,aj=>by
   refine Sat.xO n (β:=β++[.no]) (s:={ s with T:=snoc s.T ([],.gone) }) ?_
   refine aj.mem ?_ (FH.le.refl h) (Ext.append _ _) λp hp=>?_
   .rw[iP];exact aj.ok.add (r:=.gone) (v:=.no) (bV w none) (λb hb=>(N7 hb).elim) trivial
   .rw[gY,FI]at hp;rcases hp with hp | hp
    .exact aj.gT p hp
    .simp at hp;subst hp;rfl
abbrev apw(E:Env) (c:Code) (s:St):Option LA:=match ado E c s with
 | some (.cut la)=>some la
 | _=>none
abbrev am6(ws:List Nat) (la:LA) (s s':St):Prop:=match Ey (tV la.can (nI la.ren (tJ s' la.FP la.tY la.nil la.rX la.deep))) (keepR (aQ s.T) ws [] s.env) with
 | true=>∃v,la.inv v/\F9 (tV la.can (nI la.ren (tJ s' la.FP la.tY la.nil la.rX la.deep))) (la.slots v)/\qG (aQ s.T) (tV la.can (nI la.ren (tJ s' la.FP la.tY la.nil la.rX la.deep))).T=jZ (la.res v) s.T
 | false=>False
abbrev jm:Env->Code->St->(Exit->St->Prop)->Prop
 | E,.skip,s,K=>K .normal s
 | E,.region _ ops draw,s,K=>match Cj (tl ops) with
   | false=>False
   | true=>match draw with
     | false=>adi E (tl ops) (tl ops) s λs=>K .normal (clean s)
     | true=>match Ar E.cx (tl ops) with
       | true=>match adl ops with
         | true=>U9 E (tl ops) (tl ops) s λs=>K .normal (clean s)
         | false=>False
       | false=>match orB E.cx.rt (LG E (tl ops)) with
         | true=>match y5 ops with
           | some l=>qw E (tl ops) l s λs=>K .normal (clean s)
           | none=>False
         | false=>match vT ops with
           | some l=>qW E (tl ops) l s λs=>K .normal (clean s)
           | none=>False
 | E,.seq x y,s,K=>match apw E y s with
   | some la=>(jm E x (xO la.pad s) λe s'=>match e with
    | .normal=>am6 (fA la.drop (writes x)) la (xO la.pad s) s'
    | e=>K e s')/\∀v,la.inv v->match dD (wJ (aQ (xO la.pad s).T) (jZ (la.res v) (xO la.pad s).T)) (GV (aQ (xO la.pad s).T) (fA la.drop (writes x)) (la.slots v)) with
      | false=>False
      | true=>jm E y (qx (fA la.drop (writes x)) (xO la.pad s) (la.slots v) (la.res v)) K
   | none=>jm E x s λe s'=>match e with
     | .normal=>jm E y s' K
     | e=>K e s'
 | E,.cond c x y,s,K=>match bM E.cx s [] c with
   | some (.one (.c (.v (.bool b))))=>br b (jm E x s K) (jm E y s K)
   | _=>False
 | E,.block id c,s,K=>jm E c s λe s'=>match e with
   | .exit i=>match Nat.beq i id with
     | true=>K .normal s'
     | false=>K (.exit i) s'
   | e=>K e s'
 | E,.loop c,s,K=>match ado E c s with
   | some (.inv la)=>am5 (jm E c) (fA la.drop (writes c)) la (xO la.pad (tJ s la.FP la.tY la.nil la.rX la.deep)) K
   | some (.Ej n)=>Jg (jm E c) n s K
   | _=>False
 | E,.rangeFunc g ps FQ c,s,K=>match E.rd with
   | true=>False
   | false=>match bM E.cx s [] g with
     | some (.one (.c (.abs (.seq P' ss L))))=>match ado E c s with
       | some (.rng ra)=>E.P=some P'/\O4 E.n (λs K=>jm { E with rd:=true } FQ s λe s'=>match e with
         | .normal=>jm { E with rd:=true } c s' K
         | _=>False) (fA ra.drop (fA (tl ps) (fA (writes FQ) (writes c)))) ra (tl ps) ss L (tJ s ra.FP ra.tY ra.nil ra.rX ra.deep) K
       | _=>False
     | _=>False
 | E,.exit i,s,K=>K (.exit i) s
 | E,.ret,s,K=>K .ret s
 | _,_,_,_=>False
abbrev xQ(D:Nat):Deferred:={ target:=.collected D,args:=#[] }
theorem adq(w:World) (a b:Obj) (G:Nat->Prop):Gs G w ((w.alloc a).alloc b):=
 ⟨rfl,rfl,rfl,by simp;omega,pz _,λk hk _=>by
  rw[Below.heap_alloc _ _ _ (by simp;omega),Below.heap_alloc _ _ _ hk]⟩
def aiL(A:World) (l D:Nat) (G:Nat->Prop) (I:World->Prop) (Ix:Code->World->Prop):Exit->Act->World->Prop
 | .normal,_,A'=>(∀b,b=l\/b=D\/G b->A'.heap[b]?=A.heap[b]?)/\I A'
 | .ret,_,A'=>(∀b,b=l\/b=D\/G b->A'.heap[b]?=A.heap[b]?)/\Ix .ret A'
 | .exit id,_,A'=>(∀b,b=l\/b=D\/G b->A'.heap[b]?=A.heap[b]?)/\Ix (.exit id) A'
 | .goto t,_,_=>False
 | .panic _,_,_=>False
 | .outgrown,_,_=>False
theorem Va{ss:List Sh}{L:List (bU ss)}{g:Operand}{ps:Array Tmp}{FQ:Code}
 (gv:Gives P h ss L (a.eval g)) (hps:ps.size=ss.length)
 (I:Nat->(Nat->Prop)->World->Prop) (Ix:Code->(Nat->Prop)->World->Prop) (hI:∀i G A,I i G A->HW h A) (hX:∀c G A,Ix c G A->HW h A)
 (hIg:∀i G G' A A',I i G A->Gs G A A'->Own' G G' A A'->I i G' A') (hXg:∀c G G' A A',Ix c G A->Gs G A A'->Own' G G' A A'->Ix c G' A')
 (hIp:∀i G A l o o',I i G A->w.heap.size<=l->A.heap[l]?=some o->ours o=false->I i G (A.putObj l o'))
 (hXp:∀c G A l o o',Ix c G A->w.heap.size<=l->A.heap[l]?=some o->ours o=false->Ix c G (A.putObj l o'))
 (h0:I 0 (λ_=>False) w)
 (hbody:∀(i:Nat) (d:bU ss) (vs:List Value) (G:Nat->Prop) (A:World) (l:Nat) (o1 Vb o2:Obj),L[i]?=some d->Bf h ss d vs->I i G A->w.heap.size < l->A.heap[l]?=some o1->ours o1=false->ours Vb=false->A.heap[w.heap.size]?=some o2->ours o2=false->¬G l ->
  FQ.wpIn (Fence.wide.inRound l) 0 P (Exit.then (λa1 A1=>(∀b,b=l\/b=w.heap.size\/G b->A1.heap[b]?=A.heap[b]?) /\
   body.wpIn (Fence.wide.inRound l) 0 P (aiL (A1.putObj l Vb) l w.heap.size G (I (i+1) G) (λc=>Ix c G)) a1 (A1.putObj l Vb)) (λ_ _ _=>False)) { tmps:=(ps.zip vs.toArray).foldl (λt (p,v)=>t.setIfInBounds p v) a.tmps,defers:=[] } A)
 (hdone:∀G A,I L.length G A->A.heap[w.heap.size]?=some (.deferred (some []))->Q .normal { a with defers:=xQ w.heap.size :: a.defers } A)
 (hret:∀G A,Ix .ret G A->A.heap[w.heap.size]?=some (.deferred (some []))->Q .ret { a with defers:=xQ w.heap.size :: a.defers } A)
 (am7:∀j G A,Ix (.exit j) G A->A.heap[w.heap.size]?=some (.deferred (some []))->Q (.exit j) { a with defers:=xQ w.heap.size :: a.defers } A):
 (Code.rangeFunc g ps FQ body).wpIn Fence.wide n P Q a w:=by
 refine wpIn_rangeFunc λfn hfn=>?_
 obtain⟨gf,lb,hg,⟨fng,hfg,hbg,hng⟩,gives⟩:=gv;obtain⟨rec,hrec⟩:∃rec:LoopState->Option Code->Loop,rec=λst pe=>{ state:=st,pending:=pe,fn,tmps:=a.tmps,params:=ps,assign:=FQ,body,defers:=w.heap.size }:=⟨_,rfl⟩
 obtain⟨W1,hW1⟩:∃W1,(w.alloc (.deferred (some []))).alloc (.loop (rec .ready none))=W1:=⟨_,rfl⟩;have hL1:W1.heap[w.heap.size+1]?=some (.loop (rec .ready none)):=by
  rw[<-hW1];have:=World.alloc_heap_new (w.alloc (.deferred (some []))) (.loop (rec .ready none));rwa [World.size_alloc]at this
 have hD1:W1.heap[w.heap.size]?=some (.deferred (some [])):=by
  rw[<-hW1];exact(Below.heap_alloc _ _ _ (by simp)).trans (World.alloc_heap_new w _)
 have hI1:I 0 (λ_=>False) W1:=hIg 0 _ _ _ _ h0 (by rw[<-hW1];exact adq w _ _ _) (λb hb=>hb.elim)
 have kd:∀{G G':Nat->Prop}{A A':World}{k:Nat}{o:Obj},A.heap[k]?=some o->¬G k->Gs G A A'->Own' G G' A A'->A'.heap[k]?=some o/\¬G' k:=λhk hn hgs ho=>
  ⟨(hgs.block _ (Dh.1 hk).1 hn).trans hk,λhh=>by
    have h1:=(Dh.1 hk).1;rcases(ho _ hh).2 with h2 | h2
    .exact hn h2
    .omega⟩
 refine⟨w.heap.size+1,[xQ w.heap.size],W1,{ target:=.fn (.func gf) lb,args:=#[.func (.yield (w.heap.size+1)) #[] #[]] },W1,gf,
  #[.func (.yield (w.heap.size+1)) #[] #[]]++lb,W1,?_,?_,?_,?_,λhh=>(by cases hh),?_⟩
 .rw[<-hW1,hrec];exact run_enterLoop_outer _ _ _ _ _
 .simp only[resolve,hg];simp[go_sem]
 .intro f' hf';trivial
 .have e:(callFunc gf (#[.func (.yield (w.heap.size+1)) #[] #[]]++lb)).run P W1=.ok (.enter gf (#[.func (.yield (w.heap.size+1)) #[] #[]]++lb)) W1:=by
   simp only[callFunc,Sem.run_bind,run_program,Result.andThen_ok,hfg,hng];simp[hbg];cases hb:fng.body with
   | none=>rw[hb]at hbg;cases hbg
   | some _=>simp
  simp[invoke,go_sem,e]
 .have hc:=gives (w.heap.size+1)
   (λi G A=>match i with
    | some i=>I i G A/\(A.heap[w.heap.size+1]?=some (.loop (rec .ready none))/\¬G (w.heap.size+1))/\(A.heap[w.heap.size]?=some (.deferred (some []))/\¬G w.heap.size)
    | none=>∃c,(c=.ret\/∃j,c=.exit j)/\Ix c G A/\(A.heap[w.heap.size+1]?=some (.loop (rec .done (some c)))/\¬G (w.heap.size+1))/\(A.heap[w.heap.size]?=some (.deferred (some []))/\¬G w.heap.size)) W1
   (λi G A x=>by
    cases i with
    | some i=>exact hI i G A x.1
    | none=>obtain⟨c,_,x1,_⟩:=x;exact hX c G A x1)
   (λi G G' A A' x hgs ho=>by
    cases i with
    | some i=>exact⟨hIg i _ _ _ _ x.1 hgs ho,kd x.2.1.1 x.2.1.2 hgs ho,kd x.2.2.1 x.2.2.2 hgs ho⟩
    | none=>
      obtain⟨c,hc,x1,x2,x3⟩:=x;exact⟨c,hc,hXg c _ _ _ _ x1 hgs ho,kd x2.1 x2.2 hgs ho,kd x3.1 x3.2 hgs ho⟩)
   (λi d vs G A hd hv x=>by
    obtain⟨x1,⟨x2,y2n⟩,x3,y3n⟩:=x;have iQ:w.heap.size+1 < A.heap.size:=(Dh.1 x2).1;have hvl:vs.length=ss.length:=by
     have:∀{ss:List Sh}{d:bU ss}{vs:List Value},Bf h ss d vs->vs.length=ss.length:=by
      intro ss
      induction ss with
      | nil=>intro d vs x;cases vs with | nil=>rfl | cons _ _=>exact x.elim
      | cons s l ih=>intro d vs x;cases vs with | nil=>exact x.elim | cons v vs=>simp[ih x.2]
     exact this hv
    have hy:=run_yield (P:=P) (args:=vs.toArray) x2 (by rw[hrec];simp[hps,hvl])
    rw[hrec]at hy;refine⟨fn,_,FQ,body,hy,(roundIn_of_wpIn (F:=Fence.wide) (n:=0) trivial ?_:RoundIn Fence.wide _ P _ _ _ _ _ _ _)⟩;refine wpIn_mono (hbody i d vs G A (w.heap.size+1) _ (.loop { rec .ready none with state:=.busy }) _ hd hv x1 (by omega) x2 rfl rfl x3 rfl y2n) ?_
    intro e0 a1 A1 h1;cases e0 with
    | exit j=>exact h1
    | goto j=>exact h1
    | ret=>exact h1
    | panic c=>exact h1
    | outgrown=>exact h1
    | normal=>
    obtain⟨k1,h1⟩:=h1;have z2:A1.heap[w.heap.size+1]?=some (.loop (rec .ready none)):=(k1 _ (.inl rfl)).trans x2;have z3:A1.heap[w.heap.size]?=some (.deferred (some [])):=(k1 _ (.inr (.inl rfl))).trans x3;have hlt1:w.heap.size+1 < A1.heap.size:=(Dh.1 z2).1;refine⟨_,run_beginRound z2 (by rw[hrec]),?_⟩
    have y2:(A1.putObj (w.heap.size+1) (.loop { rec .ready none with state:=.busy })).heap[w.heap.size+1]?=some (.loop { rec .ready none with state:=.busy }):=World.putObj_heap_same hlt1
    have y3:(A1.putObj (w.heap.size+1) (.loop { rec .ready none with state:=.busy })).heap[w.heap.size]?=some (.deferred (some [])):=(World.putObj_heap_other (by omega)).trans z3
    have fin:∀(jump:Option Code) (A3:World),A3.heap[w.heap.size+1]?=some (.loop { rec .ready none with state:=.busy })->A3.heap[w.heap.size]?=some (.deferred (some [])) ->
     (Instr.endRound (w.heap.size+1) jump).run P A3=.ok (.bool jump.isNone) (A3.putObj (w.heap.size+1) (.loop (rec (if jump.isNone then .ready else .done) jump))) /\
     (A3.putObj (w.heap.size+1) (.loop (rec (if jump.isNone then .ready else .done) jump))).heap[w.heap.size+1]?=some (.loop (rec (if jump.isNone then .ready else .done) jump)) /\
     (A3.putObj (w.heap.size+1) (.loop (rec (if jump.isNone then .ready else .done) jump))).heap[w.heap.size]?=some (.deferred (some [])):=λjump A3 h3 h4=>by
     have:=run_endRound (P:=P) jump h3;rw[hrec]at this ⊢;exact⟨this,World.putObj_heap_same (Dh.1 h3).1,(World.putObj_heap_other (by omega)).trans h4⟩
    have kg:∀(A3:World) (o':Obj),(∀b,b=w.heap.size+1\/b=w.heap.size\/G b->A3.heap[b]?=(A1.putObj (w.heap.size+1) (.loop { rec .ready none with state:=.busy })).heap[b]?)->∀b,G b->(A3.putObj (w.heap.size+1) o').heap[b]?=A.heap[b]?:=by
     intro A3 o' hk b hb;have hne:b≠w.heap.size+1:=by rintro rfl;exact y2n hb
     rw[World.putObj_heap_other hne,hk b (.inr (.inr hb)),World.putObj_heap_other hne,k1 b (.inr (.inr hb))]
    refine wpIn_mono h1 ?_;rintro e a3 A3 hp;cases e with
    | normal=>
      obtain⟨p0,p3⟩:=hp;have p1:=p0 _ (.inl rfl);have p2:=p0 _ (.inr (.inl rfl));rw[y2]at p1;rw[y3]at p2;obtain⟨q1,q2,q3⟩:=fin none A3 p1 p2;exact⟨_,_,q1,kg A3 _ p0,.inl ⟨rfl,hIp _ _ _ _ _ _ p3 (by omega) p1 rfl,⟨q2,y2n⟩,q3,y3n⟩⟩
    | ret=>
      obtain⟨p0,p3⟩:=hp;have p1:=p0 _ (.inl rfl);have p2:=p0 _ (.inr (.inl rfl));rw[y2]at p1;rw[y3]at p2;obtain⟨q1,q2,q3⟩:=fin (some .ret) A3 p1 p2;exact⟨_,_,q1,kg A3 _ p0,.inr ⟨rfl,.ret,.inl rfl,hXp _ _ _ _ _ _ p3 (by omega) p1 rfl,⟨q2,y2n⟩,q3,y3n⟩⟩
    | exit id=>
      obtain⟨p0,p3⟩:=hp;have p1:=p0 _ (.inl rfl);have p2:=p0 _ (.inr (.inl rfl));rw[y2]at p1;rw[y3]at p2;obtain⟨q1,q2,q3⟩:=fin (some (.exit id)) A3 p1 p2;exact⟨_,_,q1,kg A3 _ p0,.inr ⟨rfl,.exit id,.inr ⟨id,rfl⟩,hXp _ _ _ _ _ _ p3 (by omega) p1 rfl,⟨q2,y2n⟩,q3,y3n⟩⟩
    | goto t=>exact hp.elim
    | panic ch=>exact hp.elim
    | outgrown=>exact hp.elim)
   ⟨hI1,⟨hL1,λhh=>hh⟩,hD1,λhh=>hh⟩
  refine CallsIn.mono (F:=Fence.wide) (n:=n - 1) (callsIn_wide.2 (callsIn_wide.1 hc)) ?_;rintro e W2 ⟨⟨v,rfl⟩,G,hJ⟩;rcases hJ with⟨x1,⟨x2,_⟩,x3,_⟩ | ⟨c,hc,x1,⟨x2,_⟩,x3,_⟩
  .refine⟨none,_,by have:=run_endLoop (P:=P) x2 (by rw[hrec];simp);rw[hrec]at this;exact this,?_⟩
   exact hdone G _ (hIp _ _ _ _ _ _ x1 (by omega) x2 rfl) ((World.putObj_heap_other (by omega)).trans x3)
  .refine⟨some c,_,by have:=run_endLoop (P:=P) x2 (by rw[hrec];simp);rw[hrec]at this;exact this,?_⟩
   have y1:=hXp _ _ _ _ _ (.loop { rec .done (some c) with state:=.exhausted }) x1 (show w.heap.size<=w.heap.size+1 by omega) x2 rfl
   have y3:(W2.putObj (w.heap.size+1) (.loop { rec .done (some c) with state:=.exhausted })).heap[w.heap.size]?=some (.deferred (some [])):=(World.putObj_heap_other (by omega)).trans x3
   rw[hrec]at y1 y3;rcases hc with rfl | ⟨j,rfl⟩
   .exact wpIn_ret (hret G _ y1 y3)
   .exact wpIn_exit (am7 _ G _ y1 y3)
theorem qg:∀{l m:List (Nat×Gd×aZ)}{t:Nat},iF (fA l m) t=match iF l t with | some x=>some x | none=>iF m t
 | [],m,t=>rfl
 | (k,x) :: l,m,t=>by
   rw[show fA ((k,x) :: l) m=(k,x) :: fA l m from rfl,bC,bC]
   split
   .rfl
   .exact qg
theorem nZ:∀{l:List (Nat×SV)}{t:Nat}{G:Gd}{e:aZ},iF (Ez l) t=some (G,e)->∃v,e=.one v/\G=[]/\(t,v)∈l
 | [],_,_,_,h=>by simp[Ez,iF]at h
 | (k,v) :: l,t,G,e,h=>by
   simp only[Ez]at h;rw[bC]at h;split at h
   .rename_i hk;subst hk;cases h;exact⟨v,rfl,rfl,by simp⟩
   .obtain⟨u,h1,h2,h3⟩:=nZ h;exact⟨u,h1,h2,by simp[h3]⟩
theorem kU{ws:List Nat}:∀{l:List (Nat×Gd×aZ)}{seen:List Nat}{t:Nat}{G:Gd}{e:aZ},iF (qc ws seen l) t=some (G,e) ->
 iW t seen=false/\iW t ws=false/\iF l t=some (G,e)/\G=[]/\rZ e=true
 | [],_,_,_,_,h=>by simp[qc,iF]at h
 | (k,g,e0) :: l,seen,t,G,e,h=>by
   have skip:iF (qc ws (k :: seen) l) t=some (G,e)->iW t seen=false/\iW t ws=false/\iF ((k,g,e0) :: l) t=some (G,e)/\G=[]/\rZ e=true:=by
    intro h;obtain⟨h1,h2,h3,h4⟩:=kU h;rw[jq,l7]at h1;refine⟨h1.2,h2,?_,h4⟩;rw[bC,if_neg]
    .exact h3
    .rintro rfl;exact VY h1.1 rfl
   unfold qc at h;split at h
   .rename_i hm;obtain⟨h1,h2,h3,h4⟩:=kU h;refine⟨h1,h2,?_,h4⟩;rw[bC,if_neg]
    .exact h3
    .rintro rfl;rw[hm]at h1;cases h1
   .rename_i hm;split at h
    .exact skip h
    .rename_i hw;split at h
     .rename_i hc;rw[aB,bY]at hc;rw[bC]at h;split at h
      .rename_i hk;subst hk;cases h;refine⟨hm,hw,by rw[bC,if_pos rfl],?_,hc.2⟩
       cases g with
       | nil=>rfl
       | cons _ _=>have:=hc.1;cases this
      .exact skip h
     .exact skip h
theorem LK{s:St}:∀{l:List (Nat×SV)},F9 s l->∀p∈l,∃u,iF s.env p.1=some ([],.one u)/\XU u=p.2
 | [],_,p,hp=>by simp at hp
 | (k,v) :: l,⟨h1,h2⟩,p,hp=>by
   rcases ni.1 hp with rfl | hp
   .split at h1
    .rename_i u hu;exact⟨u,hu,h1⟩
    .cases h1
   .exact LK h2 p hp
theorem adr{u v:SV}{z:Value} (e:XU u=v) (hv:dh h β' v z\/dh h β u z) (hb:u=v->dh h β u z->dh h β' v z):dh h β' v z:=by
 rcases hv with hv | hu
 .exact hv
 .unfold XU at e;split at e
  .split at e
   .subst e;exact⟨hu.1.1,hu.2⟩
   .exact hb e hu
  .exact hb e hu
theorem qY{s:St}:∀{l:List (Nat×SV)},Ey s l=true->∀p∈l,iF s.env p.1=some ([],.one p.2)
 | [],_,p,hp=>by simp at hp
 | (k,.c (.own i off)) :: l,h,p,hp=>by
   simp only[Ey]at h;split at h
   .rename_i i' off' hu;rw[aB,aB,bY,bY]at h;rcases ni.1 hp with rfl | hp
    .have e1:=iC h.1.1;have e2:=iC h.1.2;rw[hu,e1,e2]
    .exact qY h.2 p hp
   .cases h
 | (k,.c (.row i)) :: l,h,p,hp=>by
   simp only[Ey]at h;split at h
   .rename_i i' hu;rw[aB,bY]at h;rcases ni.1 hp with rfl | hp
    .have e1:=iC h.1;rw[hu,e1]
    .exact qY h.2 p hp
   .cases h
 | (k,.c (.v _)) :: l,h,p,hp=>by cases h
 | (k,.c (.sl _ _)) :: l,h,p,hp=>by cases h
 | (k,.c (.fp _ _)) :: l,h,p,hp=>by cases h
 | (k,.c (.jS _ _ _ _)) :: l,h,p,hp=>by cases h
 | (k,.c (.abs _)) :: l,h,p,hp=>by cases h
 | (k,.c .junk) :: l,h,p,hp=>by cases h
 | (k,.agg _) :: l,h,p,hp=>by cases h
 | (k,.dat _ _) :: l,h,p,hp=>by cases h
 | (k,.und) :: l,h,p,hp=>by cases h
theorem qh{n:Nat}{ws:List Nat}:∀{l:List (Nat×Gd×aZ)}{seen:List Nat},∀p∈keepR n ws seen l,y7 n p.2=true
 | [],_,p,hp=>by simp[keepR]at hp
 | (k,g,e) :: l,seen,p,hp=>by
   unfold keepR at hp
   repeat' (split at hp)
   all_goals first
    | exact qh p hp
    | (
     rcases ni.1 hp with rfl | hp
     .assumption
     .exact qh p hp)
theorem qZ{n:Nat}{ws:List Nat}:∀{l:List (Nat×Gd×aZ)}{seen:List Nat},∀p∈keepR n ws seen l,iW p.1 seen=false/\iF l p.1=some ([],.one p.2)
 | [],_,p,hp=>by simp[keepR]at hp
 | (k,g,e) :: l,seen,p,hp=>by
   have am9:iW k seen=true->p∈keepR n ws seen l->iW p.1 seen=false/\iF ((k,g,e) :: l) p.1=some ([],.one p.2):=by
    intro hm hp;obtain⟨h1,h2⟩:=qZ p hp;refine⟨h1,?_⟩;rw[bC,if_neg]
    .exact h2
    .rintro rfl;rw[hm]at h1;cases h1
   have EC:p∈keepR n ws (k :: seen) l->iW p.1 seen=false/\iF ((k,g,e) :: l) p.1=some ([],.one p.2):=by
    intro hp;obtain⟨h1,h2⟩:=qZ p hp;rw[jq,l7]at h1;refine⟨h1.2,?_⟩;rw[bC,if_neg]
    .exact h2
    .rintro rfl;exact VY h1.1 rfl
   unfold keepR at hp;split at hp
   .rename_i hm;exact am9 hm hp
   .rename_i hm;split at hp
    .exact EC hp
    .split at hp
     .rename_i hn;have hg:g=[]:=by cases g with | nil=>rfl | cons _ _=>simp[isNil]at hn
      subst hg;split at hp
      .split at hp
       .rcases ni.1 hp with rfl | hp
        .exact⟨hm,by rw[bC,if_pos rfl]⟩
        .exact EC hp
       .exact EC hp
      .split at hp
       .rcases ni.1 hp with rfl | hp
        .exact⟨hm,by rw[bC,if_pos rfl]⟩
        .exact EC hp
       .exact EC hp
      .exact EC hp
     .exact EC hp
theorem kJ{α:Type}{l:List α} (h:i < n):(l.take n)[i]?=l[i]?:=by
 rw[uY,if_pos h]
theorem dY.below:∀{x:SC}{y:Value},CJ n x=true->dY h β x y->dY h (β.take n) x y
 | .v _,_,_,c=>c
 | .sl _ _,_,_,c=>c
 | .fp _ _,_,_,c=>c
 | .one _ _,_,_,c=>c
 | .own i _,_,f,⟨b,e,e'⟩=>⟨b,by rw[kJ (by have:=qm f;omega)];exact e,e'⟩
 | .row i,_,f,⟨v,e,e'⟩=>⟨v,by rw[kJ (by have:=qm f;omega)];exact e,e'⟩
 | .sub i _,_,f,⟨v,us,e,e'⟩=>⟨v,us,by rw[kJ (by have:=qm f;omega)];exact e,e'⟩
 | .lQ i _ _ _ _,_,f,⟨v,us,g,e,e'⟩=>⟨v,us,g,by rw[kJ (by have:=qm f;omega)];exact e,e'⟩
 | .jS i _ _ _,_,f,⟨v,g,e,e'⟩=>⟨v,g,by rw[kJ (by have:=qm f;omega)];exact e,e'⟩
 | .abs _,_,_,c=>c
 | .junk,_,_,_=>trivial
theorem dh.below{h:FH}{β:List RV}{n:Nat}:∀{x:SV}{y:Value},y7 n x=true->dh h β x y->dh h (β.take n) x y
 | .c _,_,f,c=>⟨c.1.below f,c.2⟩
 | .agg _,_,f,⟨ys,e,a⟩=>⟨ys,e,a.allL (λ_ _ f ⟨p,q⟩=>⟨p.below f,q⟩) f⟩
 | .dat _ _,_,_,c=>c
 | .und,_,_,c=>c
theorem Holds.below{h:FH}{β:List RV}{w:World}{n:Nat}:∀{r:ay}{v:RV},lF n r=true->Holds h β w r v->Holds h (β.take n) w r v
 | .blk _ _,.blk _,f,⟨ys,e,a⟩=>⟨ys,e,a.allL (λ_ _ f ⟨p,q⟩=>⟨p.below f,q⟩) f⟩
 | .row _ _ _,.row _,_,c=>c
 | .obj _ _ _,.blk _,_,c=>c
 | .deep _ _ _ _ _ _ _ _,.deep _ _,_,c=>c
 | .mp _ _ _,.row _,_,c=>c
 | .NI _ _ _ _,.deep _ _,_,c=>c
 | .it _ _ _ _,.blk _,_,c=>c
 | .Kv _ _ _ _,.row _,_,c=>c
 | .Gp _ _ _ _,.deep _ _,_,c=>c
 | .gone,_,_,_=>trivial
theorem dY.lG:∀{x:SC}{y:Value},kT x=true->dY h β x y->∀β',dY h β' x y
 | .v _,_,_,c=>λ_=>c
 | .sl _ _,_,_,c=>λ_=>c
 | .fp _ _,_,_,c=>λ_=>c
 | .abs _,_,_,c=>λ_=>c
 | .junk,_,_,_=>λ_=>trivial
 | .one _ _,_,_,c=>λ_=>c
 | .own _ _,_,f,_=>by simp[kT]at f
 | .row _,_,f,_=>by simp[kT]at f
 | .jS _ _ _ _,_,f,_=>by simp[kT]at f
 | .sub _ _,_,f,_=>by simp[kT]at f
 | .lQ _ _ _ _ _,_,f,_=>by simp[kT]at f
theorem dh.lG{h:FH}{β:List RV} (β':List RV):∀{x:SV}{y:Value},Az x=true->dh h β x y->dh h β' x y
 | .c _,_,f,c=>⟨c.1.lG f β',c.2⟩
 | .agg _,_,f,⟨ys,e,a⟩=>⟨ys,e,a.allL (λ_ _ f ⟨p,q⟩=>⟨p.lG f β',q⟩) f⟩
 | .dat _ _,_,_,c=>c
 | .und,_,_,c=>c
theorem jF.lG{h:FH}{β:List RV} (β':List RV):∀{x:aZ}{y:Value},rZ x=true->jF h β x y->jF h β' x y
 | .one _,_,f,c=>dh.lG β' f c
 | .gV _,_,f,⟨ys,e,a⟩=>⟨ys,e,a.allL (R':=dh h β') (λ_ _ f c=>dh.lG β' f c) f⟩
theorem OK.take{B:Base}{h0:FH}{T:List ay}{h:FH}{β:List RV}{w:World} (ok:OK B h0 T h β w){n:Nat} (hn:n<=T.length) (below:∀r∈T.take n,lF n r=true):OK B h0 (T.take n) h (β.take n) w where
 below:=ok.below
 dr:=ok.dr
 len:=by simp[ok.len]
 holds:=by
  intro i r v e e';have hi:i < n:=by have:=(A8.1 e).1;simp at this;omega
  have hm:=below r (iy e);rw[kJ hi]at e e';exact(ok.holds i r v e e').below hm
 own:=by
  intro i r v b e l e' hb;have hi:i < n:=by have:=(A8.1 e).1;simp at this;omega
  rw[kJ hi]at e e';exact ok.own i r v b e l e' hb
 inj:=by
  intro i j r r' u v b e l e' l' f f' hb hb';have hi:i < n:=by have:=(A8.1 e).1;simp at this;omega
  have hj:j < n:=by have:=(A8.1 e').1;simp at this;omega
  rw[kJ hi]at e f;rw[kJ hj]at e' f';exact ok.inj i j r r' u v b e l e' l' f f' hb hb'
 hle:=ok.hle
 hw:=ok.hw
 hg:=ok.hg
 kn:=ok.kn
theorem y8{α:Type}{p:α->Bool}:∀{l:List α},allL p l=true->∀x∈l,p x=true
 | [],_,x,hx=>by simp at hx
 | y :: l,h,x,hx=>by
   simp only[allL,aB,bY]at h;rcases ni.1 hx with rfl | hx
   .exact h.1
   .exact y8 h.2 x hx
theorem nS{gl:List Bool}:∀{T:List (Gd×ay)}{n:Nat},(∀p∈T.take n,p.1=[])->eff [] (T.take n)=(eff gl T).take n
 | [],n,_=>by simp[eff]
 | (g,r) :: l,0,_=>by simp[eff]
 | (g,r) :: l,n+1,h=>by
   have hg:g=[]:=h (g,r) (by simp)
   subst hg;simp only[ahT,eff];rw[nS (gl:=gl) (T:=l) λp hp=>h p (by simp[hp])]
theorem y9:∀(rs:List (Nat×ay)) (T:List (Gd×ay)),(jZ rs T).length=T.length
 | [],_=>rfl
 | (i,r) :: l,T=>by simp only[jZ];rw[y9,eY,wW]
theorem zf{s':St} (aj:Sat N B h0 s' h β w a){ws:List Nat}{sl:List (Nat×SV)}{rs:List (Nat×ay)}
 (hT:qG (aQ s.T) s'.T=jZ rs s.T) (gT:wJ (aQ s.T) (jZ rs s.T)=true) (gS:GV (aQ s.T) ws sl=true) (hE:F9 s' sl)
 (hR:∀p∈keepR (aQ s.T) ws [] s.env,iF s'.env p.1=some ([],.one p.2))
 (D:∀t e,iF (qc ws [] s.env) t=some ([],e)->∃z,a.tmps[t]?=some z/\jF h [] e z):
 Sat N B h0 (qx ws s sl rs) h (β.take (aQ s.T)) w a:=by
 have e1:=hT;rw[jI]at e1;have g1:∀p∈jZ rs s.T,p.1=[]/\lF (aQ s.T) p.2=true:=by
  intro p hp;have:=y8 gT p hp;rw[aB,bY]at this;refine⟨?_,this.2⟩;have h2:=this.1;cases hh:p.1 with
  | nil=>rfl
  | cons _ _=>rw[hh]at h2;simp[isNil]at h2
 have hlen:aQ s.T<=s'.T.length:=by
  have:=rJ List.length e1;rw[y9,kX,bF]at this;rw[bF];omega
 have look:∀{v:SV}{t:Nat},y7 (aQ s.T) v=true->iF s'.env t=some ([],.one v)->∃z,a.tmps[t]?=some z/\dh h (β.take (aQ s.T)) v z:=by
  intro v t hb hl;obtain⟨z,q1,q2,_⟩:=aj.env t [] _ hl;exact⟨z,q1,dh.below hb (q2 rfl)⟩
 have ana:∀{v:SV}{t:Nat},y7 (aQ s.T) v=true->(∃u,iF s'.env t=some ([],.one u)/\XU u=v)->∃z,a.tmps[t]?=some z/\dh h (β.take (aQ s.T)) v z:=by
  rintro v t hb ⟨u,hl,hu⟩;obtain⟨z,q1,q2,_⟩:=aj.env t [] _ hl;exact⟨z,q1,adr hu (.inr (q2 rfl)) λe c=>dh.below hb (e▸c)⟩
 refine⟨?_,?_,?_,aj.defers,aj.sz,?_,?_⟩
 .show OK B h0 (eff [] (jZ rs s.T)) h (β.take (aQ s.T)) w;rw[<-e1,nS (gl:=s'.gl) λp hp=>by rw[e1]at hp;exact(g1 p hp).1]
  refine aj.ok.take (by rw[iK];exact hlen) ?_
  rw[<-nS (gl:=s'.gl) λp hp=>by rw[e1]at hp;exact(g1 p hp).1]
  rw[e1];have:∀{l:List (Gd×ay)},(∀p∈l,p.1=[]/\lF (aQ s.T) p.2=true)->∀r∈eff [] l,lF (aQ s.T) r=true:=by
   intro l
   induction l with
   | nil=>intro _ r hr;simp[eff]at hr
   | cons q l ih=>
     obtain⟨g,r0⟩:=q;intro hh r hr;have hg:=hh (g,r0) (by simp)
     have hg1:g=[]:=hg.1;subst hg1;simp only[eff]at hr;rcases ni.1 hr with rfl | hr
     .exact hg.2
     .exact ih (λp hp=>hh p (by simp[hp])) r hr
  exact this g1
 .intro t G e ht;simp only[qx]at ht ⊢;rw[qg]at ht;split at ht
  .rename_i x hx;cases ht;obtain⟨v,rfl,rfl,hm⟩:=nZ hx;have hb:=y8 gS _ hm;rw[aB,bY]at hb;obtain⟨z,q1,q2⟩:=ana hb.1 (LK hE _ hm);exact⟨z,q1,λ_=>q2,λhh=>by cases hh⟩
  .rw[qg]at ht;split at ht
   .rename_i x hx;cases ht;obtain⟨v,rfl,rfl,hm⟩:=nZ hx;obtain⟨z,q1,q2⟩:=look (qh _ hm) (hR _ hm);exact⟨z,q1,λ_=>q2,λhh=>by cases hh⟩
   .obtain⟨_,_,_,rfl,hf⟩:=kU ht;obtain⟨z,q1,q2⟩:=D t e ht;exact⟨z,q1,λ_=>jF.lG _ hf q2,λhh=>by cases hh⟩
 .intro d i hi;cases hi
 .intro t G e ht;simp only[qx]at ht;rw[qg]at ht;split at ht
  .rename_i x hx;cases ht;obtain⟨_,_,rfl,_⟩:=nZ hx;rfl
  .rw[qg]at ht;split at ht
   .rename_i x hx;cases ht;obtain⟨_,_,rfl,_⟩:=nZ hx;rfl
   .obtain⟨_,_,_,rfl,_⟩:=kU ht;rfl
 .intro p hp;rw[(g1 p hp).1]
def Base.leB(B B':Base):Prop:=B'.toWorld=B.toWorld/\B'.al=B.al/\∀k o,B.nc k o->B'.nc k o
theorem Base.leB.refl(B:Base):B.leB B:=⟨rfl,rfl,λ_ _ h=>h⟩
theorem Base.leB.trans{A B C:Base} (x:A.leB B) (y:B.leB C):A.leB C:=⟨y.1.trans x.1,y.2.1.trans x.2.1,λk o h=>y.2.2 k o (x.2.2 k o h)⟩
def Base.XZ(r:Bool) (B B':Base):Prop:=B.leB B'/\(r=true->B'=B)
theorem Base.XZ.refl{r:Bool} (B:Base):Base.XZ r B B:=⟨.refl B,λ_=>rfl⟩
theorem Base.XZ.trans{r:Bool}{A B C:Base} (x:Base.XZ r A B) (y:Base.XZ r B C):Base.XZ r A C:=⟨x.1.trans y.1,λh=>(y.2 h).trans (x.2 h)⟩
theorem OK.O6{B':Base}{T:List ay} (ok:OK B h0 T h β w) (e:B'.toWorld=B.toWorld) (ea:B'.al=B.al) (kn:∀k o,B'.nc k o->w.heap[k]?=some o):OK B' h0 T h β w where
 below:=⟨by rw[e];exact ok.below.os,by rw[e];exact ok.below.tape,by rw[e];exact ok.below.output,by rw[e];exact ok.below.size,by rw[e,ea];exact ok.below.block⟩
 dr:=by rw[e];exact ok.dr
 len:=ok.len
 holds:=ok.holds
 own:=by rw[ea];exact ok.own
 inj:=ok.inj
 hle:=ok.hle
 hw:=ok.hw
 hg:=by rw[ea];exact ok.hg
 kn:=kn
def ownB(T:List ay) (β:List RV) (b:Nat):Prop:=∃(i:Nat) (r:ay) (v:RV),T[i]?=some r/\r.live=true/\β[i]?=some v/\v.has b
abbrev Base.rd(B:Base) (T:List ay) (β:List RV) (A:World):Base:=
 { A with nc:=B.nc,cell:=B.cell,al:=λk=>ownB T β k\/A.heap.size<=k,up:=λ_ h=>.inr h }
theorem OK.enter{T:List ay} (ok:OK B h0 T h β A):OK (B.rd T β A) h T h β A where
 below:=⟨rfl,rfl,rfl,pz _,λ_ _ _=>rfl⟩
 dr:=pz _
 len:=ok.len
 holds:=ok.holds
 own:=λi r v b e hl e' hb=>⟨.inl ⟨i,r,v,e,hl,e',hb⟩,(ok.own i r v b e hl e' hb).2⟩
 inj:=ok.inj
 hle:=FH.le.refl h
 hw:=ok.hw
 hg:=λb o v hh=>.inl hh
 kn:=ok.kn
theorem OK.leave{T:List ay} (ok:OK B h0 T h β A){T':List ay}{h':FH}{A':World}{Br:Base} (e:Br.toWorld=A) (ea:Br.al=(B.rd T β A).al) (en:∀k o,B.nc k o->Br.nc k o) (ok':OK Br h T' h' β' A'):OK B h0 T' h' β' A':=by
 have toB:∀k,Br.al k->B.al k:=by
  intro k hk;rw[ea]at hk;rcases hk with⟨i,r,v,h1,h2,h3,h4⟩ | hk
  .exact(ok.own i r v k h1 h2 h3 h4).1
  .exact B.up k (pq ok.below.size hk)
 subst e;have cell:∀k,ownB T β k->∃o,Br.heap[k]?=some o/\ours o=true:=by
  rintro k ⟨i,r,v,h1,h2,h3,h4⟩;exact(ok.holds i r v h1 h3).cells h2 h4
 refine⟨⟨ok'.below.os.trans ok.below.os,ok'.below.tape.trans ok.below.tape,ok'.below.output.trans ok.below.output,pq ok.below.size ok'.below.size,λk hk ha=>?_⟩,pq ok.dr ok'.dr,ok'.len,ok'.holds,
  λi r v b e1 l1 e2 hb=>⟨toB b (ok'.own i r v b e1 l1 e2 hb).1,(ok'.own i r v b e1 l1 e2 hb).2⟩,ok'.inj,ok.hle.trans ok'.hle,ok'.hw,λb o v hh=>?_,λk o hk=>ok'.kn k o (en k o hk)⟩
 .exact(ok'.below.block k (NP hk ok.below.size) (λhh=>ha (toB k hh))).trans (ok.below.block k hk ha)
 .rcases ok'.hg b o v hh with h1 | h1
  .exact ok.hg b o v h1
  .exact .inr (toB b h1)
theorem OK.gs{B:Base}{h0:FH}{T:List ay}{h:FH}{β:List RV}{A A':World} (ok:OK B h0 T h β A){G:Nat->Prop} (gs:Gs G A A') (hB:∀k,G k->B.heap.size<=k) (hO:∀k,ownB T β k->¬G k) (hF:∀k o v,h k o=some v->¬G k) (hN:∀k o,B.nc k o->¬G k):OK B h0 T h β A':=by
 have cl:∀b o v,h b o=some v->vis A' b o=some v:=by
  intro b o v hh;have h1:=ok.hw b o v hh;exact(jR (gs.block b (oz h1) (hF b o v hh))).trans h1
 exact {
  below:=⟨gs.os.trans ok.below.os,gs.tape.trans ok.below.tape,gs.output.trans ok.below.output,pq ok.below.size gs.size,λk hk ha=>(gs.block k (NP hk ok.below.size) (λhg=>by have:=hB k hg;omega)).trans (ok.below.block k hk ha)⟩
  dr:=pq ok.dr gs.dr
  len:=ok.len
  holds:=λi r v e e'=>(ok.holds i r v e e').move (FH.le.refl h) (Ext.refl _) λhl b hb=>gs.block b (ok.own i r v b e hl e' hb).2.1 (hO b ⟨i,r,v,e,hl,e',hb⟩)
  own:=λi r v b e hl e' hb=>by
   obtain⟨h1,h2,h3⟩:=ok.own i r v b e hl e' hb;exact⟨h1,NP h2 gs.size,h3⟩
  inj:=ok.inj
  hle:=ok.hle
  hw:=cl
  hg:=ok.hg
  kn:=λk o hk=>by
   have h1:=ok.kn k o hk;exact(gs.block k (Dh.1 h1).1 (hN k o hk)).trans h1 }
theorem OK.turn{T:List ay} (ok:OK B h0 T h β w){l:Nat}{o o':Obj} (hB:B.al l) (hn:∀k u,B.nc k u->k≠l) (hl:w.heap[l]?=some o) (ho:ours o=false):OK B h0 T h β (w.putObj l o'):=by
 have cl:∀{b i:Nat}{v:Value},vis w b i=some v->vis (w.putObj l o') b i=some v:=by
  intro b i v hv;have hne:b≠l:=by
   intro e;unfold vis at hv;rw[e,hl]at hv;cases o<;>simp_all[ours]
  exact(jR (World.putObj_heap_other hne)).trans hv
 exact {
  below:=ok.below.grown (row:=some l) ⟨rfl,rfl,rfl,by simp,λk _ hk=>World.putObj_heap_other (λe=>hk (by rw[e]))⟩ (λk e=>by cases e;exact hB)
  dr:=ok.dr
  len:=ok.len
  holds:=λi r v e e'=>(ok.holds i r v e e').move (FH.le.refl h) (Ext.refl _) λhlv b hb=>World.putObj_heap_other (by
   rintro rfl;obtain⟨o1,h1,h2⟩:=(ok.holds i r v e e').cells hlv hb;rw[hl]at h1;cases h1;rw[ho]at h2;cases h2)
  own:=λi r v b e hlv e' hb=>by
   obtain⟨h1,h2,h3⟩:=ok.own i r v b e hlv e' hb;exact⟨h1,by simpa using h2,h3⟩
  inj:=ok.inj
  hle:=ok.hle
  hw:=λb o v hh=>cl (ok.hw b o v hh)
  hg:=ok.hg
  kn:=λk u hk=>(World.putObj_heap_other (hn k u hk)).trans (ok.kn k u hk) }
theorem zh{n:Nat}{ws:List Nat}:∀{l:List (Nat×Gd×aZ)}{seen:List Nat},∀p∈keepR n ws seen l,iW p.1 ws=false
 | [],_,p,hp=>by simp[keepR]at hp
 | (k,g,e) :: l,seen,p,hp=>by
   unfold keepR at hp
   repeat' (split at hp)
   all_goals first
    | exact zh p hp
    | (
     rcases ni.1 hp with rfl | hp
     .assumption
     .exact zh p hp)
theorem uO(h:wJ n T=true):∀p∈T,p.1=[]/\lF n p.2=true:=by
 intro p hp;have:=y8 h p hp;rw[aB,bY]at this;refine⟨?_,this.2⟩;have h2:=this.1;cases hh:p.1 with
 | nil=>rfl
 | cons _ _=>rw[hh]at h2;simp[isNil]at h2
theorem Rj{gl:List Bool}:∀{T:List (Gd×ay)},(∀p∈T,p.1=[])->eff [] T=eff gl T
 | [],_=>rfl
 | (g,r) :: l,h=>by
   have hg:g=[]:=h (g,r) (by simp)
   subst hg;simp only[eff];rw[Rj (gl:=gl) (T:=l) λp hp=>h p (by simp[hp])]
theorem Jh(aj:Sat N B h0 s h β w a){ws dr:List Nat}{h':FH} (le:h.le h')
 (refs:∀p∈keepR (aQ s.T) ws [] s.env,∃z,a.tmps[p.1]?=some z/\dh h' β' p.2 z):∀t G e,iF (rdE ws dr s) t=some (G,e)->G=[]/\(iW t ws=false\/iW t dr=false)/\∃z,a.tmps[t]?=some z/\jF h' β' e z:=by
 intro t G e ht;simp only[rdE]at ht;rw[qg]at ht;split at ht
 .rename_i x hx;cases ht;obtain⟨v,rfl,rfl,hm⟩:=nZ hx;obtain⟨z,q1,q2⟩:=refs _ hm;exact⟨rfl,.inl (zh _ hm),z,q1,q2⟩
 .obtain⟨_,hd,hl,rfl,hf⟩:=kU ht;obtain⟨z,q1,q2,_⟩:=aj.env t [] e hl;exact⟨rfl,.inr hd,z,q1,(jF.lG β' hf (q2 rfl)).mono le (Ext.refl _)⟩
theorem X0{B':Base} (aj:Sat N B h0 s h β w a){ws dr:List Nat}{h':FH}{a':Act} (le:h.le h')
 (refs:∀p∈keepR (aQ s.T) ws [] s.env,∃z,a.tmps[p.1]?=some z/\dh h' β' p.2 z){gl:List Bool} (ok:OK B' h0 (eff gl T) h' β' A) (gT:∀p∈T,vk gl.length p.1=true) (ht:a'.tmps=a.tmps) (df:N8 B' a'):
 Sat N B' h0 { env:=rdE ws dr s,T:=T,gl:=gl,gs:=[] } h' β' A a' where
 ok:=ok
 env:=λt G e h1=>by
  obtain⟨rfl,_,z,q1,q2⟩:=Jh aj le refs t G e h1;exact⟨z,by rw[ht];exact q1,λ_=>q2,λhh=>by cases hh⟩
 gs:=λd i hi=>by cases hi
 defers:=df
 sz:=by rw[ht];exact aj.sz
 gb:=λt G e h1=>by
  obtain⟨rfl,_⟩:=Jh aj le refs t G e h1;rfl
 gT:=gT
theorem fold_size:∀(l:List (Nat×Value)) (t:Array Value),(l.foldl (λt (p:Nat×Value)=>t.setIfInBounds p.1 p.2) t).size=t.size
 | [],_=>rfl
 | _ :: l,t=>by simp only[Ii];rw[fold_size l];simp
theorem xR{k:Nat}:∀(l:List (Nat×Value)) (t:Array Value),(∀p∈l,p.1≠k)->(l.foldl (λt (p:Nat×Value)=>t.setIfInBounds p.1 p.2) t)[k]?=t[k]?
 | [],_,_=>rfl
 | (p,v) :: l,t,h=>by
   simp only[Ii];rw[xR l _ λq hq=>h q (by simp[hq])]
   exact ahM (h (p,v) (by simp))
theorem EF(ps:Array Tmp) (vs:List Value) (t:Array Value):(ps.zip vs.toArray).foldl (λt (p,v)=>t.setIfInBounds p v) t=((tl ps).zip vs).foldl (λt (p:Nat×Value)=>t.setIfInBounds p.1 p.2) t:=by
 cases ps with
 | mk l=>simp
theorem X3{h:FH}{n:Nat}:∀{ps:List Nat}{ss:List Sh}{d:bU ss}{vs:List Value}{t:Array Value},t.size=n->wK n ps ss=true->Bf h ss d vs ->
 (∀k G e,iF (LJ ps ss d) k=some (G,e)->G=[]/\∃z,((ps.zip vs).foldl (λt (p:Nat×Value)=>t.setIfInBounds p.1 p.2) t)[k]?=some z/\∀β,jF h β e z) /\
 (∀k,iF (LJ ps ss d) k=none->iW k ps=false)
 | [],[],d,vs,t,_,_,_=>⟨λk G e hh=>by simp[LJ,iF]at hh,λk _=>rfl⟩
 | [],_ :: _,d,vs,t,_,hp,_=>by simp[wK]at hp
 | _ :: _,[],d,vs,t,_,hp,_=>by simp[wK]at hp
 | p :: ps,s :: ss,d,vs,t,hn,hp,hv=>by
   cases vs with
   | nil=>exact hv.elim
   | cons v vs=>
     simp only[wK,aB,bY]at hp;obtain⟨⟨hp1,hp2⟩,hp3⟩:=hp;have hp2:iW p ps=false:=by simpa using hp2
     have hp1:=qm hp1;obtain⟨i1,i2⟩:=X3 (t:=t.setIfInBounds p v) (by simp[hn]) hp3 hv.2
     have hnot:∀q∈ps.zip vs,q.1≠p:=by
      intro q hq e;have hm:q.1∈ps:=(List.of_mem_zip hq).1;rw[e]at hm;have:∀{l:List Nat},p∈l->iW p l=true:=by
       intro l
       induction l with
       | nil=>intro h;cases h
       | cons x l ih=>
         intro h;rw[jq];rcases ni.1 h with rfl | h
         .simp
         .rw[ih h];simp
      rw[this hm]at hp2;cases hp2
     refine⟨λk G e hh=>?_,λk hh=>?_⟩
     .simp only[LJ]at hh;rw[bC]at hh;split at hh
      .rename_i hk;subst hk;cases hh;refine⟨rfl,v,?_,λβ=>?_⟩
       .simp only[List.zip_cons_cons,Ii];rw[xR _ _ hnot];rw[Array.getElem?_setIfInBounds_self_of_lt (by omega)]
       .obtain⟨cs,rfl,r⟩:=hv.1;exact jh s r
      .simpa only[List.zip_cons_cons,Ii]using i1 k G e hh
     .simp only[LJ]at hh;rw[bC]at hh;split at hh
      .cases hh
      .rename_i hk;rw[jq,i2 k hh,Bool.or_false];cases hb:Nat.beq k p with
       | false=>rfl
       | true=>exact absurd (iC hb).symm hk
def Apt(n:Nat) (T:List ay) (h:FH) (β:List RV) (G:Nat->Prop):Prop:=(∀b,G b->n<=b)/\(∀b,ownB T β b->¬G b)/\∀b o v,h b o=some v->¬G b
theorem GY{T:List ay}{G:Nat->Prop} (ok':OK B h0 T h β A) (ap:Apt n T h β G) (apb:∀b,G b->b < A.heap.size)
 {B2:Base}{s2:St}{h2:FH}{β2:List RV}{A2:World}{a2:Act} (zV:(B.rd T β A).leB B2) (bJ:Sat N B2 h s2 h2 β2 A2 a2):
 OK B h0 (eff s2.gl s2.T) h2 β2 A2/\Apt n (eff s2.gl s2.T) h2 β2 G/\A.heap.size<=A2.heap.size/\(∀k,k < A.heap.size->¬ownB T β k->A2.heap[k]?=A.heap[k]?) /\
  (∀k o,A.heap[k]?=some o->ours o=false->¬ownB T β k):=by
 have same:∀k,k < A.heap.size->¬ownB T β k->A2.heap[k]?=A.heap[k]?:=by
  intro k hk hn;have h1:=bJ.ok.below;have h2:=zV.1;have h3:B2.al k↔(ownB T β k\/A.heap.size<=k):=by rw[zV.2.1]
  have h4:=h1.block k (by rw[h2];exact hk) (λhh=>by rcases h3.1 hh with hh | hh<;>first | exact hn hh | omega)
  rw[h2]at h4;exact h4
 refine⟨ok'.leave zV.1 zV.2.1 zV.2.2 bJ.ok,⟨ap.1,?_,?_⟩,?_,same,?_⟩
 .rintro b ⟨i,r,v,e1,e2,e3,e4⟩ hb;have hh:=(bJ.ok.own i r v b e1 e2 e3 e4).1;rw[zV.2.1]at hh;rcases hh with hh | hh
  .exact ap.2.1 b hh hb
  .have:=apb b hb;omega
 .intro b o v hh hb;rcases bJ.ok.hg b o v hh with h1 | h1
  .exact ap.2.2 b o v h1 hb
  .rw[zV.2.1]at h1;rcases h1 with h1 | h1
   .exact ap.2.1 b h1 hb
   .have:=apb b hb;omega
 .have:=bJ.ok.below.size;rw[zV.1]at this;exact this
 .rintro k o hk ho ⟨i,r,v,e1,e2,e3,e4⟩;obtain⟨o',q1,q2⟩:=(ok'.holds i r v e1 e3).cells e2 e4;rw[hk]at q1;cases q1;rw[ho]at q2;cases q2
theorem X4{FQ c:Code} (rec:∀(c':Code),c'=FQ\/c'=c->∀(h0:FH) (E:Env) (B:Base) (s:St) (h:FH) (β:List RV) (w:World) (a:Act) (K:Exit->St->Prop) (Q:Exit->Act->World->Prop) (l:Nat),gI P E->aI E.cx.gd h0->E.rd=true->Sat E.n B h0 s h β w a ->
 jm E c' s K->(∀e s' h' β' w' a' B',Base.XZ E.rd B B'->K e s'->h.le h'->Sat E.n B' h0 s' h' β' w' a'->Same (writes c') a a'->Q e a' w')->c'.wpIn (Fence.wide.inRound l) 0 P Q a w)
 (ok:gI P E) (hg:aI E.cx.gd h0){K:Exit->St->Prop} (aj:Sat E.n B h0 s h β w a)
 {g:Operand}{ss:List Sh}{L:List (bU ss)} (gv:Gives P h ss L (a.eval g)){ps:Array Tmp}{ra:RA}
 (k:O4 E.n (λs K=>jm { E with rd:=true } FQ s λe s'=>match e with
  | .normal=>jm { E with rd:=true } c s' K
  | _=>False) (fA ra.drop (fA (tl ps) (fA (writes FQ) (writes c)))) ra (tl ps) ss L s K)
 (hrd:E.rd=false) (next:∀e s' h' β' w' a' B',Base.XZ E.rd B B'->K e s'->h.le h'->Sat E.n B' h0 s' h' β' w' a'->Same [] a a'->Q e a' w'):(Code.rangeFunc g ps FQ c).wpIn Fence.wide n P Q a w:=by
 unfold O4 at k;split at k
 .cases k
 rename_i hpar;obtain⟨⟨x0,i0,t0⟩,kr,kd⟩:=k;obtain⟨ws,hws⟩:∃ws,ws=fA ra.drop (fA (tl ps) (fA (writes FQ) (writes c))):=⟨_,rfl⟩;rw[<-hws]at kr kd;have good:∀i x,i<=L.length->ra.inv i x->wJ (aQ s.T) (jZ (ra.res x) s.T)=true:=by
  intro i x hi hx;cases hd:L[i]? with
  | some d=>
    have:=kr i x d hx hd;split at this
    .cases this
    .rename_i hh;exact hh
  | none=>
    have he:i=aQ L:=by rw[bF];have:=List.getElem?_eq_none_iff.1 hd;omega
    subst he;have:=kd x hx;split at this
    .cases this
    .rename_i hh;exact hh
 have apA:∀x,aQ s.T=(jZ (ra.res x) s.T).length:=λx=>by rw[y9,bF]
 have hpl:ps.size=ss.length:=by
  have:∀{l:List Nat}{ss:List Sh},wK E.n l ss=true->l.length=ss.length:=by
   intro l
   induction l with
   | nil=>intro ss h;cases ss with | nil=>rfl | cons _ _=>simp[wK]at h
   | cons x l ih=>
     intro ss h;cases ss with
     | nil=>simp[wK]at h
     | cons s ss=>
       simp only[wK,aB,bY]at h;simp[ih h.2]
  have h1:=this hpar;cases ps;simpa using h1
 have psw:∀t,iW t ws=false->iW t (tl ps)=false/\iW t (writes FQ)=false/\iW t (writes c)=false:=by
  intro t ht;rw[hws,lD,lD,lD,l7,l7,l7]at ht;exact⟨ht.2.1,ht.2.2.1,ht.2.2.2⟩
 have Rk:∀(vs:List Value) t,iW t (tl ps)=false->((ps.zip vs.toArray).foldl (λt (p,v)=>t.setIfInBounds p v) a.tmps)[t]?=a.tmps[t]?:=by
  intro vs t ht;rw[EF];refine xR _ _ λq hq e=>?_
  have hm:q.1∈tl ps:=(List.of_mem_zip hq).1;rw[e]at hm;have:∀{l:List Nat},t∈l->iW t l=true:=by
   intro l
   induction l with
   | nil=>intro h;cases h
   | cons x l ih=>
     intro h;rw[jq];rcases ni.1 h with rfl | h
     .simp
     .rw[ih h];simp
  rw[this hm]at ht;cases ht
 have anb:∀p∈keepR (aQ s.T) ws [] s.env,∃z,a.tmps[p.1]?=some z/\dh h β p.2 z:=by
  intro p hp;obtain⟨z,q1,q2,_⟩:=aj.env _ _ _ (qZ p hp).2;exact⟨z,q1,q2 rfl⟩
 have X5:∀kk o,B.nc kk o->kk < w.heap.size:=λkk o hk=>(Dh.1 (aj.ok.kn kk o hk)).1
 have hBs:B.heap.size<=w.heap.size:=aj.ok.below.size
 -- the iterator's blocks are no one else's
 let Ap:List ay->FH->List RV->(Nat->Prop)->Prop:=λT h' β' G=>Apt w.heap.size T h' β' G
 have apG:∀{T:List ay}{h':FH}{β':List RV}{G G':Nat->Prop}{A A':World},OK B h0 T h' β' A->w.heap.size<=A.heap.size->Ap T h' β' G->Own' G G' A A'->Ap T h' β' G':=by
  intro T h' β' G G' A A' ok' hsz ⟨a1,a2,a3⟩ ho;refine⟨λb hb=>?_,λb hb hg=>?_,λb o v hb hg=>?_⟩
  .rcases(ho b hb).2 with h1 | h1
   .exact a1 b h1
   .omega
  .rcases(ho b hg).2 with h1 | h1
   .exact a2 b hb h1
   .obtain⟨i,r,v,e1,e2,e3,e4⟩:=hb;have:=(ok'.own i r v b e1 e2 e3 e4).2.1;omega
  .rcases(ho b hg).2 with h1 | h1
   .exact a3 b o v hb h1
   .have:=oz (ok'.hw b o v hb);omega
 have gsO:∀{T:List ay}{h':FH}{β':List RV}{G:Nat->Prop}{A A':World},OK B h0 T h' β' A->Ap T h' β' G->Gs G A A'->OK B h0 T h' β' A':=λok' ⟨a1,a2,a3⟩ gs=>
  ok'.gs gs (λk hk=>pq hBs (a1 k hk)) a2 a3 (λk o hk hg=>by have:=X5 k o hk;have:=a1 k hg;omega)
 -- what holds between the rounds;what holds where a round has left
 let I:Nat->(Nat->Prop)->World->Prop:=λi G A=>i<=L.length/\(w.heap.size<=A.heap.size/\∀b,G b->b < A.heap.size)/\∃x h' β',Ap (eff [] (jZ (ra.res x) s.T)) h' β' G/\ra.inv i x/\h.le h'/\OK B h0 (eff [] (jZ (ra.res x) s.T)) h' β' A/\∀p∈keepR (aQ s.T) ws [] s.env,∃z,a.tmps[p.1]?=some z/\dh h' β' p.2 z
 let Ix:Code->(Nat->Prop)->World->Prop:=λcc G A=>w.heap.size<=A.heap.size/\∃e T gl h' β',Ap (eff gl T) h' β' G/\((cc=.ret/\e=Exit.ret)\/∃j,cc=.exit j/\e=Exit.exit j)/\K e { env:=rdE ws ra.drop s,T:=T,gl:=gl,gs:=[] }/\h.le h'/\OK B h0 (eff gl T) h' β' A /\
  (∀p∈T,vk gl.length p.1=true)/\∀p∈keepR (aQ s.T) ws [] s.env,∃z,a.tmps[p.1]?=some z/\dh h' β' p.2 z
 have dfr:∀A,A.heap[w.heap.size]?=some (.deferred (some []))->∃B':Base,B.leB B'/\N8 B' { a with defers:=xQ w.heap.size :: a.defers }/\(∀{T h' β'},OK B h0 T h' β' A->OK B' h0 T h' β' A):=by
  intro A hA;refine⟨{ B with nc:=λk o=>B.nc k o\/(k=w.heap.size/\o=.deferred (some [])),cell:=λk o hh=>hh.elim (B.cell k o) λhh=>by rw[hh.2] },⟨rfl,rfl,λk o hh=>.inl hh⟩,?_,λok'=>ok'.O6 rfl rfl (λk o hh=>hh.elim (ok'.kn k o) λhh=>by rw[hh.1,hh.2];exact hA)⟩
  obtain⟨X,x1,x2,x3⟩:=aj.defers;refine⟨w.heap.size :: X,by simp[x1,xQ],?_,?_⟩
  .refine Uc.2 ⟨λhm=>?_,x2⟩
   have:=X5 _ _ (x3 _ hm).2;omega
  .intro D hD;rcases ni.1 hD with rfl | hD
   .exact⟨B.up _ hBs,.inr ⟨rfl,rfl⟩⟩
   .exact⟨(x3 D hD).1,.inl (x3 D hD).2⟩
 have fin:∀e cc G A,((cc=.ret/\e=Exit.ret)\/∃j,cc=.exit j/\e=Exit.exit j)->Ix cc G A->A.heap[w.heap.size]?=some (.deferred (some []))->Q e { a with defers:=xQ w.heap.size :: a.defers } A:=by
  rintro e cc G A he ⟨_,e',T,gl,h',β',_,he',kk,le,ok',gT,refs⟩ hA;have hee:e'=e:=by
   rcases he with⟨rfl,rfl⟩ | ⟨j,rfl,rfl⟩<;>rcases he' with⟨h1,h2⟩ | ⟨j',h1,h2⟩<;>first | (cases h1;exact h2) | cases h1
  subst hee;obtain⟨B',lb,df,up⟩:=dfr A hA;exact next _ _ h' β' A _ B' ⟨lb,λhh=>(by rw[hrd]at hh;cases hh)⟩ kk le (X0 aj le refs (up ok') gT rfl df) λ_ _=>rfl
 refine Va gv hpl I Ix ?_ ?_ ?_ ?_ ?_ ?_ ?_ ?_ ?_ (λG A hA=>fin .ret .ret G A (.inl ⟨rfl,rfl⟩) hA) (λj G A hA=>fin (.exit j) (.exit j) G A (.inr ⟨j,rfl,rfl⟩) hA)
 .rintro i G A ⟨_,_,x,h',β',_,_,le,ok',_⟩;exact HW.mono le ok'.hw
 .rintro cc G A ⟨_,e,T,gl,h',β',_,he,kk,le,ok',_⟩;exact HW.mono le ok'.hw
 .rintro i G G' A A' ⟨hi,hsz,x,h',β',ap,i1,le,ok',refs⟩ gs ho;exact⟨hi,⟨pq hsz.1 gs.size,λb hb=>(ho b hb).1⟩,x,h',β',apG ok' hsz.1 ap ho,i1,le,gsO ok' ap gs,refs⟩
 .rintro cc G G' A A' ⟨hsz,e,T,gl,h',β',ap,he,kk,le,ok',gT,refs⟩ gs ho;exact⟨pq hsz gs.size,e,T,gl,h',β',apG ok' hsz ap ho,he,kk,le,gsO ok' ap gs,gT,refs⟩
 .rintro i G A l o o' ⟨hi,hsz,x,h',β',ap,i1,le,ok',refs⟩ hl hA ho;exact⟨hi,⟨by simpa using hsz.1,by simpa using hsz.2⟩,x,h',β',ap,i1,le,ok'.turn (B.up _ (pq hBs hl)) (λkk u hk e=>by have:=X5 kk u hk;omega) hA ho,refs⟩
 .rintro cc G A l o o' ⟨hsz,e,T,gl,h',β',ap,he,kk,le,ok',gT,refs⟩ hl hA ho;exact⟨by simpa using hsz,e,T,gl,h',β',ap,he,kk,le,ok'.turn (B.up _ (pq hBs hl)) (λkk u hk e=>by have:=X5 kk u hk;omega) hA ho,gT,refs⟩
 .refine⟨Ko _,⟨pz _,λb hb=>hb.elim⟩,x0,h,β,⟨λb hb=>hb.elim,λb _ hb=>hb.elim,λb o v _ hb=>hb.elim⟩,i0,FH.le.refl h,?_,anb⟩
  have g0:=good 0 x0 (Ko _) i0;rw[Rj (gl:=s.gl) λp hp=>(uO g0 p hp).1,<-t0]
  exact aj.ok
 .rintro i d vs G A l o1 Vb o2 hd hv ⟨hi,⟨hsz,apb⟩,x,h',β',ap,i1,le,ok',refs⟩ hl hA1 ho1 apB hA2 ho2 hGl;have kk:=kr i x d i1 hd;have gx:=good i x hi i1;rw[gx]at kk;simp only at kk;have blen:β'.length=aQ s.T:=by rw[ok'.len,iK,<-apA]
  obtain⟨p1,p2⟩:=X3 (t:=a.tmps) (n:=E.n) aj.sz hpar hv;have apC:Sat E.n (B.rd (eff [] (jZ (ra.res x) s.T)) β' A) h'
   { env:=fA (LJ (tl ps) ss d) (rdE ws (fA ra.drop (tl ps)) s),T:=jZ (ra.res x) s.T,gl:=[],gs:=[] } h' β' A { tmps:=(ps.zip vs.toArray).foldl (λt (p,v)=>t.setIfInBounds p v) a.tmps,defers:=[] }:=by
   refine⟨ok'.enter,?_,?_,N8.nil rfl,?_,?_,?_⟩
   .intro t G e ht;simp only at ht ⊢;rw[qg]at ht;split at ht
    .rename_i y hy;cases ht;obtain⟨rfl,z,z1,z2⟩:=p1 t G e hy;refine⟨z,by rw[EF];exact z1,λ_=>(z2 β').mono le (Ext.refl _),λhh=>by cases hh⟩
    .rename_i hy;obtain⟨rfl,hm,z,z1,z2⟩:=Jh aj le refs t G e ht;have hps:iW t (tl ps)=false:=p2 t hy;exact⟨z,by rw[Rk vs t hps];exact z1,λ_=>z2,λhh=>by cases hh⟩
   .intro dd ii hh;cases hh
   .rw[EF,fold_size];exact aj.sz
   .intro t G e ht;simp only at ht;rw[qg]at ht;split at ht
    .rename_i y hy;cases ht;obtain⟨rfl,_⟩:=p1 t G e hy;rfl
    .obtain⟨rfl,_⟩:=Jh aj le refs t G e ht;rfl
   .intro p hp;rw[(uO gx p hp).1]
  have okE:gI P { E with rd:=true }:=⟨ok.prog,ok.hc,ok.XI,ok.mixed,ok.ti,ok.ct,ok.ip,ok.sq,ok.sf⟩
  refine rec FQ (.inl rfl) h' { E with rd:=true } _ _ h' β' A _ _ _ l okE (hg.mono ok'.hle) rfl apC kk ?_
  rintro e1 s1 h1 β1 A1 a1 B1 ⟨lb1,lr1⟩ k1 le1 jl sm1;cases e1 with
  | exit j=>exact k1.elim
  | goto j=>exact k1.elim
  | ret=>exact k1.elim
  | panic c=>exact k1.elim
  | outgrown=>exact k1.elim
  | normal=>
  obtain⟨q1,q2,q3,q4,q5⟩:=GY ok' ap apb lb1 jl;have X6:∀b,b=l\/b=w.heap.size\/G b->A1.heap[b]?=A.heap[b]?:=by
   rintro b (rfl | rfl | hb)
   .exact q4 _ (Dh.1 hA1).1 (q5 _ _ hA1 ho1)
   .exact q4 _ (Dh.1 hA2).1 (q5 _ _ hA2 ho2)
   .exact q4 b (apb b hb) (λhh=>ap.2.1 b hh hb)
  refine⟨X6,?_⟩;have hB1:A1.heap[l]?=some o1:=(X6 l (.inl rfl)).trans hA1;have hl1:l < A1.heap.size:=(Dh.1 hB1).1
  -- the record is turned;all else stands
  have okt:OK B h0 (eff s1.gl s1.T) h1 β1 (A1.putObj l Vb):=q1.turn (B.up _ (pq hBs (by omega))) (λkk u hk e=>by have:=X5 kk u hk;omega) hB1 ho1
  have anc:Sat E.n (B.rd (eff s1.gl s1.T) β1 (A1.putObj l Vb)) h1 s1 h1 β1 (A1.putObj l Vb) a1:=by
   have hd1:a1.defers=[]:=by
    obtain⟨X,x1,x2,x3⟩:=jl.defers;cases X with
    | nil=>simpa using x1
    | cons D X=>
      exfalso;obtain⟨d1,d2⟩:=x3 D (by simp)
      rw[lr1 rfl]at d1 d2;have hk:=ok'.kn D _ d2;rcases d1 with d1 | d1
      .obtain⟨i,r,v,e1,e2,e3,e4⟩:=d1;obtain⟨o',q1,q2⟩:=(ok'.holds i r v e1 e3).cells e2 e4;rw[hk]at q1;cases q1;cases q2
      .have:=(Dh.1 hk).1;omega
   exact⟨okt.enter,jl.env,jl.gs,N8.nil hd1,jl.sz,jl.gb,jl.gT⟩
  have hsz1:w.heap.size<=(A1.putObj l Vb).heap.size:=by simp;omega
  have aiM:∀b,G b->b < (A1.putObj l Vb).heap.size:=λb hb=>by have:=apb b hb;simp;omega
  have hT2:(A1.putObj l Vb).heap[w.heap.size]?=some o2:=(World.putObj_heap_other (by omega)).trans ((X6 _ (.inr (.inl rfl))).trans hA2)
  have hT1:(A1.putObj l Vb).heap[l]?=some Vb:=World.putObj_heap_same hl1;refine rec c (.inr rfl) h1 { E with rd:=true } _ _ h1 β1 _ _ _ _ l okE (hg.mono (ok'.hle.trans le1)) rfl anc k1 ?_
  rintro e s2 h2 β2 A2 a2 B2 ⟨zV,_⟩ k2 iD bJ wL;obtain⟨ok2,ap2,q8,q9,q10⟩:=GY okt q2 aiM zV bJ;have keep:∀b,b=l\/b=w.heap.size\/G b->A2.heap[b]?=(A1.putObj l Vb).heap[b]?:=by
   rintro b (rfl | rfl | hb)
   .exact q9 _ (Dh.1 hT1).1 (q10 _ _ hT1 apB)
   .exact q9 _ (Dh.1 hT2).1 (q10 _ _ hT2 ho2)
   .exact q9 b (aiM b hb) (λhh=>q2.2.1 b hh hb)
  split at k2
  .cases k2
  rename_i hR;have hsz2:w.heap.size<=A2.heap.size:=pq hsz1 q8;have X7:∀p∈keepR (aQ s.T) ws [] s.env,∃z,a.tmps[p.1]?=some z/\dh h2 β2 p.2 z:=by
   intro p hp;obtain⟨z,q1,q2,_⟩:=bJ.env _ _ _ (qY hR p hp);obtain⟨w1,w2,w3⟩:=psw _ (zh p hp);have e1:=wL p.1 w3;have e2:=sm1 p.1 w2;simp only at e2;rw[e1,e2,Rk vs _ w1]at q1;exact⟨z,q1,q2 rfl⟩
  cases e with
  | normal=>
    simp only at k2;obtain⟨x',j1,j2⟩:=k2;have hi1:i+1<=L.length:=(A8.1 hd).1;have gx':=good (i+1) x' hi1 j1;have et:eff [] (jZ (ra.res x') s.T)=(eff s2.gl s2.T).take (aQ s.T):=by
     rw[jI]at j2;rw[<-j2,nS (gl:=s2.gl) λp hp=>by rw[j2]at hp;exact(uO gx' p hp).1]
    refine⟨keep,hi1,⟨hsz2,λb hb=>NP (aiM b hb) q8⟩,x',h2,β2.take (aQ s.T),?_,j1,(le.trans le1).trans iD,?_,λp hp=>?_⟩
    .refine⟨ap2.1,?_,ap2.2.2⟩;rintro b ⟨i,r,v,e1,e2,e3,e4⟩ hb;rw[et]at e1;have hi:i < aQ s.T:=by have:=(A8.1 e1).1;simp at this;omega
     rw[kJ hi]at e1 e3;exact ap2.2.1 b ⟨i,r,v,e1,e2,e3,e4⟩ hb
    .rw[et];rw[jI]at j2;have hlen:aQ s.T<=s2.T.length:=by
      have:=rJ List.length j2;rw[y9,kX,bF]at this;rw[bF];omega
     refine ok2.take (by rw[iK];exact hlen) ?_
     rw[<-et];have:∀{l:List (Gd×ay)},(∀p∈l,p.1=[]/\lF (aQ s.T) p.2=true)->∀r∈eff [] l,lF (aQ s.T) r=true:=by
      intro l
      induction l with
      | nil=>intro _ r hr;simp[eff]at hr
      | cons q l ih=>
        obtain⟨g,r0⟩:=q;intro hh r hr;have hg:=hh (g,r0) (by simp)
        have hg1:g=[]:=hg.1;subst hg1;simp only[eff]at hr;rcases ni.1 hr with rfl | hr
        .exact hg.2
        .exact ih (λp hp=>hh p (by simp[hp])) r hr
     exact this (uO gx')
    .obtain⟨z,q1,q2⟩:=X7 p hp;exact⟨z,q1,dh.below (qh p hp) q2⟩
  | ret=>exact⟨keep,hsz2,.ret,s2.T,s2.gl,h2,β2,ap2,.inl ⟨rfl,rfl⟩,k2,(le.trans le1).trans iD,ok2,bJ.gT,X7⟩
  | exit j=>exact⟨keep,hsz2,.exit j,s2.T,s2.gl,h2,β2,ap2,.inr ⟨j,rfl,rfl⟩,k2,(le.trans le1).trans iD,ok2,bJ.gT,X7⟩
  | goto t=>exact k2.elim
  | panic ch=>exact k2.elim
  | outgrown=>exact k2.elim
 .rintro G A ⟨_,_,x,h',β',_,i1,le,ok',refs⟩ hA;have kk:=kd x (by rw[bF];exact i1)
  have gx:=good _ x (pz _) i1;rw[gx]at kk;simp only at kk;obtain⟨B',lb,df,up⟩:=dfr A hA;exact next _ _ h' β' A _ B' ⟨lb,λhh=>(by rw[hrd]at hh;cases hh)⟩ kk le (X0 aj le refs (up ok') (λp hp=>by rw[(uO gx p hp).1]) rfl df) λ_ _=>rfl
theorem iY{P:Program}{n:Nat}:∀(c:Code){h0:FH}{E:Env} (ok:gI P E) (hg:aI E.cx.gd h0){F:Fence} (hF:Wd F) (hr:E.rd=false->F=Fence.wide){B:Base}{s:St}{h:FH}{β:List RV}{w:World}{a:Act}{K:Exit->St->Prop}{Q:Exit->Act->World->Prop},Sat E.n B h0 s h β w a ->
 jm E c s K->(∀e s' h' β' w' a' B',Base.XZ E.rd B B'->K e s'->h.le h'->Sat E.n B' h0 s' h' β' w' a'->Same (writes c) a a'->Q e a' w')->c.wpIn F n P Q a w
 | .skip,h0,E,ok,hg,F,hF,hr,B,s,h,β,w,a,K,Q,aj,k,next=>wpIn_skip (next _ _ _ _ _ _ _ (.refl _) k (FH.le.refl h) aj (Same.refl _ _))
 | .exit i,h0,E,ok,hg,F,hF,hr,B,s,h,β,w,a,K,Q,aj,k,next=>wpIn_exit (next _ _ _ _ _ _ _ (.refl _) k (FH.le.refl h) aj (Same.refl _ _))
 | .ret,h0,E,ok,hg,F,hF,hr,B,s,h,β,w,a,K,Q,aj,k,next=>wpIn_ret (next _ _ _ _ _ _ _ (.refl _) k (FH.le.refl h) aj (Same.refl _ _))
 | .region id ops false,h0,E,ok,hg,F,hF,hr,B,s,h,β,w,a,K,Q,aj,k,next=>by
   simp only[jm]at k;split at k
   .cases k
   rename_i hnd;have et:tl ops=ops.toList:=by cases ops;rfl
   rw[et]at hnd k;refine OQ (R:=λa w=>Q .normal a w) hF (λ_ _ hh=>hh) hnd (Jd ok hg ops.toList aj (by rw[et];exact k) λs' h' β' w' a' k' le aW sm=>next .normal _ _ _ _ _ _ (.refl _) k' le aW.clean ?_)
   simp only[writes];rw[et];exact sm
 | .seq x y,h0,E,ok,hg,F,hF,hr,B,s,h,β,w,a,K,Q,aj,k,next=>by
   simp only[jm]at k;split at k
   .rename_i la _;obtain⟨β0,aiN⟩:=aj.xO la.pad;clear aj;generalize xO la.pad s=s at aiN k;generalize β0=β at aiN;have aj:=aiN;obtain⟨k1,k2⟩:=k;have D0:∀h' a',h.le h'->Same (writes x) a a'->∀t e,iF (qc (fA la.drop (writes x)) [] s.env) t=some ([],e)->∃z,a'.tmps[t]?=some z/\jF h' [] e z:=by
     intro h' a' le sm t e ht;obtain⟨_,hw,hl,_,hf⟩:=kU ht;obtain⟨z,q1,q2,_⟩:=aj.env t [] e hl;exact⟨z,by rw[sm t (by rw[lD,l7]at hw;exact hw.2)];exact q1,(jF.lG [] hf (q2 rfl)).mono le (Ext.refl _)⟩
    refine wpIn_seq (iY x ok hg hF hr aj k1 λe s' h' β' w' a' B1 lb k' le aW sm=>?_)
    cases e with
    | normal=>
      simp only at k';unfold am6 at k';obtain⟨h1,β1,le1,bJ⟩:=Sat.tJ aW la.FP la.tY la.nil la.rX la.deep;obtain⟨β20,anf⟩:=bJ.nI la.ren;obtain⟨β2,O5⟩:=anf.tV la.can;split at k'
      .rename_i hR;obtain⟨v,j1,j2,j3⟩:=k';have kk:=k2 v j1;split at kk
       .cases kk
       .rename_i hc;rw[aB,bY]at hc;exact iY y ok hg hF hr (zf O5 j3 hc.1 hc.2 j2 (qY hR) (D0 h1 a' (le.trans le1) sm)) kk λe s2 h2 β3 w2 a2 B2 zV k3 iD XY wL=>next e s2 h2 β3 w2 a2 B2 (lb.trans zV) k3 ((le.trans le1).trans iD) XY (sm.left.trans wL.right)
      .exact k'.elim
    | exit i=>exact next _ _ _ _ _ _ _ lb k' le aW sm.left
    | goto l=>exact next _ _ _ _ _ _ _ lb k' le aW sm.left
    | ret=>exact next _ _ _ _ _ _ _ lb k' le aW sm.left
    | panic ch=>exact next _ _ _ _ _ _ _ lb k' le aW sm.left
    | outgrown=>exact next _ _ _ _ _ _ _ lb k' le aW sm.left
   .refine wpIn_seq (iY x ok hg hF hr aj k λe s' h' β' w' a' B1 lb k' le aW sm=>?_)
    cases e with
    | normal=>exact iY y ok hg hF hr aW k' λe s2 h2 β2 w2 a2 B2 zV k2 iD bJ wL=>next e s2 h2 β2 w2 a2 B2 (lb.trans zV) k2 (le.trans iD) bJ (sm.left.trans wL.right)
    | exit i=>exact next _ _ _ _ _ _ _ lb k' le aW sm.left
    | goto l=>exact next _ _ _ _ _ _ _ lb k' le aW sm.left
    | ret=>exact next _ _ _ _ _ _ _ lb k' le aW sm.left
    | panic ch=>exact next _ _ _ _ _ _ _ lb k' le aW sm.left
    | outgrown=>exact next _ _ _ _ _ _ _ lb k' le aW sm.left
 | .cond c x y,h0,E,ok,hg,F,hF,hr,B,s,h,β,w,a,K,Q,aj,k,next=>by
   simp only[jm]at k;split at k
   .rename_i b hb;have hc:a.eval c=.bool b:=(aP aj (hg.mono aj.ok.hle) (show gv s.gl []=true from rfl) hb).1.1
    refine wpIn_cond_split hc (λht=>iY x ok hg hF hr aj ((ah.1 k).1 ht) λe s' h' β' w' a' B1 lb k' le aW sm=>next _ _ _ _ _ _ _ lb k' le aW sm.left)
     (λhf=>iY y ok hg hF hr aj ((ah.1 k).2 hf) λe s' h' β' w' a' B1 lb k' le aW sm=>next _ _ _ _ _ _ _ lb k' le aW sm.right)
   .cases k
 | .block id c,h0,E,ok,hg,F,hF,hr,B,s,h,β,w,a,K,Q,aj,k,next=>by
   refine wpIn_block (iY c ok hg hF hr aj k λe s' h' β' w' a' B1 lb k' le aW sm=>?_)
   cases e with
   | normal=>exact next _ _ _ _ _ _ _ lb k' le aW sm
   | exit i=>
     simp only at k';simp only[Exit.inBlock];split at k'
     .rename_i hi;have:i=id:=iC hi;rw[if_pos this];exact next _ _ _ _ _ _ _ lb k' le aW sm
     .rename_i hi;have:¬i=id:=λhh=>by rw[hh]at hi;simp at hi
      rw[if_neg this];exact next _ _ _ _ _ _ _ lb k' le aW sm
   | goto l=>exact next _ _ _ _ _ _ _ lb k' le aW sm
   | ret=>exact next _ _ _ _ _ _ _ lb k' le aW sm
   | panic ch=>exact next _ _ _ _ _ _ _ lb k' le aW sm
   | outgrown=>exact next _ _ _ _ _ _ _ lb k' le aW sm
 | .loop c,h0,E,ok,hg,F,hF,hr,B,s,h,β,w,a,K,Q,aj,k,next=>by
   simp only[jm]at k;split at k
   .rename_i la _;obtain⟨h1,β1,le1,jl⟩:=Sat.tJ aj la.FP la.tY la.nil la.rX la.deep
    replace next:=λe s' h' β' w' a' B1 lb k' le aW sm=>next e s' h' β' w' a' B1 lb k' (le1.trans le) aW sm
    clear le1 aj;clear h
    rename FH=>h
    generalize tJ s la.FP la.tY la.nil la.rX la.deep=s at jl k;obtain⟨β2,aj⟩:=jl.xO la.pad;clear jl;have jl:=aj;clear aj;generalize xO la.pad s=s at jl k;have aj:=jl;clear jl;obtain⟨⟨x,i1,i2,i3⟩,k2⟩:=k;have good:∀x,la.inv x->wJ (aQ s.T) (jZ (la.res x) s.T)=true/\GV (aQ s.T) (fA la.drop (writes c)) (la.slots x)=true /\
     jm E c (qx (fA la.drop (writes c)) s (la.slots x) (la.res x)) (λe s'=>match e with
      | .normal=>match Ey (tV la.can (nI la.ren s')) (keepR (aQ s.T) (fA la.drop (writes c)) [] s.env) with
        | true=>∃x',la.inv x'/\F9 (tV la.can (nI la.ren s')) (la.slots x')/\qG (aQ s.T) (tV la.can (nI la.ren s')).T=jZ (la.res x') s.T/\la.meas x' < la.meas x
        | false=>False
      | e=>K e s'):=by
     intro x hx;have:=k2 x hx;split at this
     .cases this
     .rename_i hc;rw[aB,bY]at hc;exact⟨hc.1,hc.2,this⟩
    have D0:∀h' a',h.le h'->Same (writes c) a a'->∀t e,iF (qc (fA la.drop (writes c)) [] s.env) t=some ([],e)->∃z,a'.tmps[t]?=some z/\jF h' [] e z:=by
     intro h' a' le sm t e ht;obtain⟨_,hw,hl,_,hf⟩:=kU ht;obtain⟨z,q1,q2,_⟩:=aj.env t [] e hl;exact⟨z,by rw[sm t (by rw[lD,l7]at hw;exact hw.2)];exact q1,(jF.lG [] hf (q2 rfl)).mono le (Ext.refl _)⟩
    refine wpIn_loop_ghost (λn a' w'=>∃x h' β' B1,Base.XZ E.rd B B1/\la.meas x=n/\la.inv x/\h.le h'/\Sat E.n B1 h0 (qx (fA la.drop (writes c)) s (la.slots x) (la.res x)) h' β' w' a'/\Same (writes c) a a') (la.meas x) ?_ ?_
    .obtain⟨g1,g2,_⟩:=good x i1;refine⟨x,h,_,B,.refl _,rfl,i1,FH.le.refl h,zf aj ?_ g1 g2 i2 (λp hp=>(qZ p hp).2) (D0 h a (FH.le.refl h) (Same.refl _ _)),Same.refl _ _⟩
     rw[<-i3,jI,bF,V5]
    .rintro n a' w' ⟨x,h',β',B1,lb,rfl,hx,le,aW,sm⟩;obtain⟨g1,g2,kk⟩:=good x hx;refine iY c ok hg hF hr aW kk λe s2 h2 β2 w2 a2 B2 zV k2 iD bJ wL=>?_
     cases e with
     | normal=>
       simp only at k2;split at k2
       .rename_i hR;obtain⟨x',j1,j2,j3,j4⟩:=k2;obtain⟨g1',g2',_⟩:=good x' j1;obtain⟨β30,ang⟩:=bJ.nI la.ren;obtain⟨β3,bJ⟩:=ang.tV la.can;refine⟨la.meas x',j4,x',h2,_,B2,lb.trans zV,rfl,j1,le.trans iD,zf bJ j3 g1' g2' j2 (qY hR) (D0 h2 a2 (le.trans iD) (sm.trans wL)),sm.trans wL⟩
       .cases k2
     | exit i=>exact next _ _ _ _ _ _ _ (lb.trans zV) k2 (le.trans iD) bJ (sm.trans wL)
     | goto l=>exact next _ _ _ _ _ _ _ (lb.trans zV) k2 (le.trans iD) bJ (sm.trans wL)
     | ret=>exact next _ _ _ _ _ _ _ (lb.trans zV) k2 (le.trans iD) bJ (sm.trans wL)
     | panic ch=>exact next _ _ _ _ _ _ _ (lb.trans zV) k2 (le.trans iD) bJ (sm.trans wL)
     | outgrown=>exact next _ _ _ _ _ _ _ (lb.trans zV) k2 (le.trans iD) bJ (sm.trans wL)
   .rename_i m _;refine wpIn_loop_rounds m ?_;have key:∀(m:Nat){B:Base}{s:St}{h:FH}{β:List RV}{w:World}{a:Act}{K:Exit->St->Prop}{Q:Exit->Act->World->Prop},Sat E.n B h0 s h β w a->Jg (jm E c) m s K ->
     (∀e s' h' β' w' a' B',Base.XZ E.rd B B'->K e s'->h.le h'->Sat E.n B' h0 s' h' β' w' a'->Same (writes c) a a'->Q e a' w')->Code.roundsIn F n P c Q m a w:=by
     intro m
     induction m with
     | zero=>intro B s h β w a K Q aj k next;cases k
     | succ m ih=>
       intro B s h β w a K Q aj k next
       rw[roundsIn_succ];refine iY c ok hg hF hr aj k λe s2 h2 β2 w2 a2 B2 zV k2 iD bJ wL=>?_
       cases e with
       | normal=>exact ih bJ k2 λe s3 h3 β3 w3 a3 B3 lb3 k3 le3 O5 sm3=>next e s3 h3 β3 w3 a3 B3 (zV.trans lb3) k3 (iD.trans le3) O5 (wL.trans sm3)
       | exit i=>exact next _ _ _ _ _ _ _ zV k2 iD bJ wL
       | goto l=>exact next _ _ _ _ _ _ _ zV k2 iD bJ wL
       | ret=>exact next _ _ _ _ _ _ _ zV k2 iD bJ wL
       | panic ch=>exact next _ _ _ _ _ _ _ zV k2 iD bJ wL
       | outgrown=>exact next _ _ _ _ _ _ _ zV k2 iD bJ wL
    exact key m aj k next
   .cases k
 | .region id ops true,h0,E,ok,hg,F,hF,hr,B,s,h,β,w,a,K,Q,aj,k,next=>by
   simp only[jm]at k;split at k
   .cases k
   rename_i hnd;have et:tl ops=ops.toList:=by cases ops;rfl
   cases hma:Ar E.cx (tl ops) with
   | true=>
     rw[hma]at k;simp only at k;cases hlx:adl ops with
     | false=>rw[hlx]at k;cases k
     | true=>
       rw[hlx]at k;exact XR ok hg hlx aj k hF (by rw[et]at hnd;exact hnd) λs' h' β' w' a' k' le aW sm=>next .normal _ _ _ _ _ _ (.refl _) k' le aW.clean sm
   | false=>
   rw[hma]at k;simp only at k;cases QK:orB E.cx.rt (LG E (tl ops)) with
   | true=>
     rw[QK]at k;simp only at k;cases hd:y5 ops with
     | none=>rw[hd]at k;cases k
     | some l=>
       rw[hd]at k;exact XT ok hg hd aj k hF (by rw[et]at hnd;exact hnd) λs' h' β' w' a' k' le aW sm=>next .normal _ _ _ _ _ _ (.refl _) k' le aW.clean sm
   | false=>
   rw[QK]at k;simp only at k;cases hd:vT ops with
   | none=>rw[hd]at k;cases k
   | some l=>
     rw[hd]at k;exact Rf ok hg hd aj k hF (by rw[et]at hnd;exact hnd) λs' h' β' w' a' k' le aW sm=>next .normal _ _ _ _ _ _ (.refl _) k' le aW.clean sm
 | .rangeFunc g ps FQ c,h0,E,ok,hg,F,hF,hr,B,s,h,β,w,a,K,Q,aj,k,next=>by
   simp only[jm]at k;split at k
   .cases k
   rename_i hrd;have hF':=hr hrd;subst hF';split at k
   .rename_i P' ss L hgE;split at k
    .rename_i ra _;obtain⟨hP,k⟩:=k;have hP:=ok.prog _ hP;subst hP;have gv0:Gives P' h ss L (a.eval g):=(aP aj (hg.mono aj.ok.hle) (show gv s.gl []=true from rfl) hgE).1
     obtain⟨h1,β1,le1,bJ⟩:=Sat.tJ aj ra.FP ra.tY ra.nil ra.rX ra.deep
     replace next:=λe s' h' β' w' a' B1 lb k' le aW sm=>next e s' h' β' w' a' B1 lb k' (le1.trans le) aW sm
     have gv1:=FN.yx (x:=.seq P' ss L) le1 gv0;generalize tJ s ra.FP ra.tY ra.nil ra.rX ra.deep=s2 at bJ k;refine X4 (λc' hc' h0' E' B' s' h' β' w' a' K' Q' l ok' hg' he aW k' next'=>?_) ok hg bJ gv1 k hrd next
     rcases hc' with rfl | rfl
     .exact iY _ ok' hg' (F:=Fence.wide.inRound l) (.inr ⟨l,rfl⟩) (λhh=>by rw[he]at hh;cases hh) aW k' next'
     .exact iY _ ok' hg' (F:=Fence.wide.inRound l) (.inr ⟨l,rfl⟩) (λhh=>by rw[he]at hh;cases hh) aW k' next'
    .cases k
   .cases k
 | .scope _,h0,E,ok,hg,F,hF,hr,B,s,h,β,w,a,K,Q,aj,k,next=>k.elim
 | .label _,h0,E,ok,hg,F,hF,hr,B,s,h,β,w,a,K,Q,aj,k,next=>k.elim
 | .goto _,h0,E,ok,hg,F,hF,hr,B,s,h,β,w,a,K,Q,aj,k,next=>k.elim
 | .refuse _,h0,E,ok,hg,F,hF,hr,B,s,h,β,w,a,K,Q,aj,k,next=>k.elim
abbrev resV(cx:Cx) (s:St) (r:ResultVar) (K:SV->Prop):Prop:=match r with
 | .tmp t=>match iF s.env t with
   | some ([],.one v)=>K v
   | _=>False
 | .cell p t=>match iF s.env p with
   | some ([],.one (.c q))=>uo cx s [] t q λe=>match e with
     | .one v=>K v
     | _=>False
   | _=>False
abbrev X8(cx:Cx) (s:St):List ResultVar->(List SV->Prop)->Prop
 | [],K=>K []
 | r :: l,K=>resV cx s r λv=>X8 cx s l λvs=>K (v :: vs)
abbrev O7(i:Nat):List (Nat×ay)->Bool
 | []=>false
 | (j,_) :: l=>match Nat.beq i j with
   | true=>true
   | false=>O7 i l
abbrev selC(T:List (Gd×ay)) (x:SC) (acc:List (Nat×ay)):Option (SC×List (Nat×ay)):=match x with
 | .v u=>some (.v u,acc)
 | .sl sh l=>some (.sl sh l,acc)
 | .fp sh d=>some (.fp sh d,acc)
 | .one sh d=>some (.one sh d,acc)
 | .abs x=>some (.abs x,acc)
 | .row i=>match eF T i with
   | some ([],.row t sh l)=>match O7 i acc with
     | true=>none
     | false=>some (.row (aQ acc),snoc acc (i,.row t sh l))
   | some ([],.deep t sh l tt e so own hs)=>match O7 i acc with
     | true=>none
     | false=>some (.row (aQ acc),snoc acc (i,.deep t sh l tt e so own hs))
   | some ([],.mp k sh l)=>match O7 i acc with
     | true=>none
     | false=>some (.row (aQ acc),snoc acc (i,.mp k sh l))
   | _=>none
 | _=>none
abbrev LM(T:List (Gd×ay)):List SC->List (Nat×ay)->Option (List SC×List (Nat×ay))
 | [],acc=>some ([],acc)
 | x :: l,acc=>match selC T x acc with
   | some (y,acc)=>match LM T l acc with
     | some (m,acc)=>some (y :: m,acc)
     | none=>none
   | none=>none
abbrev aiO(T:List (Gd×ay)) (v:SV) (acc:List (Nat×ay)):Option (SV×List (Nat×ay)):=match v with
 | .c x=>match selC T x acc with
   | some (y,acc)=>some (.c y,acc)
   | none=>none
 | .agg xs=>match LM T xs acc with
   | some (ys,acc)=>some (.agg ys,acc)
   | none=>none
 | .dat sh d=>some (.dat sh d,acc)
 | .und=>none
abbrev LP(T:List (Gd×ay)):List SV->List (Nat×ay)->Option (List SV×List (Nat×ay))
 | [],acc=>some ([],acc)
 | x :: l,acc=>match aiO T x acc with
   | some (y,acc)=>match LP T l acc with
     | some (m,acc)=>some (y :: m,acc)
     | none=>none
   | none=>none
abbrev anh:List SV->aZ
 | [v]=>.one v
 | vs=>.gV vs
abbrev Vd:List (Nat×ay)->List ay
 | []=>[]
 | (_,r) :: l=>r :: Vd l
abbrev ads(T:List (Gd×ay)) (vs:List SV) (R:List ay->aZ->Prop):Prop:=match LP T vs []with
 | some (vs',acc)=>R (Vd acc) (anh vs')
 | none=>False
abbrev BO(n:Nat):List SV->List (Nat×Gd×aZ)
 | []=>[]
 | v :: l=>(n,[],.one v) :: BO (Nat.succ n) l
abbrev frC(T:List (Gd×ay)) (x:SC):Option (List (Gd×ay)×SC):=match x with
 | .row i=>match eF T i with
   | some ([],.row _ sh l)=>some (cZ T i ([],.gone),.sl sh l)
   | some ([],.deep _ sh l _ _ _ _ [])=>some (cZ T i ([],.gone),.sl sh l)
   | some ([],.mp k sh l)=>some (cZ T i ([],.gone),.one (.mp k sh) l)
   | _=>none
 | x=>some (T,x)
abbrev frL(T:List (Gd×ay)):List SC->Option (List (Gd×ay)×List SC)
 | []=>some (T,[])
 | x :: l=>match frC T x with
   | some (T,y)=>match frL T l with
     | some (T,m)=>some (T,y :: m)
     | none=>none
   | none=>none
abbrev frV(T:List (Gd×ay)) (v:SV):Option (List (Gd×ay)×SV):=match v with
 | .c x=>match frC T x with
   | some (T,y)=>some (T,.c y)
   | none=>none
 | .agg xs=>match frL T xs with
   | some (T,ys)=>some (T,.agg ys)
   | none=>none
 | v=>some (T,v)
abbrev coV(c:RC) (T:List (Gd×ay)) (v:SV) (K:List (Gd×ay)->SV->Prop):Prop:=match c with
 | .keep=>K T v
 | .data sh=>match frV T v with
   | some (T,v)=>match toDat sh v with
     | some d=>K T (iG sh d)
     | none=>False
   | none=>False
 | .row t sh=>match v with
   | .c (.v (.slice none 0 0))=>K (snoc T ([],.row t sh [])) (.c (.row (aQ T)))
   | v=>K T v
 | .hd t sh rest=>match v with
   | .agg (x :: xs)=>match frL T xs with
     | some (T',ys)=>match takeD rest ys with
       | some (d,[])=>match flat rest d with
         | some zs=>match x with
           | .v (.slice none 0 0)=>K (snoc T' ([],.row t sh [])) (.agg (.row (aQ T') :: zs))
           | x=>K T' (.agg (x :: zs))
         | none=>False
       | _=>False
     | none=>False
   | _=>False
 | .cel q=>match ait v with
   | some zs=>match q with
     | none=>K T (.agg zs)
     | some (t,sh,off)=>match eF zs off with
       | some (.v (.slice none 0 0))=>K (snoc T ([],.row t sh [])) (.agg (cZ zs off (.row (aQ T))))
       | _=>K T (.agg zs)
   | none=>False
abbrev coK:List RC->List (Gd×ay)->List SV->(List (Gd×ay)->List SV->Prop)->Prop
 | [],T,vs,K=>K T vs
 | _ :: _,T,[],K=>K T []
 | c :: cs,T,v :: vs,K=>coV c T v λT v=>coK cs T vs λT vs=>K T (v :: vs)
section
variable {B:Base}{h0:FH}{gl:List Bool}{w:World}
theorem X9{T':List (Gd×ay)} (ok:OK B h0 (eff gl T) h β w){x x':SC} (e:frC T x=some (T',x')) (c:dY h β x y):
 ∃h',h.le h'/\OK B h0 (eff gl T') h' β w/\dY h' β x' y:=by
 unfold frC at e;split at e
 .rename_i i;split at e
  .rename_i t sh l hT;cases e;have fQ:(eff gl T)[i]?=some (.row t sh l):=by rw[jB,<-eG,hT];rfl
   obtain⟨h',le,ok',sl⟩:=ok.freeze fQ (ok.row_of fQ c);exact⟨h',le,by rw[fP];exact ok',sl⟩
  .rename_i t sh l t2 e2 so own hT;cases e;have fQ:(eff gl T)[i]?=some (.deep t sh l t2 e2 so own []):=by rw[jB,<-eG,hT];rfl
   obtain⟨us,hu,hd⟩:=ok.vF fQ c;obtain⟨le,ok',vis⟩:=ok.vg fQ rfl hu;exact⟨_,le,by rw[fP];exact ok',hd.data le λb hb o z hz=>vis b hb o z hz⟩
  .rename_i k sh l hT;cases e;have fQ:(eff gl T)[i]?=some (.mp k sh l):=by rw[jB,<-eG,hT];rfl
   have hu:=ok.aha fQ c;obtain⟨le,ok',vs⟩:=ok.vg fQ rfl hu;exact⟨_,le,by rw[fP];exact ok',QS (β:=β) (ok.holds i _ _ fQ hu) le λb hb o z hz=>vs b hb o z hz⟩
  .cases e
 .cases e;exact⟨h,FH.le.refl h,ok,c⟩
theorem O8:∀{xs xs':List SC}{T T':List (Gd×ay)}{h:FH}{β:List RV}{ys:List Value},OK B h0 (eff gl T) h β w->frL T xs=some (T',xs')->aS (λx y=>dY h β x y/\dF y) xs ys ->
 ∃h',h.le h'/\OK B h0 (eff gl T') h' β w/\aS (λx y=>dY h' β x y/\dF y) xs' ys
 | [],xs',T,T',h,β,[],ok,e,_=>by simp[frL]at e;obtain⟨rfl,rfl⟩:=e;exact⟨h,FH.le.refl h,ok,trivial⟩
 | x :: l,xs',T,T',h,β,y :: ys,ok,e,⟨c,r⟩=>by
   unfold frL at e;split at e
   .rename_i T1 x1 h1;split at e
    .rename_i T2 m h2;cases e;obtain⟨ha,le1,ok1,c1⟩:=X9 ok h1 c.1;obtain⟨hb,iD,ok2,c2⟩:=O8 ok1 h2 (r.mono λ_ _ q=>⟨q.1.mono le1 (Ext.refl β),q.2⟩)
     exact⟨hb,le1.trans iD,ok2,⟨c1.mono iD (Ext.refl β),c.2⟩,c2⟩
    .cases e
   .cases e
theorem aiP{T':List (Gd×ay)} (ok:OK B h0 (eff gl T) h β w){x x':SV} (e:frV T x=some (T',x')) (c:dh h β x y):
 ∃h',h.le h'/\OK B h0 (eff gl T') h' β w/\dh h' β x' y:=by
 unfold frV at e;split at e
 .split at e
  .rename_i T1 y1 h1;cases e;obtain⟨h',le,ok',c'⟩:=X9 ok h1 c.1;exact⟨h',le,ok',c',c.2⟩
  .cases e
 .split at e
  .rename_i T1 y1 h1;cases e;obtain⟨ys,rfl,a⟩:=c;obtain⟨h',le,ok',c'⟩:=O8 ok h1 a;exact⟨h',le,ok',ys,rfl,c'⟩
  .cases e
 .cases e;exact⟨h,FH.le.refl h,ok,c⟩
theorem aiQ(ok:OK B h0 (eff gl T) h β w){c:RC}{v:SV}{K:List (Gd×ay)->SV->Prop} (k:coV c T v K) (cv:dh h β v y):
 ∃T' v' h' β',K T' v'/\h.le h'/\Ext β β'/\OK B h0 (eff gl T') h' β' w/\dh h' β' v' y:=by
 unfold coV at k;split at k
 .exact⟨T,v,h,β,k,FH.le.refl h,Ext.refl β,ok,cv⟩
 .split at k
  .rename_i T1 v1 h1;split at k
   .rename_i d hd;obtain⟨h',le,ok',c'⟩:=aiP ok h1 cv;obtain⟨cs,rfl,rd⟩:=toDat_ok hd c';exact⟨T1,_,h',β,k,le,Ext.refl β,ok',jh _ rd⟩
   .cases k
  .cases k
 .rename_i t sh;split at k
  .obtain⟨e,_⟩:=cv;obtain⟨rfl,_⟩:=e;refine⟨_,_,h,β++[.row (.slice none 0 0)],k,FH.le.refl h,Ext.append _ _,?_,?_⟩
   .rw[gY,lX];exact ok.add (r:=.row t sh []) (v:=.row (.slice none 0 0)) (bV w none) (λb hb=>by rw[bg]at hb;simp[aA]at hb) (.inl ⟨rfl,rfl⟩)
   .refine⟨⟨.row (.slice none 0 0),?_,rfl⟩,rfl,rfl⟩;have:aQ T=β.length:=by rw[ok.len,iK,bF]
    rw[this];simp
  .exact⟨T,v,h,β,k,FH.le.refl h,Ext.refl β,ok,cv⟩
 .rename_i t sh rest;split at k
  .rename_i x xs;split at k
   .rename_i T' ys hfr;split at k
    .rename_i d htk;split at k
     .rename_i zs hfl;obtain⟨us,e0,a⟩:=cv;cases us with
      | nil=>exact a.elim
      | cons u us=>
        obtain⟨cu,a⟩:=a;obtain⟨h',le,ok',a'⟩:=O8 ok hfr a;obtain⟨c1,c2,e1,rd,a2⟩:=oD rest htk a';have ec:c2=[]:=by cases c2 with | nil=>rfl | cons _ _=>exact a2.elim
        subst ec;rw[Qo]at e1;subst e1;split at k
        .obtain⟨⟨rfl,_⟩,_⟩:=cu;refine⟨_,_,h',β++[.row (.slice none 0 0)],k,le,Ext.append _ _,?_,?_⟩
         .rw[gY,lX];exact ok'.add (r:=.row t sh []) (v:=.row (.slice none 0 0)) (bV w none) (λb hb=>by rw[bg]at hb;simp[aA]at hb) (.inl ⟨rfl,rfl⟩)
         .refine⟨.slice none 0 0 :: us,e0,⟨⟨.row (.slice none 0 0),?_,rfl⟩,rfl,rfl⟩,gu rest hfl rd⟩;have:aQ T'=β.length:=by rw[ok'.len,iK,bF]
          rw[this];simp
        .exact⟨T',_,h',β,k,le,Ext.refl β,ok',u :: us,e0,⟨cu.1.mono le (Ext.refl β),cu.2⟩,gu rest hfl rd⟩
     .cases k
    .cases k
   .cases k
  .cases k
 .rename_i q;split at k
  .rename_i zs hzs;obtain⟨us,e0,a⟩:=(ac7 hzs cv:dh h β (.agg zs) y);split at k
   .exact⟨T,_,h,β,k,FH.le.refl h,Ext.refl β,ok,us,e0,a⟩
   .rename_i t sh off;split at k
    .rename_i hz;obtain⟨u,hu,hc⟩:=a.get (show zs[off]?=some (.v (.slice none 0 0)) by rw[<-eG];exact hz)
     obtain⟨⟨rfl,_⟩,_⟩:=hc;refine⟨_,_,h,β++[.row (.slice none 0 0)],k,FH.le.refl h,Ext.append _ _,?_,?_⟩
     .rw[gY,lX];exact ok.add (r:=.row t sh []) (v:=.row (.slice none 0 0)) (bV w none) (λb hb=>by rw[bg]at hb;simp[aA]at hb) (.inl ⟨rfl,rfl⟩)
     .refine⟨us,e0,?_⟩;rw[eY];refine(a.mono λ_ _ q=>⟨q.1.mono (FH.le.refl h) (Ext.append _ _),q.2⟩).set1 hu ⟨⟨.row (.slice none 0 0),?_,rfl⟩,rfl,rfl⟩
      have:aQ T=β.length:=by rw[ok.len,iK,bF]
      rw[this];simp
    .exact⟨T,_,h,β,k,FH.le.refl h,Ext.refl β,ok,us,e0,a⟩
  .cases k
theorem Ya:∀{cs:List RC}{vs:List SV}{ys:List Value}{T:List (Gd×ay)}{h:FH}{β:List RV}{K:List (Gd×ay)->List SV->Prop},OK B h0 (eff gl T) h β w->coK cs T vs K->aS (dh h β) vs ys ->
 ∃T' vs' h' β',K T' vs'/\h.le h'/\Ext β β'/\OK B h0 (eff gl T') h' β' w/\aS (dh h' β') vs' ys
 | [],vs,ys,T,h,β,K,ok,k,a=>⟨T,vs,h,β,k,FH.le.refl h,Ext.refl β,ok,a⟩
 | _ :: _,[],ys,T,h,β,K,ok,k,a=>⟨T,[],h,β,k,FH.le.refl h,Ext.refl β,ok,a⟩
 | c :: cs,v :: vs,y :: ys,T,h,β,K,ok,k,⟨cv,a⟩=>by
   obtain⟨T1,v1,h1,β1,k1,le1,eb1,ok1,c1⟩:=aiQ ok k cv;obtain⟨T2,vs2,h2,β2,k2,iD,eb2,ok2,c2⟩:=Ya ok1 k1 (a.mono λ_ _ q=>q.mono le1 eb1)
   exact⟨T2,v1 :: vs2,h2,β2,k2,le1.trans iD,λi u e=>eb2 i u (eb1 i u e),ok2,c1.mono iD eb2,c2⟩
end
abbrev uP(E:Env) (body:Code) (rs:List ResultVar) (args:List SV) (R:List ay->aZ->Prop):Prop:=
 jm E body { env:=BO 0 args,T:=[],gl:=[],gs:=[] } λe s=>match e with
  | .normal=>X8 E.cx s rs λvs=>coK E.rc s.T vs λT vs=>ads T vs R
  | .ret=>X8 E.cx s rs λvs=>coK E.rc s.T vs λT vs=>ads T vs R
  | _=>False
section
variable {B:Base}{h0:FH}{h:FH}{β:List RV}{w:World}{T:List (Gd×ay)}{gl:List Bool}
def ay.isRow:ay->Prop
 | .row _ _ _=>True
 | .deep _ _ _ _ _ _ _ _=>True
 | .mp _ _ _=>True
 | _=>False
structure tK (T:List ay) (acc:List (Nat×ay)):Prop where
 at_:∀p∈acc,T[p.1]?=some p.2/\p.2.isRow
 dup:∀(i j:Nat) p q,acc[i]?=some p->acc[j]?=some q->p.1=q.1->i=j
def lH(β:List RV) (acc:List (Nat×ay)):List RV:=acc.map λp=>β.getD p.1 .no
theorem xU:∀{acc:List (Nat×ay)}{i:Nat},O7 i acc=false->∀p∈acc,p.1≠i
 | [],i,_,p,hp=>by simp at hp
 | (j,r) :: l,i,h,p,hp=>by
   simp only[O7]at h;split at h
   .cases h
   .rename_i hij;rcases ni.1 hp with rfl | hp
    .exact λhh=>VY hij hh.symm
    .exact xU h p hp
theorem tK.snoc{T:List ay} (k:tK T acc){r:ay} (hT:T[i]?=some r) (hr:r.isRow) (hm:O7 i acc=false):tK T (acc++[(i,r)]) where
 at_:=by
  intro p hp;rw[FI]at hp;rcases hp with hp | hp
  .exact k.at_ p hp
  .simp at hp;subst hp;exact⟨hT,hr⟩
 dup:=by
  intro a b p q ha hb e;rcases aC ha with⟨h1,ha⟩ | ⟨h1,rfl⟩<;>rcases aC hb with⟨h2,hb⟩ | ⟨h2,rfl⟩
  .exact k.dup a b p q ha hb e
  .exact(xU hm p (iy ha) e).elim
  .exact(xU hm q (iy hb) e.symm).elim
  .omega
theorem EG(β:List RV) (acc ext:List (Nat×ay)):Ext (lH β acc) (lH β (acc++ext)):=by
 unfold lH;rw[NT];exact Ext.append _ _
theorem Rl(ok:OK B h0 (eff gl T) h β w){x x':SC}{acc':List (Nat×ay)} (e:selC T x acc=some (x',acc')) (k:tK (eff gl T) acc) (c:dY h β x y):
 tK (eff gl T) acc'/\(∃ext,acc'=acc++ext)/\dY h (lH β acc') x' y:=by
 unfold selC at e;split at e
 .cases e;exact⟨k,⟨[],by simp⟩,c⟩
 .cases e;exact⟨k,⟨[],by simp⟩,c⟩
 .cases e;exact⟨k,⟨[],by simp⟩,c⟩
 .cases e;exact⟨k,⟨[],by simp⟩,c⟩
 .cases e;exact⟨k,⟨[],by simp⟩,c⟩
 .rename_i i;split at e
  .rename_i t sh l hT;split at e
   .cases e
   .rename_i hm;cases e;have fQ:(eff gl T)[i]?=some (.row t sh l):=by rw[jB,<-eG,hT];rfl
    rw[gY];refine⟨k.snoc fQ trivial hm,⟨_,rfl⟩,?_⟩;obtain⟨u,c,cs⟩:=c;refine⟨u,?_,cs⟩;unfold lH;rw[NT,bF,NM (by simp)]
    simp[c]
  .rename_i t sh l t2 e2 so own hs hT;split at e
   .cases e
   .rename_i hm;cases e;have fQ:(eff gl T)[i]?=some (.deep t sh l t2 e2 so own hs):=by rw[jB,<-eG,hT];rfl
    rw[gY];refine⟨k.snoc fQ trivial hm,⟨_,rfl⟩,?_⟩;obtain⟨u,c,cs⟩:=c;refine⟨u,?_,cs⟩;unfold lH;rw[NT,bF,NM (by simp)]
    simp[c]
  .rename_i k2 sh l hT;split at e
   .cases e
   .rename_i hm;cases e;have fQ:(eff gl T)[i]?=some (.mp k2 sh l):=by rw[jB,<-eG,hT];rfl
    rw[gY];refine⟨k.snoc fQ trivial hm,⟨_,rfl⟩,?_⟩;obtain⟨u,c,cs⟩:=c;refine⟨u,?_,cs⟩;unfold lH;rw[NT,bF,NM (by simp)]
    simp[c]
  .cases e
 .cases e
theorem LQ(ok:OK B h0 (eff gl T) h β w):∀{xs xs':List SC}{acc acc':List (Nat×ay)}{ys:List Value},LM T xs acc=some (xs',acc')->tK (eff gl T) acc->aS (λx y=>dY h β x y/\dF y) xs ys ->
 tK (eff gl T) acc'/\(∃ext,acc'=acc++ext)/\aS (λx y=>dY h (lH β acc') x y/\dF y) xs' ys
 | [],xs',acc,acc',[],e,k,_=>by simp[LM]at e;obtain⟨rfl,rfl⟩:=e;exact⟨k,⟨[],by simp⟩,trivial⟩
 | x :: l,xs',acc,acc',y :: ys,e,k,⟨c,r⟩=>by
   unfold LM at e;split at e
   .rename_i x1 aiR h1;split at e
    .rename_i m apH h2;cases e;obtain⟨k1,⟨ext1,rfl⟩,c1⟩:=Rl ok h1 k c.1;obtain⟨k2,⟨aiS,rfl⟩,c2⟩:=LQ ok h2 k1 r;exact⟨k2,⟨ext1++aiS,by rw[zX]⟩,⟨c1.mono (FH.le.refl h) (EG _ _ _),c.2⟩,c2⟩
    .cases e
   .cases e
theorem adt(ok:OK B h0 (eff gl T) h β w){x x':SV}{acc':List (Nat×ay)} (e:aiO T x acc=some (x',acc')) (k:tK (eff gl T) acc) (c:dh h β x y):
 tK (eff gl T) acc'/\(∃ext,acc'=acc++ext)/\dh h (lH β acc') x' y:=by
 unfold aiO at e;split at e
 .split at e
  .rename_i y1 aiR h1;cases e;obtain⟨k1,e1,c1⟩:=Rl ok h1 k c.1;exact⟨k1,e1,c1,c.2⟩
  .cases e
 .split at e
  .rename_i y1 aiR h1;cases e;obtain⟨vs,e0,a⟩:=c;obtain⟨k1,e1,c1⟩:=LQ ok h1 k a;exact⟨k1,e1,vs,e0,c1⟩
  .cases e
 .cases e;exact⟨k,⟨[],by simp⟩,c⟩
 .cases e
theorem LU(ok:OK B h0 (eff gl T) h β w):∀{xs xs':List SV}{acc acc':List (Nat×ay)}{ys:List Value},LP T xs acc=some (xs',acc')->tK (eff gl T) acc->aS (dh h β) xs ys ->
 tK (eff gl T) acc'/\(∃ext,acc'=acc++ext)/\aS (dh h (lH β acc')) xs' ys
 | [],xs',acc,acc',[],e,k,_=>by simp[LP]at e;obtain⟨rfl,rfl⟩:=e;exact⟨k,⟨[],by simp⟩,trivial⟩
 | x :: l,xs',acc,acc',y :: ys,e,k,⟨c,r⟩=>by
   unfold LP at e;split at e
   .rename_i x1 aiR h1;split at e
    .rename_i m apH h2;cases e;obtain⟨k1,⟨ext1,rfl⟩,c1⟩:=adt ok h1 k c;obtain⟨k2,⟨aiS,rfl⟩,c2⟩:=LU ok h2 k1 r;exact⟨k2,⟨ext1++aiS,by rw[zX]⟩,dh.mono (FH.le.refl h) (EG _ _ _) c1,c2⟩
    .cases e
   .cases e
theorem Ji:∀(l:List (Nat×ay)),Vd l=l.map (·.2)
 | []=>rfl
 | (_,r) :: l=>by simp[Vd,Ji l]
theorem OK.pick{T:List ay} (ok:OK B h0 T h β w) (k:tK T acc):OK B h0 (Vd acc) h (lH β acc) w:=by
 have get:∀{i:Nat}{r:ay}{v:RV},(Vd acc)[i]?=some r->(lH β acc)[i]?=some v->∃p,acc[i]?=some p/\T[p.1]?=some r/\β[p.1]?=some v/\r.isRow:=by
  intro i r v e e';rw[Ji,Dj]at e;unfold lH at e';rw[Dj]at e';cases hp:acc[i]? with
  | none=>rw[hp]at e;cases e
  | some p=>
    rw[hp]at e e';cases e;cases e';obtain⟨h1,h2⟩:=k.at_ p (iy hp);have iQ:p.1 < β.length:=by rw[ok.len];exact(A8.1 h1).1
    exact⟨p,rfl,h1,by simp[iQ],h2⟩
 exact {
  below:=ok.below
  dr:=ok.dr
  len:=by rw[Ji];simp[lH]
  holds:=by
   intro i r v e e';obtain⟨p,_,h1,h2,hr⟩:=get e e';have:=ok.holds _ _ _ h1 h2;cases r with
   | row _ _ _=>
     cases v with
     | row y=>exact this
     | _=>exact this.elim
   | deep _ _ _ _ _ _ _ _=>
     cases v with
     | deep y us=>exact this
     | _=>exact this.elim
   | mp _ _ _=>
     cases v with
     | row y=>exact this
     | _=>exact this.elim
   | NI _ _ _ _=>exact hr.elim
   | it _ _ _ _=>exact hr.elim
   | Kv _ _ _ _=>exact hr.elim
   | Gp _ _ _ _=>exact hr.elim
   | blk _ _=>exact hr.elim
   | obj _ _ _=>exact hr.elim
   | gone=>exact hr.elim
  own:=by
   intro i r v b e l e' hb;obtain⟨p,_,h1,h2,_⟩:=get e e';exact ok.own _ r v b h1 l h2 hb
  inj:=by
   intro i j r r' u v b e l e' l' f f' hb hb';obtain⟨p,p1,h1,h2,_⟩:=get e f;obtain⟨q,q1,h3,h4,_⟩:=get e' f';exact k.dup i j p q p1 q1 (ok.inj _ _ r r' u v b h1 l h3 l' h2 h4 hb hb')
  hle:=ok.hle
  hw:=ok.hw
  hg:=ok.hg
  kn:=ok.kn }
end
def Jj(a:Act):ResultVar->Sem Value
 | .tmp t=>pure (a.tmps.getD t undef)
 | .cell p t=>do loadVar t (<-asAddr (a.tmps.getD p undef))
theorem adu(hc:bT P cx.ti) (aj:Sat N B h0 s h β w a){r:ResultVar}{K:SV->Prop} (k:resV cx s r K):
 ∃v y,K v/\(Jj a r).run P w=.ok y w/\dh h β v y:=by
 unfold resV at k;split at k
 .rename_i t;split at k
  .rename_i v hv;obtain⟨z,q1,q2,_⟩:=aj.env _ _ _ hv;exact⟨v,z,k,by simp[Jj,q1],q2 rfl⟩
  .cases k
 .rename_i p t;split at k
  .rename_i q hq;obtain⟨z,q1,q2,_⟩:=aj.env _ _ _ hq;obtain⟨e,k1,k2⟩:=DC hc aj k;split at k1
   .rename_i v;obtain⟨y,r1,r2⟩:=k2 rfl z (q2 rfl).1;refine⟨v,y,k1,?_,r2⟩;have hz:∃ad,z=.pointer (some ad):=by
     have c:=(q2 rfl).1;cases q with
     | v x=>
       unfold uo at k;split at k
       .cases k
       .cases k
     | sl _ _=>
       unfold uo at k;split at k
       .cases k
       .cases k
     | fp _ _=>obtain⟨b,o,_,e,_⟩:=c;exact⟨_,e⟩
     | own _ _=>obtain⟨b,_,e⟩:=c;exact⟨_,e⟩
     | row _=>
       unfold uo at k;split at k
       .cases k
       .cases k
     | jS _ _ _ _=>obtain⟨_,g,_,_,e⟩:=c;exact⟨_,e⟩
     | lQ _ _ _ _ _=>obtain⟨_,_,g,_,_,e⟩:=c;exact⟨_,e⟩
     | sub _ _=>
       unfold uo at k;split at k
       .cases k
       .cases k
     | one _ _=>
       unfold uo at k;split at k
       .cases k
       .cases k
     | abs _=>
       unfold uo at k;split at k
       .cases k
       .cases k
     | junk=>
       unfold uo at k;split at k
       .cases k
       .cases k
    obtain⟨ad,rfl⟩:=hz;have hg:a.tmps.getD p undef=.pointer (some ad):=by simp[q1]
    simp only[Jj];rw[hg];simpa[Instr.loadAt,Instr.sureAddr,asAddr]using r1 w (mD.refl w)
   .cases k1
  .cases k
theorem Rn{cx:Cx}{P:Program} (hc:bT P cx.ti){N:Nat}{B:Base}{h0:FH}{s:St}{h:FH}{β:List RV}{w:World}{a:Act} (aj:Sat N B h0 s h β w a):∀{rs:List ResultVar}{K:List SV->Prop},X8 cx s rs K ->
 ∃vs ys,K vs/\(rs.mapM (Jj a)).run P w=.ok ys w/\aS (dh h β) vs ys
 | [],K,k=>⟨[],[],k,rfl,trivial⟩
 | r :: l,K,k=>by
   obtain⟨v,y,k1,r1,c1⟩:=adu hc aj k;obtain⟨vs,ys,k2,r2,c2⟩:=Rn hc aj k1;refine⟨v :: vs,y :: ys,k2,?_,c1,c2⟩;rw[List.mapM_cons];simp only[Sem.run_bind,Sem.run_pure];rw[r1];simp only[Result.andThen_ok];rw[r2];rfl
theorem O9(fn:Func) (a:Act):results fn a.tmps=(do let vs <-fn.results.mapM (Jj a);pure (if h:vs.size=1 then vs[0] else .tuple vs):Sem Value):=by
 unfold results
 congr 1
theorem Bq{fn:Func}{ys:List Value}
 (h:((tl fn.results).mapM (Jj a)).run P w=.ok ys w):
 (results fn a.tmps).run P w=.ok (match ys with | [y]=>y | _=>.tuple ys.toArray) w:=by
 rw[O9];have e:(fn.results.mapM (Jj a)).run P w=.ok ys.toArray w:=by
  cases hr:fn.results with
  | mk l=>
    rw[hr]at h;have e2:=List.mapM_toArray (m:=Sem) (f:=(Jj a)) (l:=l);refine(rJ (λx=>Sem.run P x w) e2).trans ?_
    simp only[Sem.run_map];rw[show Sem.run P (List.mapM (Jj a) l) w=_ from h];rfl
 simp only[Sem.run_bind];rw[e];simp only[Result.andThen_ok,Sem.run_pure]
 congr 1
 match ys with
 | []=>rfl
 | [y]=>rfl
 | _ :: _ :: _=>simp
abbrev jL(fn:Func):Code:=match fn.body with
 | some c=>c
 | none=>.skip
theorem Bv{P:Program}{fn:Func}{tmps:Array Value}{R:Ending->World->Prop}{N:Nat}{B:World}{h0:FH}{s:St}{h:FH}{β:List RV}:∀(X:List Nat){w:World},X.Nodup->(∀D∈X,B.heap.size<=D/\w.heap[D]?=some (.deferred (some []))) ->
 Sat N (Base.of B) h0 s h β w { tmps:=tmps,defers:=[] }->(∀w',Sat N (Base.of B) h0 s h β w' { tmps:=tmps,defers:=[] }->∃v,(results fn tmps).run P w'=.ok v w'/\R (.returned v) w') ->
 LeavesInM Fence.wide 0 P fn tmps R (X.map (λD=>({ target:=.collected D,args:=#[] }:Deferred))) .returning w
 | [],w,_,_,aj,fin=>fin w aj
 | D :: X,w,hn,hx,aj,fin=>by
   obtain⟨h1,h2⟩:=hx D (by simp)
   have hn:=Uc.1 hn;refine⟨λhh=>(by cases hh),.inl ⟨D,w.putObj D (.deferred none),rfl,run_takeDeferred h2,?_⟩⟩
   refine Bv X hn.2 (λD' hD'=>?_) ⟨aj.ok.turn h1 (λk u hk=>hk.elim) h2 rfl,aj.env,aj.gs,N8.nil rfl,aj.sz,aj.gb,aj.gT⟩ fin
   obtain⟨g1,g2⟩:=hx D' (by simp[hD'])
   refine⟨g1,(World.putObj_heap_other ?_).trans g2⟩;rintro rfl;exact hn.1 hD'
abbrev Jk:List Value->List SV
 | []=>[]
 | v :: l=>.c (.v v) :: Jk l
theorem Ro{h:FH}{β:List RV}:∀{l:List Value},(∀v∈l,Dt v=true)->aS (dh h β) (Jk l) l
 | [],_=>trivial
 | v :: l,hh=>⟨⟨⟨rfl,qK (hh v (by simp))⟩,qK (hh v (by simp))⟩,Ro λu hu=>hh u (by simp[hu])⟩
theorem aS.append{α β:Type}{R:α->β->Prop}:∀{l l':List α}{m m':List β},aS R l m->aS R l' m'->aS R (l++l') (m++m')
 | [],_,[],_,_,h=>h
 | _ :: _,_,_ :: _,_,⟨a,b⟩,h=>⟨a,aS.append b h⟩
theorem Pe(ok:gI P E){fn:Func}{sv:List SV} (hf:P.funcs[f]?=some fn) (hb:fn.body=some body) (hn:fn.ntmps=E.n) (hle:Nat.ble (aQ ct.ps+aQ sv) E.n=true)
 (k:∀d,ct.pre d->∃ann,uP { E with ann:=ann } body (tl fn.results) (fA (fC ct.ps d) sv) λT e=>(ct.res d).1=T/\(ct.res d).2=e):CTS P E.cx.gd f sv ct:=by
 intro d vs suf h B hw hg hargs hys aF;obtain⟨ann,kk⟩:=k d aF;have ok:gI P { E with ann:=ann }:=⟨ok.prog,ok.hc,ok.XI,ok.mixed,ok.ti,ok.ct,ok.ip,ok.sq,ok.sf⟩
 have hlen:∀{ss:List Sh}{d:bU ss},(fC ss d).length=aQ ss:=by
  intro ss
  induction ss with
  | nil=>intro d;rfl
  | cons s l ih=>intro d;simp[fC,aQ,ih]
 have hvl:vs.length=aQ ct.ps:=by rw[<-hargs.length,hlen]
 have hvn:(vs++suf).length<=E.n:=by rw[kC,hvl,<-hys.length,<-bF sv];exact qm hle
 replace hargs:aS (dh h []) (fA (fC ct.ps d) sv) (vs++suf):=by
  rw[fM];exact hargs.append hys
 generalize fA (fC ct.ps d) sv=av at hargs kk;clear hvl hys;generalize vs++suf=vs at hargs hvn ⊢;refine callsIn_wide.1 (callsIn_of_wp_marks (F:=Fence.wide) (n:=0) hf hb trivial ?_);have aj:Sat E.n (Base.of B) h { env:=BO 0 av,T:=[],gl:=[],gs:=[] } h [] B { tmps:=vs.toArray++Array.replicate (fn.ntmps - vs.toArray.size) undef,defers:=[] }:=by
  have look:∀{xs:List SV}{ys:List Value}{n t:Nat}{G:Gd}{e:aZ},aS (dh h []) xs ys->iF (BO n xs) t=some (G,e)->∃y,G=[]/\n<=t/\ys[t - n]?=some y/\jF h [] e y:=by
   intro xs
   induction xs with
   | nil=>intro ys n t G e _ hh;simp[BO,iF]at hh
   | cons x xs ih=>
     intro ys n t G e a hh;cases ys with
     | nil=>exact a.elim
     | cons y ys=>
       simp only[BO]at hh;rw[bC]at hh;split at hh
       .rename_i hk;subst hk;cases hh;exact⟨y,rfl,pz _,by simp,a.1⟩
       .obtain⟨u,h1,h2,h3,h4⟩:=ih a.2 hh;refine⟨u,h1,by omega,?_,h4⟩
        rw[show t - n=(t - (n+1))+1 by omega]
        simpa using h3
  refine⟨⟨Bw.refl (Base.of B),pz _,rfl,λi r v e _=>by simp[eff]at e,λi r v b e _ _ _=>by simp[eff]at e,λi j r r' u v b e _ _ _ _ _ _ _=>by simp[eff]at e,FH.le.refl h,hw,λb o v hh=>.inl hh,λk o hh=>hh.elim⟩,?_,?_,N8.nil rfl,?_,?_,?_⟩
  .intro t G e ht;obtain⟨y,rfl,h2,h3,h4⟩:=look hargs ht;simp only[Nat.sub_zero]at h3;refine⟨y,?_,λ_=>h4,λhh=>by cases hh⟩
   rw[Array.getElem?_append_left (by have:=(A8.1 h3).1;simpa using this)]
   simpa using h3
  .intro d i hi;cases hi
  .simp only[A85,FT,Array.size_replicate];omega
  .intro t G e ht;obtain⟨y,rfl,_⟩:=look hargs ht;rfl
  .intro p hp;cases hp
 refine iY body ok hg (.inl rfl) (λ_=>rfl) aj kk λe s' h' β' w' a' B' lb k' le aW sm=>?_
 have fin:X8 E.cx s' (tl fn.results) (λvs=>coK E.rc s'.T vs λT vs=>ads T vs λT e=>(ct.res d).1=T/\(ct.res d).2=e) ->
  LeavesInM Fence.wide 0 P fn a'.tmps (λen w'=>∃h' β y,en=.returned y/\OK (Base.of B) h (ct.res d).1 h' β w'/\jF h' β (ct.res d).2 y) a'.defers .returning w':=by
  intro kr;obtain⟨X,x1,x2,x3⟩:=aW.defers;rw[x1];have e0:B'.toWorld=B:=lb.1.1;have ea:B'.al=(Base.of B).al:=lb.1.2.1;have nd:∀D∈X,B.heap.size<=D/\w'.heap[D]?=some (.deferred (some [])):=λD hD=>⟨by have:=(x3 D hD).1;rw[ea]at this;exact this,aW.ok.kn D _ (x3 D hD).2⟩
  have jl:Sat E.n (Base.of B) h s' h' β' w' { tmps:=a'.tmps,defers:=[] }:=
   ⟨aW.ok.O6 (B':=Base.of B) (by rw[e0]) (by rw[ea]) (λk o hh=>hh.elim),aW.env,aW.gs,N8.nil rfl,aW.sz,aW.gb,aW.gT⟩
  refine Bv X x2 nd jl λw' aW=>?_
  replace kr:=kr
  obtain⟨vs,ys,k1,r1,c1⟩:=Rn ok.ti aW kr;obtain⟨T1,vs1,h1,β1,k1,le1,eb1,ok1,c1⟩:=Ya aW.ok k1 c1;unfold ads at k1;split at k1
  .rename_i vs' acc hsel;obtain⟨e1,e2⟩:=k1;obtain⟨ka,_,c2⟩:=LU ok1 hsel ⟨λp hp=>by simp at hp,λi j p q hp=>by simp at hp⟩ c1
   refine⟨_,Bq r1,h1,_,_,rfl,by rw[e1];exact ok1.pick ka,?_⟩
   rw[e2]
   match vs',ys,c2 with
   | [],[],c2=>exact⟨[],rfl,c2⟩
   | [v],[y],c2=>exact c2.1
   | _ :: _ :: _,y :: z :: ys,c2=>exact⟨_,rfl,c2⟩
  .cases k1
 cases e with
 | normal=>exact fin k'
 | ret=>exact fin k'
 | exit i=>exact k'.elim
 | goto l=>exact k'.elim
 | panic ch=>exact k'.elim
 | outgrown=>exact k'.elim
theorem Yb(ok:gI P E){fn:Func}{suf:List Value} (adv:∀v∈suf,Dt v=true) (hf:P.funcs[f]?=some fn) (hb:fn.body=some body) (hn:fn.ntmps=E.n) (hle:Nat.ble (aQ ct.ps+aQ suf) E.n=true)
 (k:∀d,ct.pre d->∃ann,uP { E with ann:=ann } body (tl fn.results) (fA (fC ct.ps d) (Jk suf)) λT e=>(ct.res d).1=T/\(ct.res d).2=e):CTX P E.cx.gd f suf ct:=by
 intro d vs h B hw hg hargs aF;have hl:aQ (Jk suf)=aQ suf:=by
  clear hle k adv
  induction suf with
  | nil=>rfl
  | cons v l ih=>simp[Jk,aQ,ih]
 exact Pe ok hf hb hn (by rw[hl];exact hle) k d vs suf h B hw hg hargs (Ro adv) aF
theorem Yc(ok:gI P E){fn:Func} (hf:P.funcs[f]?=some fn) (hb:fn.body=some body) (hn:fn.ntmps=E.n) (hle:Nat.ble (aQ ct.ps) E.n=true)
 (k:∀d,ct.pre d->∃ann,uP { E with ann:=ann } body (tl fn.results) (fC ct.ps d) λT e=>(ct.res d).1=T/\(ct.res d).2=e):II P E.cx.gd f ct:=
 (Yb (suf:=[]) ok (λv hv=>by cases hv) hf hb hn (by simpa[aQ]using hle) (λd hd=>by
  obtain⟨ann,kk⟩:=k d hd;exact⟨ann,by rw[show fA (fC ct.ps d) (Jk [])=fC ct.ps d by rw[fM];simp[Jk]];exact kk⟩)).ok
abbrev Yd:List (Nat×CT)->Nat->Option CT
 | [],_=>none
 | (k,e) :: l,n=>cnd (Nat.beq k n) (some e) (Yd l n)
def Met(P:Program) (gd:Nat->Option (Sigma Sh.den)) (f:FuncId) (c:CT):Prop:=II P gd f c/\FW P f
def lI(P:Program) (gd:Nat->Option (Sigma Sh.den)):List (Nat×CT)->Prop
 | []=>True
 | (k,c) :: l=>Met P gd k c/\lI P gd l
theorem lI.get{P:Program}{gd:Nat->Option (Sigma Sh.den)}:∀{l:List (Nat×CT)}{f:Nat}{c:CT},lI P gd l->Yd l f=some c->Met P gd f c
 | [],_,_,_,e=>by simp[Yd]at e
 | (k,x) :: l,t,i,⟨h1,h2⟩,e=>by
   simp only[Yd,jY]at e;split at e
   .rename_i hk;have:k=t:=by simpa using hk
    subst this;cases e;exact h1
   .exact lI.get h2 e
abbrev lkI:List (Nat×IP)->Nat->Option IP
 | [],_=>none
 | (k,e) :: l,n=>cnd (Nat.beq k n) (some e) (lkI l n)
def Rq(P:Program) (gd:Nat->Option (Sigma Sh.den)) (f:FuncId) (c:IP):Prop:=UF P gd f c/\FW P f
def EH(P:Program) (gd:Nat->Option (Sigma Sh.den)):List (Nat×IP)->Prop
 | []=>True
 | (k,c) :: l=>Rq P gd k c/\EH P gd l
theorem EH.get{P:Program}{gd:Nat->Option (Sigma Sh.den)}:∀{l:List (Nat×IP)}{f:Nat}{c:IP},EH P gd l->lkI l f=some c->Rq P gd f c
 | [],_,_,_,e=>by simp[lkI]at e
 | (k,x) :: l,t,i,⟨h1,h2⟩,e=>by
   simp only[lkI,jY]at e;split at e
   .rename_i hk;have:k=t:=by simpa using hk
    subst this;cases e;exact h1
   .exact EH.get h2 e
theorem Pg{il:List (Nat×IP)} (mx:P.follows .mixedOrders=true) (ti:bT P cx.ti) (cm:lI P cx.gd cl) (im:EH P cx.gd il){fn:Func} (hf:P.funcs[f]?=some fn) (hb:fn.body=some (jL fn)) (hn:fn.ntmps=n) (hle:Nat.ble (aQ ct.ps) n=true)
 (hs:fn.body.isSome=true) (hname:(fn.name == "runtime.NumGoroutine")=false)
 (k:∀d,ct.pre d->∃ann,uP { cx:=cx,n:=n,ct:=Yd cl,ann:=ann,ip:=lkI il,rc:=rc } (jL fn) (tl fn.results) (fC ct.ps d) λT e=>(ct.res d).1=T/\(ct.res d).2=e):Met P cx.gd f ct:=
 ⟨Yc (E:={ cx:=cx,n:=n,ct:=Yd cl,ann:=λ_=>none,ip:=lkI il,rc:=rc }) ⟨λP' e=>(by cases e),λ_ _ _ e=>(by cases e),λ_ _ e=>(by cases e),mx,ti,λf c h=>⟨(cm.get h).1,(cm.get h).2⟩,λf c h=>⟨(im.get h).1,(im.get h).2⟩,λ_ _ e=>(by cases e),λ_ _ e=>(by cases e)⟩ hf hb hn hle k,⟨fn,hf,hs,hname⟩⟩
theorem aiU(mx:P.follows .mixedOrders=true) (ti:bT P cx.ti) (cm:lI P cx.gd cl){fn:Func} (hf:P.funcs[f]?=some fn) (hb:fn.body=some (jL fn)) (hn:fn.ntmps=n) (hle:Nat.ble (aQ ct.ps) n=true)
 (hs:fn.body.isSome=true) (hname:(fn.name == "runtime.NumGoroutine")=false)
 (k:∀d,ct.pre d->∃ann,uP { cx:=cx,n:=n,ct:=Yd cl,ann:=ann } (jL fn) (tl fn.results) (fC ct.ps d) λT e=>(ct.res d).1=T/\(ct.res d).2=e):Met P cx.gd f ct:=
 ⟨Yc (E:={ cx:=cx,n:=n,ct:=Yd cl,ann:=λ_=>none }) ⟨λP' e=>(by cases e),λ_ _ _ e=>(by cases e),λ_ _ e=>(by cases e),mx,ti,λf c h=>⟨(cm.get h).1,(cm.get h).2⟩,λf c h=>(by cases h),λ_ _ e=>(by cases e),λ_ _ e=>(by cases e)⟩ hf hb hn hle k,⟨fn,hf,hs,hname⟩⟩
def Ye(P:Program) (gd:Nat->Option (Sigma Sh.den)) (g:Nat) (m:MK):Prop:=
 ∀d h lb,m.pre d->aI gd h->capD h m.ss d lb->(m.f d).rel h (.func (.func g) #[] lb.toArray)
abbrev lkM:List (Nat×MK)->Nat->Option MK
 | [],_=>none
 | (k,e) :: l,n=>cnd (Nat.beq k n) (some e) (lkM l n)
def zi(P:Program) (gd:Nat->Option (Sigma Sh.den)):List (Nat×MK)->Prop
 | []=>True
 | (k,c) :: l=>Ye P gd k c/\zi P gd l
theorem zi.get{P:Program}{gd:Nat->Option (Sigma Sh.den)}:∀{l:List (Nat×MK)}{f:Nat}{c:MK},zi P gd l->lkM l f=some c->Ye P gd f c
 | [],_,_,_,e=>by simp[lkM]at e
 | (k,x) :: l,t,i,⟨h1,h2⟩,e=>by
   simp only[lkM,jY]at e;split at e
   .rename_i hk;have:k=t:=by simpa using hk
    subst this;cases e;exact h1
   .exact zi.get h2 e
def Jl(P:Program) (gd:Nat->Option (Sigma Sh.den)) (f:FuncId) (suf:List Value) (c:CT):Prop:=CTX P gd f suf c/\FW P f
abbrev lkH:List (Nat×Nat×CT)->Nat->Nat->Option CT
 | [],_,_=>none
 | (k,g,e) :: l,n,m=>cnd (dD (Nat.beq k n) (Nat.beq g m)) (some e) (lkH l n m)
def GZ(P:Program) (gd:Nat->Option (Sigma Sh.den)):List (Nat×Nat×CT)->Prop
 | []=>True
 | (k,g,c) :: l=>Jl P gd k [.func (.func g) #[] #[]] c/\GZ P gd l
theorem GZ.get{P:Program}{gd:Nat->Option (Sigma Sh.den)}:∀{l:List (Nat×Nat×CT)}{f g:Nat}{c:CT},GZ P gd l->lkH l f g=some c->Jl P gd f [.func (.func g) #[] #[]] c
 | [],_,_,_,_,e=>by simp[lkH]at e
 | (k,g',x) :: l,t,g,i,⟨h1,h2⟩,e=>by
   simp only[lkH,jY,aB]at e;split at e
   .rename_i hk;rw[bY]at hk;have e1:k=t:=iC hk.1;have e2:g'=g:=iC hk.2;subst e1;subst e2;cases e;exact h1
   .exact GZ.get h2 e
abbrev Yf(P:Program) (cx:Cx) (n:Nat) (cl:List (Nat×CT)) (il:List (Nat×IP)) (hl:List (Nat×Nat×CT)) (ml:List (Nat×MK)) (rc:List RC) (lits:List Nat) (ann:Nat->Option (St->jv)):Env:=
 { cx:=cx,n:=n,ct:=Yd cl,ann:=ann,ip:=lkI il,rc:=rc,lits:=lits,P:=some P,hc:=lkH hl,XI:=lkM ml }
theorem Rt{il:List (Nat×IP)}{hl:List (Nat×Nat×CT)}{lits:List Nat}{ann:Nat->Option (St->jv)}
 (mx:P.follows .mixedOrders=true) (ti:bT P cx.ti) (cm:lI P cx.gd cl) (im:EH P cx.gd il) (hm:GZ P cx.gd hl) (mm:zi P cx.gd ml):gI P (Yf P cx n cl il hl ml rc lits ann) where
 prog:=λP' e=>by cases e;rfl
 hc:=λf g c e=>hm.get e
 XI:=λg fx e=>mm.get e
 mixed:=mx
 ti:=ti
 ct:=λf c h=>cm.get h
 ip:=λf c h=>im.get h
 sq:=λf c h=>by cases h
 sf:=λf c h=>by cases h
theorem nT{il:List (Nat×IP)}{hl:List (Nat×Nat×CT)}{lits:List Nat}{suf:List Value}
 (mx:P.follows .mixedOrders=true) (ti:bT P cx.ti) (cm:lI P cx.gd cl) (im:EH P cx.gd il) (hm:GZ P cx.gd hl) (mm:zi P cx.gd ml){fn:Func} (hf:P.funcs[f]?=some fn) (hb:fn.body=some (jL fn)) (hn:fn.ntmps=n)
 (hle:Nat.ble (aQ ct.ps+aQ suf) n=true) (hs:fn.body.isSome=true) (hname:(fn.name == "runtime.NumGoroutine")=false) (adv:∀v∈suf,Dt v=true)
 (k:∀d,ct.pre d->∃ann,uP (Yf P cx n cl il hl ml rc lits ann) (jL fn) (tl fn.results) (fA (fC ct.ps d) (Jk suf)) λT e=>(ct.res d).1=T/\(ct.res d).2=e):Jl P cx.gd f suf ct:=
 ⟨Yb (E:=Yf P cx n cl il hl ml rc lits λ_=>none) (Rt mx ti cm im hm mm) adv hf hb hn hle k,⟨fn,hf,hs,hname⟩⟩
def ank(P:Program) (gd:Nat->Option (Sigma Sh.den)) (f:FuncId) (q:SQ):Prop:=(∀L,CTS P gd f [.c (.abs (.seq P q.ss L))] (q.ct L))/\FW P f
abbrev lkQ:List (Nat×SQ)->Nat->Option SQ
 | [],_=>none
 | (k,e) :: l,n=>cnd (Nat.beq k n) (some e) (lkQ l n)
def adw(P:Program) (gd:Nat->Option (Sigma Sh.den)):List (Nat×SQ)->Prop
 | []=>True
 | (k,c) :: l=>ank P gd k c/\adw P gd l
theorem adw.get{P:Program}{gd:Nat->Option (Sigma Sh.den)}:∀{l:List (Nat×SQ)}{f:Nat}{c:SQ},adw P gd l->lkQ l f=some c->ank P gd f c
 | [],_,_,_,e=>by simp[lkQ]at e
 | (k,x) :: l,t,i,⟨h1,h2⟩,e=>by
   simp only[lkQ,jY]at e;split at e
   .rename_i hk;have:k=t:=by simpa using hk
    subst this;cases e;exact h1
   .exact adw.get h2 e
def adx(P:Program) (gd:Nat->Option (Sigma Sh.den)) (f:FuncId) (q:SF):Prop:=(∀pre g,CTS P gd f [.c (.abs (.clo P q.ss q.r pre g))] (q.ct pre g))/\FW P f
abbrev lkF:List (Nat×SF)->Nat->Option SF
 | [],_=>none
 | (k,e) :: l,n=>cnd (Nat.beq k n) (some e) (lkF l n)
def Ph(P:Program) (gd:Nat->Option (Sigma Sh.den)):List (Nat×SF)->Prop
 | []=>True
 | (k,c) :: l=>adx P gd k c/\Ph P gd l
theorem Ph.get{P:Program}{gd:Nat->Option (Sigma Sh.den)}:∀{l:List (Nat×SF)}{f:Nat}{c:SF},Ph P gd l->lkF l f=some c->adx P gd f c
 | [],_,_,_,e=>by simp[lkF]at e
 | (k,x) :: l,t,i,⟨h1,h2⟩,e=>by
   simp only[lkF,jY]at e;split at e
   .rename_i hk;have:k=t:=by simpa using hk
    subst this;cases e;exact h1
   .exact Ph.get h2 e
abbrev Pj(P:Program) (cx:Cx) (n:Nat) (cl:List (Nat×CT)) (ml:List (Nat×MK)) (fl:List (Nat×SF)) (rc:List RC) (ann:Nat->Option (St->jv)):Env:=
 { cx:=cx,n:=n,ct:=Yd cl,ann:=ann,rc:=rc,P:=some P,XI:=lkM ml,sf:=lkF fl }
theorem Jm{fl:List (Nat×SF)}{ann:Nat->Option (St->jv)}
 (mx:P.follows .mixedOrders=true) (ti:bT P cx.ti) (cm:lI P cx.gd cl) (mm:zi P cx.gd ml) (fm:Ph P cx.gd fl):gI P (Pj P cx n cl ml fl rc ann) where
 prog:=λP' e=>by cases e;rfl
 hc:=λf g c e=>by cases e
 XI:=λg fx e=>mm.get e
 mixed:=mx
 ti:=ti
 ct:=λf c h=>cm.get h
 ip:=λf c h=>by cases h
 sq:=λf c h=>by cases h
 sf:=λf c h=>fm.get h
theorem aiV{fl:List (Nat×SF)}{q:SF}
 (mx:P.follows .mixedOrders=true) (ti:bT P cx.ti) (cm:lI P cx.gd cl) (mm:zi P cx.gd ml) (fm:Ph P cx.gd fl){fn:Func} (hf:P.funcs[f]?=some fn) (hb:fn.body=some (jL fn)) (hn:fn.ntmps=n)
 (hle:∀pre g,Nat.ble (aQ (q.ct pre g).ps+1) n=true) (hs:fn.body.isSome=true) (hname:(fn.name == "runtime.NumGoroutine")=false)
 (k:∀pre g d,(q.ct pre g).pre d->∃ann,uP (Pj P cx n cl ml fl rc ann) (jL fn) (tl fn.results) (fA (fC (q.ct pre g).ps d) [.c (.abs (.clo P q.ss q.r pre g))]) λT e=>((q.ct pre g).res d).1=T/\((q.ct pre g).res d).2=e):adx P cx.gd f q:=
 ⟨λpre g=>Pe (E:=Pj P cx n cl ml fl rc λ_=>none) (Jm mx ti cm mm fm) hf hb hn (hle pre g) (k pre g),⟨fn,hf,hs,hname⟩⟩
theorem ady{fl:List (Nat×SF)}
 (mx:P.follows .mixedOrders=true) (ti:bT P cx.ti) (cm:lI P cx.gd cl) (mm:zi P cx.gd ml) (fm:Ph P cx.gd fl){fn:Func} (hf:P.funcs[f]?=some fn) (hb:fn.body=some (jL fn)) (hn:fn.ntmps=n)
 (hle:Nat.ble (aQ ct.ps) n=true) (hs:fn.body.isSome=true) (hname:(fn.name == "runtime.NumGoroutine")=false)
 (k:∀d,ct.pre d->∃ann,uP (Pj P cx n cl ml fl rc ann) (jL fn) (tl fn.results) (fC ct.ps d) λT e=>(ct.res d).1=T/\(ct.res d).2=e):Met P cx.gd f ct:=
 ⟨Yc (E:=Pj P cx n cl ml fl rc λ_=>none) (Jm mx ti cm mm fm) hf hb hn hle k,⟨fn,hf,hs,hname⟩⟩
theorem Jl.met{gd:Nat->Option (Sigma Sh.den)}{c:CT} (h:Jl P gd f [] c):Met P gd f c:=⟨h.1.ok,h.2⟩
theorem dQ(ti:bT P cx.ti) (cm:lI P cx.gd cl){fn:Func} (hf:P.funcs[f]?=some fn)
 (k:∀d,ct.pre d->∃ann,uP (Yf P cx n cl [] [] [] rc [] ann) (jL fn) (tl fn.results) (fA (fC ct.ps d) (Jk [])) λT e=>(ct.res d).1=T/\(ct.res d).2=e)
 (mx:P.follows .mixedOrders=true:=by kernel_rfl) (hb:fn.body=some (jL fn):=by kernel_rfl) (hn:fn.ntmps=n:=by rfl) (hle:Nat.ble (aQ ct.ps+aQ ([]:List Value)) n=true:=by kernel_rfl)
 (hs:fn.body.isSome=true:=by kernel_rfl) (hname:(fn.name == "runtime.NumGoroutine")=false:=by kernel_rfl):Met P cx.gd f ct:=
 (nT (il:=[]) (hl:=[]) (ml:=[]) (lits:=[]) (suf:=[]) mx ti cm trivial trivial trivial hf hb hn hle hs hname (by simp) k).met
theorem jG(ti:bT P cx.ti) (cm:lI P cx.gd cl){fn:Func} (hf:P.funcs[f]?=some fn)
 (k:∀d,ct.pre d->∃ann,uP { cx:=cx,n:=n,ct:=Yd cl,ann:=ann } (jL fn) (tl fn.results) (fC ct.ps d) λT e=>(ct.res d).1=T/\(ct.res d).2=e)
 (mx:P.follows .mixedOrders=true:=by kernel_rfl) (hb:fn.body=some (jL fn):=by kernel_rfl) (hn:fn.ntmps=n:=by rfl) (hle:Nat.ble (aQ ct.ps) n=true:=by kernel_rfl)
 (hs:fn.body.isSome=true:=by kernel_rfl) (hname:(fn.name == "runtime.NumGoroutine")=false:=by kernel_rfl):Met P cx.gd f ct:=
 aiU mx ti cm hf hb hn hle hs hname k
end Go.jf
