/- Part 4 of the proof. Conditions: the rows'. -/
import Derived.Test.YtjhenjhcbcalpaaGreatDoorB3
import Derived.Deep.LoopGhost
set_option linter.unusedSimpArgs false
set_option linter.unusedVariables false
set_option maxRecDepth 1000000
set_option maxHeartbeats 8000000
namespace Go.ni
open Go Go.RowKit
variable {P:Program}{N i n:Nat}{B:Base}{h0 h:FH}{w A:World}{a b:Act}{o:Oper}{K:St->Prop}{s:St}{β β':List RV}{ops:Array Oper}{f:FuncId}{Q:Exit->Act->World->Prop}{T:List (Gd×au)}{body:Code}{y:Value}{acc:List (Nat×au)}{cx:Cx}{ct:CT}{cl:List (Nat×CT)}{ml:List (Nat×MK)}
structure LA where
 α:Type
 slots:α->List (Nat×SV)
 res:α->List (Nat×au)
 inv:α->Prop
 meas:α->Nat
 ren:List (Nat×Nat):=[]
 drop:List Nat:=[]
 nil:List (Nat×TypeId×Sh):=[]
 H6:List Nat:=[]
 pad:Nat:=0
 wu:List Nat:=[]
 deep:List (Nat×TypeId×Sh×Nat):=[]
 uy:List (Nat×Nat×TypeId×Sh):=[]
 can:List (Nat×Loc):=[]
structure RA where
 α:Type
 res:α->List (Nat×au)
 inv:Nat->α->Prop
 drop:List Nat:=[]
 nil:List (Nat×TypeId×Sh):=[]
 H6:List Nat:=[]
 wu:List Nat:=[]
 deep:List (Nat×TypeId×Sh×Nat):=[]
 uy:List (Nat×Nat×TypeId×Sh):=[]
inductive kS where
 | inv (a:LA)
 | gen (a:LA) (gh:a.α->Nat)
 | FT (n:Nat)
 | rng (a:RA)
 | cut (a:LA)
inductive RC where
 | keep
 | data (s:Sh)
 | row (t:TypeId) (s:Sh)
 | hd (t:TypeId) (s r:Sh)
variable {rc:List RC}
structure SQ where
 ss:List Sh
 ct:List (bT ss)->CT
structure SF where
 ss:List Sh
 r:Sh
 ct:(bT ss->Prop)->(bT ss->r.den)->CT
structure Env where
 cx:Cx
 n:Nat
 ct:Nat->Option CT
 ann:Nat->Option (St->kS)
 ip:Nat->Option IP:=λ_=>none
 rc:List RC:=[]
 lits:List Nat:=[]
 P:Option Program:=none
 rd:Bool:=false
 hc:Nat->Nat->Option CT:=λ_ _=>none
 YO:Nat->Option MK:=λ_=>none
 sq:Nat->Option SQ:=λ_=>none
 sf:Nat->Option SF:=λ_=>none
variable {E:Env}
abbrev Nv:List SV->List Nat
 | []=>[]
 | v :: r=>match v with
   | .c (.row i)=>i :: Nv r
   | .agg xs=>SL xs (Nv r)
   | _=>Nv r
abbrev YP(E:Env) (s:St) (G:Gd) (f:Nat) (args:List Operand):List Nat:=match G with
 | _ :: _=>[]
 | []=>match E.ct f with
   | none=>[]
   | some cc=>match vZ E.cx s [] args with
     | none=>[]
     | some vs=>match allL noRow vs with
       | true=>[]
       | false=>match Il s [] vs with
         | none=>[]
         | some bs=>match zK cc.ps bs with
           | none=>[]
           | some dd=>match dA (JZ (cc.res dd).2) (allL wZ (cc.res dd).1) with
             | true=>[]
             | false=>Nv vs
abbrev ajC(E:Env) (s:St) (G:Gd) (ps:List (Nat×Operand)):List Nat:=match G with
 | _ :: _=>[]
 | []=>rowsOf E.cx s ps
abbrev YQ(E:Env) (s:St) (p x:Operand):List Nat:=match bJ E.cx s [] x with
 | some (.one v)=>match Nv [v]with
   | []=>[]
   | i :: r=>match bJ E.cx s [] p with
     | some (.one (.c (.own q _)))=>match eH s.T q with
       | some ([],.obj _ _ _)=>i :: r
       | _=>[]
     | some (.one (.c (.ku _ _ _ _)))=>i :: r
     | _=>[]
 | _=>[]
abbrev FU:List Operand->Option (List Operand×Nat)
 | []=>none
 | x :: l=>match l with
   | []=>match x with
     | .func g=>some ([],g)
     | _=>none
   | _ :: _=>match FU l with
     | some (m,g)=>some (x :: m,g)
     | none=>none
theorem FV{a:Act}:∀{l xs:List Operand}{g:Nat},FU l=some (xs,g)->l.map a.eval=xs.map a.eval++[.func (.func g) #[] #[]]
 | [],_,_,h=>by simp[FU]at h
 | [x],xs,g,h=>by
   simp only[FU]at h;split at h
   .cases h;rfl
   .cases h
 | x :: y :: l,xs,g,h=>by
   simp only[FU]at h;split at h
   .rename_i m g' hm;cases h;have:=FV (a:=a) (l:=y :: l) hm;simp only[Vd]at this ⊢;rw[this];rfl
   .cases h
abbrev FW:List Operand->Option (List Operand×Operand)
 | []=>none
 | x :: l=>match l with
   | []=>some ([],x)
   | _ :: _=>match FW l with
     | some (m,g)=>some (x :: m,g)
     | none=>none
theorem FX{a:Act}:∀{l xs:List Operand}{g:Operand},FW l=some (xs,g)->l.map a.eval=xs.map a.eval++[a.eval g]
 | [],_,_,h=>by simp[FW]at h
 | [x],xs,g,h=>by
   simp only[FW]at h;cases h;rfl
 | x :: y :: l,xs,g,h=>by
   simp only[FW]at h;split at h
   .rename_i m g' hm;cases h;have:=FX (a:=a) (l:=y :: l) hm;simp only[Vd]at this ⊢;rw[this];rfl
   .cases h
abbrev YR(ss ss':List Sh) (L:List (bT ss)):Option (List (bT ss')):=if h:ss=ss' then some (h▸L) else none
theorem YT{ss ss':List Sh}{L:List (bT ss)}{M:List (bT ss')} (h:YR ss ss' L=some M):∃e:ss=ss',e▸L=M:=by
 unfold YR at h;split at h
 .rename_i e;cases h;exact⟨e,rfl⟩
 .cases h
abbrev hcL(E:Env) (f:Nat) (args:List Operand):Option (CT×List Operand):=match FU args with
 | some (xs,g)=>match E.hc f g with
   | some ct=>some (ct,xs)
   | none=>none
 | none=>none
abbrev Kz(E:Env) (ops:List Oper) (o:Oper) (s:St) (K:St->Prop):Prop:=match l7 E.n o.dst with
 | false=>False
 | true=>vV E.lits s ops o.guard λG s=>match o.op with
   | .alloc t=>JV E.cx s G o.dst t K
   | .box t x=>adY E.cx s G o.dst t x K
   | .buildSlice t n ps=>nH E.cx (nX s (ajC E s G (tl ps))) G o.dst t n (tl ps) K
   | .makeSlice t l c=>SA E.cx s G o.dst t l c K
   | .store t p x=>match G with
     | []=>match aec E.cx s o.dst t p x K with
       | some q=>q
       | none=>JW E.cx (nX s (YQ E s p x)) o.dst t p x K
     | _ :: _=>False
   | .call c=>match c.callee with
     | .value (.func f)=>match hcL E f (tl c.args) with
       | some (ct,xs)=>jr E.cx (λ_=>some ct) s G o.dst f xs K
       | none=>jr E.cx E.ct (nX s (YP E s G f (tl c.args))) G o.dst f (tl c.args) K
     | .builtin .append=>match G with
       | []=>match tl c.args with
         | [x,y]=>match tl c.argTypes with
           | [t,t']=>match Nat.beq t t' with
             | true=>match Tf s x λs=>wY E.cx s o.dst t x y K with
               | some q=>q
               | none=>wY E.cx s o.dst t x y K
             | false=>False
           | _=>False
         | _=>False
       | _ :: _=>False
     | .builtin .copy=>match G with
       | []=>match tl c.args with
         | [x,y]=>match tl c.argTypes with
           | [t,_]=>Ti E.cx s o.dst t x y K
           | _=>False
         | _=>False
       | _ :: _=>False
     | .builtin .min=>match G with
       | []=>match tl c.args with
         | [x,y]=>aef E.cx s o.dst x y K
         | _=>False
       | _ :: _=>False
     | .builtin .max=>match G with
       | []=>match tl c.args with
         | [x,y]=>P8 E.cx s o.dst x y K
         | _=>False
       | _ :: _=>False
     | _=>oq E.cx s G o λe=>K (s.put o.dst G e)
   | _=>oq E.cx s G o λe=>K (s.put o.dst G e)
abbrev jh(E:Env) (ops:List Oper) (o:Oper) (s:St) (K:St->Prop):Prop:=match apP E.cx s o K with
 | some p=>match l7 E.n o.dst with
   | false=>False
   | true=>p
 | none=>Kz E ops o s K
structure gV (P:Program) (E:Env):Prop where
 prog:∀P',E.P=some P'->P'=P
 hc:∀f g c,E.hc f g=some c->CTX P E.cx.gd f [.func (.func g) #[] #[]] c/\Ig P f
 YO:∀g m,E.YO g=some m->∀d h lb,m.pre d->aJ E.cx.gd h->capD h m.ss d lb->(m.f d).rel h (.func (.func g) #[] lb.toArray)
 mixed:P.follows .mixedOrders=true
 ti:bK P E.cx.ti
 ct:∀f c,E.ct f=some c->MW P E.cx.gd f c/\∃fn,P.funcs[f]?=some fn/\fn.body.isSome=true/\(fn.name == "runtime.NumGoroutine")=false
 ip:∀f c,E.ip f=some c->VP P E.cx.gd f c/\∃fn,P.funcs[f]?=some fn/\fn.body.isSome=true/\(fn.name == "runtime.NumGoroutine")=false
 sq:∀f q,E.sq f=some q->(∀L,CTS P E.cx.gd f [.c (.abs (.seq P q.ss L))] (q.ct L))/\Ig P f
 sf:∀f q,E.sf f=some q->(∀pre g,CTS P E.cx.gd f [.c (.abs (.clo P q.ss q.r pre g))] (q.ct pre g))/\Ig P f
theorem gK.cast{b b':Bool} (e:b=b') (h':gK P N B h0 h w a o b' K):gK P N B h0 h w a o b K:=by rw[e];exact h'
theorem aem(s:St) (i:Nat):(Nb s i).gl=s.gl:=by
 unfold Nb;split<;>rfl
theorem sF:∀{l:List Nat}{s:St},(nX s l).gl=s.gl
 | [],_=>rfl
 | i :: l,s=>by
   show(nX (Nb s i) l).gl=s.gl;rw[sF,aem]
theorem gK.le{P:Program}{N:Nat}{B:Base}{h0 h h':FH}{w:World}{a:Act}{o:Oper}{b:Bool}{K:St->Prop} (le:h.le h') (k:gK P N B h0 h' w a o b K):gK P N B h0 h w a o b K:=
 λNx Q next=>k Nx Q λs' h2 β' w' v k' le' q aj=>next s' h2 β' w' v k' (le.trans le') q aj
theorem Wn(ok:gV P E) (aj:Sat E.n B h0 s h β w a) (hg:aJ E.cx.gd h)
 (k:Kz E (tl ops) o s K):gK P E.n B h0 h w a o (Region.wanted o (yielded ops a.tmps)) K:=by
 unfold Kz at k;split at k
 .cases k
 rename_i hd;obtain⟨G,s',k,aS,hw,hG⟩:=wX aj k;refine gK.cast hw ?_;split at k
 .rename_i t ho;exact PU ok.ti aS hG hd ho k
 .rename_i t x ho;exact X3 ok.ti aS hg hG hd ho k
 .rename_i t n ps ho;obtain⟨h',le,bF⟩:=aS.H6 (l:=ajC E s' G (tl ps));have:=uU ok.ti bF (hg.mono le) (by rw[sF];exact hG) hd ho k
  rw[sF]at this;exact gK.le le this
 .rename_i t l c ho;exact VN ok.ti aS hg hG hd ho k
 .rename_i t p x ho;split at k
  .split at k
   .rename_i q hq;exact Yt ok.ti aS hg hd ho hq k
   .obtain⟨h',le,bF⟩:=aS.H6 (l:=YQ E s' p x);have:=PV ok.ti bF (hg.mono le) hd ho k;rw[sF]at this;exact gK.le le this
  .cases k
 .rename_i c ho;split at k
  .rename_i f bU;split at k
   .rename_i ct xs hl;unfold hcL at hl;split at hl
    .rename_i xs' g hlf;split at hl
     .rename_i ct' hct;cases hl;obtain⟨hc,hf⟩:=ok.hc f g ct hct;have k':jr E.cx (λf'=>if f'=f then some ct else none) s' G o.dst f xs K:=by
       unfold jr at k ⊢;simpa using k
      exact uq (suf:=[.func (.func g) #[] #[]]) (λf' c' e=>by
       split at e
       .rename_i hff;cases e;rw[hff];exact hc
       .cases e) aS hg hG hd ho bU (λ_=>rfl) (by
       have:=FV (a:=a) hlf;rw[<-this];cases c.args;simp) hf k'
     .cases hl
    .cases hl
   .obtain⟨h',le,bF⟩:=aS.H6 (l:=YP E s' G f (tl c.args));refine gK.le le ?_;rw[<-sF (l:=YP E s' G f (tl c.args)) (s:=s')]at hG ⊢;generalize nX s' (YP E s' G f (tl c.args))=s' at k bF hG ⊢;unfold jr at k;cases hct:E.ct f with
    | none=>rw[hct]at k;cases k
    | some cc=>exact VO (λf c e=>(ok.ct f c e).1) bF (hg.mono le) hG hd ho bU (ok.ct f cc hct).2 k
  .rename_i bU;split at k
   .split at k
    .rename_i x y ha;split at k
     .rename_i t t' ht;split at k
      .rename_i htt;have htt:t=t':=iC htt;subst htt;split at k
       .rename_i q hq;obtain⟨s2,β2,k2,bF,egl⟩:=aed aS hq k;have:=Dp ok.ti bF hg hd ho bU (iI ha) (iI ht) k2;rw[egl]at this;exact this
       .exact Dp ok.ti aS hg hd ho bU (iI ha) (iI ht) k
      .cases k
     .cases k
    .cases k
   .cases k
  .rename_i bU;split at k
   .split at k
    .rename_i x y ha;split at k
     .rename_i t t' ht;exact V3 ok.ti aS hg hd ho bU (iI ha) (iI ht) k
     .cases k
    .cases k
   .cases k
  .rename_i bU;split at k
   .split at k
    .rename_i x y ha;exact Yw aS hg hd ho bU (iI ha) k
    .cases k
   .cases k
  .rename_i bU;split at k
   .split at k
    .rename_i x y ha;exact VZ aS hg hd ho bU (iI ha) k
    .cases k
   .cases k
  .exact IW ok.ti aS hg hG hd k
 .exact IW ok.ti aS hg hG hd k
theorem sG(ok:gV P E) (aj:Sat E.n B h0 s h β w a) (hg:aJ E.cx.gd h)
 (k:jh E (tl ops) o s K):gK P E.n B h0 h w a o (Region.wanted o (yielded ops a.tmps)) K:=by
 unfold jh at k;split at k
 .rename_i p hp;split at k
  .cases k
  .rename_i hd;exact YA ok.ti aj hg hd hp k
 .exact Wn ok aj hg k
abbrev YU(E:Env) (ops:List Oper):List Oper->St->(St->Prop)->Prop
 | [],s,K=>K s
 | o :: r,s,K=>jh E ops o s λs=>YU E ops r s K
abbrev iY(k:Nat):List Nat->Bool
 | []=>false
 | j :: l=>match Nat.beq k j with
   | true=>true
   | false=>iY k l
theorem jB{k j:Nat}{l:List Nat}:iY k (j :: l)=(Nat.beq k j || iY k l):=by
 simp only[iY];cases Nat.beq k j<;>rfl
theorem lK{k:Nat}{m:List Nat}:∀{l:List Nat},iY k (dY l m)=(iY k l || iY k m)
 | []=>rfl
 | j :: l=>by rw[show dY (j :: l) m=j :: dY l m from rfl,jB,jB,lK,Bool.or_assoc]
abbrev jS:List Oper->List Nat
 | []=>[]
 | o :: l=>match o.dst with
   | some d=>d :: jS l
   | none=>jS l
def Same(ws:List Nat) (a a':Act):Prop:=∀t,iY t ws=false->a'.tmps[t]?=a.tmps[t]?
theorem Same.refl(ws:List Nat) (a:Act):Same ws a a:=λ_ _=>rfl
theorem Same.trans{ws:List Nat}{a b c:Act} (x:Same ws a b) (y:Same ws b c):Same ws a c:=λt h=>(y t h).trans (x t h)
theorem Same.left{l m:List Nat} (x:Same l a b):Same (dY l m) a b:=λt h=>x t (by rw[lK,oV]at h;exact h.1)
theorem Same.right{l m:List Nat} (x:Same m a b):Same (dY l m) a b:=λt h=>x t (by rw[lK,oV]at h;exact h.2)
theorem Same.put{o:Oper}{l:List Oper}{a:Act}{v:Value}{b:Act} (x:Same (jS l) (a.put o.dst v) b):Same (jS (o :: l)) a b:=by
 intro t h;cases hd:o.dst with
 | none=>
   have e:jS (o :: l)=jS l:=by simp only[jS,hd]
   rw[e]at h;rw[x t h,hd];rfl
 | some d=>
   have e:jS (o :: l)=d :: jS l:=by simp only[jS,hd]
   rw[e,jB,oV]at h;rw[x t h.2,hd];have hne:d≠t:=λhh=>Xu h.1 hh.symm
   simp[Act.put,aiQ hne]
abbrev ajD(E:Env) (s:St) (o:Oper):Option IP:=match o.guard with
 | some _=>none
 | none=>match o.op with
   | .call c=>match c.callee with
     | .value (.func f)=>match E.ip f with
       | none=>none
       | some ip=>match tl c.args with
         | []=>none
         | x :: _=>match bJ E.cx s [] x with
           | some (.one (.c (.row _)))=>some ip
           | _=>none
     | _=>none
   | _=>none
abbrev YV(E:Env) (s:St) (o:Oper):Option IP:=match o.guard with
 | some _=>none
 | none=>match o.op with
   | .call c=>match c.callee with
     | .value (.func f)=>match E.ip f with
       | none=>none
       | some ip=>match tl c.args with
         | []=>none
         | x :: _=>match bJ E.cx s [] x with
           | some (.one (.c (.sub _ _)))=>some ip
           | _=>none
     | _=>none
   | _=>none
abbrev nY:Op->List Operand
 | .call c=>tl c.args
 | _=>[]
abbrev ajE:Value->Option Nat
 | .func (.func f) a b=>match tl a with
   | []=>match tl b with
     | []=>some f
     | _ :: _=>none
   | _ :: _=>none
 | _=>none
abbrev DL(sh:Sh):au->Option SV
 | .obj _ s d=>match dA sh.isAgg s.isAgg with
   | true=>some (.dat s d)
   | false=>none
 | .blk _ xs=>match sh.isAgg with
   | true=>some (.agg xs)
   | false=>match xs with
     | [x]=>some (.c x)
     | _=>none
 | _=>none
abbrev Qq(s:St):(ss:List Sh)->List Operand->Option (St×bT ss)
 | [],[]=>some (s,())
 | sh :: ss,x :: l=>match x with
   | .tmp t=>match iG s.env t with
     | some ([],.one (.c (.own i 0)))=>match eH s.T i with
       | some ([],r)=>match DL sh r with
         | some v=>match toDat sh v with
           | some d=>match Qq { s with T:=dh s.T i ([],.gone) } ss l with
             | some (s',ds)=>some (s',(d,ds))
             | none=>none
           | none=>none
         | none=>none
       | _=>none
     | _=>none
   | _=>none
 | _,_=>none
inductive HO where
 | hc (c:CT) (xs:List Operand)
 | cc (f:Nat) (xs:List Operand)
 | mk (g:Nat) (cap:List Operand)
 | sq (P:Program) (c:CT) (xs:List Operand)
 | sf (P:Program) (ss:List Sh) (r:Sh) (pre:bT ss->Prop) (g:bT ss->r.den) (q:SF) (xs:List Operand)
abbrev anV(E:Env) (s:St) (f:Nat) (args:List Operand):Option HO:=match E.sf f with
 | none=>none
 | some q=>match FW args with
   | none=>none
   | some (xs,x)=>match bJ E.cx s [] x with
     | some (.one (.c (.abs (.clo P ss r pre g))))=>some (.sf P ss r pre g q xs)
     | _=>none
abbrev anW(E:Env) (s:St) (f:Nat) (args:List Operand):Option HO:=match E.sq f with
 | none=>anV E s f args
 | some q=>match FW args with
   | none=>none
   | some (xs,x)=>match bJ E.cx s [] x with
     | some (.one (.c (.abs (.seq P ss L))))=>match YR ss q.ss L with
       | some L=>some (.sq P (q.ct L) xs)
       | none=>none
     | _=>none
abbrev ajF(E:Env) (s:St) (o:Oper):Option HO:=match o.guard with
 | some _=>none
 | none=>match o.op with
   | .call c=>match c.callee with
     | .value (.func f)=>match FU (tl c.args) with
       | some (xs,g)=>match E.hc f g with
         | some ct=>some (.hc ct xs)
         | none=>none
       | none=>anW E s f (tl c.args)
     | .value (.tmp t)=>match iG s.env t with
       | some ([],.one (.c (.v v)))=>match ajE v with
         | some f=>some (.cc f (tl c.args))
         | none=>none
       | some ([],.one (.c (.abs (.clo P ss r pre g))))=>some (.sq P { ps:=ss,pre:=pre,res:=λd=>([],.one (iH r (g d))) } (tl c.args))
       | _=>none
     | _=>none
   | .makeFunc (.func g) fst cap=>match tl fst with
     | []=>some (.mk g (tl cap))
     | _ :: _=>none
   | _=>none
abbrev hoK(E:Env) (s:St) (d:Option Nat) (x:HO) (K:St->Prop):Prop:=match x with
 | .hc c xs=>jr E.cx (λ_=>some c) s [] d 0 xs K
 | .cc f xs=>jr E.cx E.ct s [] d f xs K
 | .sq P c xs=>E.P=some P/\jr E.cx (λ_=>some c) s [] d 0 xs K
 | .sf P ss r pre g q xs=>E.P=some P/\∃pre' g',HY.clo P ss r pre g=HY.clo P q.ss q.r pre' g'/\jr E.cx (λ_=>some (q.ct pre' g')) s [] d 0 xs K
 | .mk g cap=>match E.YO g with
   | none=>False
   | some m=>match Qq s m.ss cap with
     | none=>False
     | some (s',ds)=>m.pre ds/\K (s'.put d [] (.one (.c (.abs (m.f ds)))))
abbrev Nw(E:Env) (ops:List Oper) (o:Oper) (s:St) (K:St->Prop):Prop:=match rtP E.cx s o K with
 | some p=>match l7 E.n o.dst with
   | false=>False
   | true=>p
 | none=>match ajz E.cx s o K with
 | some p=>match l7 E.n o.dst with
   | false=>False
   | true=>p
 | none=>match ajF E s o with
 | some x=>match l7 E.n o.dst with
   | false=>False
   | true=>hoK E s o.dst x K
 | none=>match YV E s o with
 | some ip=>match l7 E.n o.dst with
   | false=>False
   | true=>ajr E.cx ip s o.dst (nY o.op) K
 | none=>match ajD E s o with
 | none=>match ajx E.cx s o K with
   | none=>jh E ops o s K
   | some p=>match l7 E.n o.dst with
     | false=>False
     | true=>p
 | some ip=>match l7 E.n o.dst with
   | false=>False
   | true=>ipK E.cx ip s o.dst (nY o.op) K
abbrev aen(E:Env) (ops:List Oper):List Oper->St->(St->Prop)->Prop
 | [],s,K=>K s
 | o :: r,s,K=>Nw E ops o s λs=>aen E ops r s K
theorem Wp{ip:IP} (e:ajD E s o=some ip):o.guard=none/\∃c f,o.op=.call c/\c.callee=.value (.func f)/\E.ip f=some ip:=by
 unfold ajD at e;split at e
 .cases e
 .rename_i hgd;split at e
  .rename_i c ho;split at e
   .rename_i f bU;split at e
    .cases e
    .rename_i ip' SK;split at e
     .cases e
     .split at e
      .cases e;exact⟨hgd,c,f,ho,bU,SK⟩
      .cases e
   .cases e
  .cases e
theorem Qr{ip:IP} (e:YV E s o=some ip):o.guard=none/\∃c f,o.op=.call c/\c.callee=.value (.func f)/\E.ip f=some ip:=by
 unfold YV at e;split at e
 .cases e
 .rename_i hgd;split at e
  .rename_i c ho;split at e
   .rename_i f bU;split at e
    .cases e
    .rename_i ip' SK;split at e
     .cases e
     .split at e
      .cases e;exact⟨hgd,c,f,ho,bU,SK⟩
      .cases e
   .cases e
  .cases e
theorem aeo{v:Value}{f:Nat} (h:ajE v=some f):v=.func (.func f) #[] #[]:=by
 unfold ajE at h;split at h
 .rename_i f' x y;split at h
  .rename_i hx;split at h
   .rename_i hy;cases h;rw[iI hx,iI hy]
   .cases h
  .cases h
 .cases h
theorem ajG{s:Sh} (h:s.isAgg=false):s.size=1:=by cases s<;>simp_all[Sh.isAgg,Sh.size]
theorem Tz{N:Nat}{B:Base}{h0:FH}{w:World}{a:Act}{β:List RV}:∀{ss:List Sh}{l:List Operand}{s s':St}{h:FH}{ds:bT ss},Sat N B h0 s h β w a->Qq s ss l=some (s',ds) ->
 ∃h',h.le h'/\Sat N B h0 s' h' β w a/\capD h' ss ds (l.map a.eval)
 | [],[],s,s',h,ds,aj,e=>by simp[Qq]at e;subst e;exact⟨h,FH.le.refl h,aj,trivial⟩
 | [],_ :: _,s,s',h,ds,aj,e=>by simp[Qq]at e
 | _ :: _,[],s,s',h,ds,aj,e=>by simp[Qq]at e
 | sh :: ss,x :: l,s,s',h,ds,aj,e=>by
   unfold Qq at e;split at e
   .rename_i t;split at e
    .rename_i i hlk;split at e
     .rename_i r hT;split at e
      .rename_i v hv;split at e
       .rename_i d hd;split at e
        .rename_i s2 ds2 hc;cases e;obtain⟨z,z1,z2,_⟩:=aj.env t [] _ hlk;obtain⟨b,hb,ez⟩:∃b,β[i]?=some (.blk b)/\z=.pointer (some ⟨b,0,none⟩):=(z2 rfl:cZ h β (.c (.own i 0)) z).1;have fZ:=bD hT (show gv s.gl []=true from rfl)
         have hold:=aj.ok.holds i r _ fZ hb;have hlive:r.live=true:=by cases r<;>first | rfl | (simp[DL]at hv)
         obtain⟨le1,ok1⟩:=aj.ok.Vw fZ hlive hb (lF.2 rfl);have jv:Sat N B h0 { s with T:=dh s.T i ([],.gone) } (h.plus w b) β w a:=aj.mem (by rw[fV];exact ok1) le1 (Ext.refl _) (by
          intro q hq;rw[gJ]at hq;rcases JF hq with hq | hq
          .exact aj.gT q hq
          .subst hq;rfl)
         obtain⟨h',iD,bF,cap⟩:=Tz (l:=l) jv hc;refine⟨h',le1.trans iD,bF,⟨?_,cap⟩⟩;have ev:a.eval (.tmp t)=z:=by simp[Act.eval,z1]
         rw[ev,ez];have at_:∀(ys:List Value) (tt:TypeId),w.heap[b]?=some (.cells ys.toArray tt (0,0))->(∀u∈ys,dF u)->At h' b 0 ys:=by
          intro ys tt hw h1 j u hj;refine iD _ _ _ ?_;unfold FH.plus;rw[if_pos rfl,Hy];exact oN hw (by simpa using hj) (h1 u (iM hj)).2
         have key:∀(ys:List Value) (tt:TypeId),w.heap[b]?=some (.cells ys.toArray tt (0,0))->(sh.isAgg=true->cZ h β v (.agg ys.toArray))->(sh.isAgg=false->∃y,ys=[y]/\cZ h β v y) ->
          ∃b' cs,(Value.pointer (some ⟨b,0,none⟩))=.pointer (some ⟨b',0,none⟩)/\Rd h' sh cs d/\At h' b' 0 cs:=by
          intro ys tt hw k1 k2;cases hag:sh.isAgg with
          | true=>
            obtain⟨cs,e1,rd⟩:=toDat_ok hd (k1 hag);unfold mkV at e1;rw[if_pos hag]at e1;injection e1 with e1
            have e1:ys=cs:=by simpa using e1
            subst e1;exact⟨b,ys,rfl,(rd.mono le1 _).mono iD _,at_ ys tt hw (Rd.one _ rd)⟩
          | false=>
            obtain⟨y,rfl,c⟩:=k2 hag;obtain⟨cs,e1,rd⟩:=toDat_ok hd c;unfold mkV at e1;rw[if_neg (by rw[hag];simp)]at e1
            have hs:=Rd.size sh rd;rw[ajG hag]at hs;obtain⟨u,rfl⟩:=List.length_eq_one_iff.1 hs;have e1:y=u:=e1;subst e1;exact⟨b,[y],rfl,(rd.mono le1 _).mono iD _,at_ [y] tt hw (Rd.one _ rd)⟩
         cases r with
         | obj tt s0 d0=>
           simp only[DL]at hv;split at hv
           .rename_i hag;rw[aC,A8]at hag;cases hv;obtain⟨ys,e1,rd⟩:=hold;exact key ys tt e1 (λ_=>⟨hag.2,ys,rfl,rd⟩) (λhh=>by rw[hag.1]at hh;cases hh)
           .cases hv
         | blk tt cs=>
           obtain⟨ys,e1,al⟩:=hold;simp only[DL]at hv;split at hv
           .rename_i hag;cases hv;exact key ys tt e1 (λ_=>⟨ys,rfl,al⟩) (λhh=>by rw[hag]at hh;cases hh)
           .rename_i hag;split at hv
            .rename_i x;cases hv;cases ys with
             | nil=>exact al.elim
             | cons y ys=>
               cases ys with
               | cons _ _=>exact al.2.elim
               | nil=>exact key [y] tt e1 (λhh=>by rw[hag]at hh;cases hh) (λ_=>⟨y,rfl,al.1⟩)
            .cases hv
         | row _ _ _=>simp[DL]at hv
         | deep _ _ _ _ _ _ _ _=>simp[DL]at hv
         | mp _ _ _=>simp[DL]at hv
         | O5 _ _ _ _=>simp[DL]at hv
         | it _ _ _ _=>simp[DL]at hv
         | L9 _ _ _ _=>simp[DL]at hv
         | IJ _ _ _ _=>simp[DL]at hv
         | gone=>simp[DL]at hv
        .cases e
       .cases e
      .cases e
     .cases e
    .cases e
   .cases e
theorem ajH(ok:gV P E) (aj:Sat E.n B h0 s h β w a) (hg:aJ E.cx.gd h){x:HO} (hx:ajF E s o=some x) (hd:l7 E.n o.dst=true)
 (k:hoK E s o.dst x K):gK P E.n B h0 h w a o (Region.wanted o (yielded ops a.tmps)) K:=by
 unfold ajF at hx;split at hx
 .cases hx
 rename_i hgd;rw[show Region.wanted o (yielded ops a.tmps)=gv s.gl [] by simp[Region.wanted,hgd,gv]]
 split at hx
 .rename_i c ho;split at hx
  .rename_i f bU;split at hx
   .rename_i xs g hl;split at hx
    .rename_i ct hct;cases hx;obtain⟨hc,hf⟩:=ok.hc f g ct hct;simp only[hoK]at k;have k':jr E.cx (λf'=>if f'=f then some ct else none) s [] o.dst f xs K:=by
      unfold jr at k ⊢;simpa using k
     exact uq (suf:=[.func (.func g) #[] #[]]) (λf' c' e=>by
      split at e
      .rename_i hff;cases e;rw[hff];exact hc
      .cases e) aj hg rfl hd ho bU (λ_=>rfl) (by
      have:=FV (a:=a) hl;rw[<-this];cases c.args;simp) hf k'
    .cases hx
   .unfold anW at hx;split at hx
    .unfold anV at hx;split at hx
     .cases hx
     rename_i q hq;split at hx
     .cases hx
     rename_i xs x hl;split at hx
     .rename_i P' ss r pre g hxe;cases hx;simp only[hoK]at k;obtain⟨eP,pre',g',eA,k⟩:=k;have:=ok.prog _ eP;subst this;obtain⟨hc,hf⟩:=ok.sf f q hq;have k':jr E.cx (λf'=>if f'=f then some (q.ct pre' g') else none) s [] o.dst f xs K:=by
       unfold jr at k ⊢;simpa using k
      rw[eA]at hxe;have IX:cZ h β (.c (.abs (.clo P' q.ss q.r pre' g'))) (a.eval x):=aN aj hg (show gv s.gl []=true from rfl) hxe
      exact yM (suf:=[a.eval x]) (λc' e d vs h' le hw hg' ha hp=>by
       have e':q.ct pre' g'=c':=by simpa using e
       subst e';exact hc pre' g' d vs [a.eval x] h' w hw hg' ha ⟨⟨(show HY.rel h' (.clo P' q.ss q.r pre' g') (a.eval x) from HY.zl le (show HY.rel h (.clo P' q.ss q.r pre' g') (a.eval x) from IX.1)),IX.2⟩,trivial⟩ hp) aj hg rfl hd ho bU (λ_=>rfl) (by
       have:=FX (a:=a) hl;rw[<-this];cases c.args;simp) hf k'
     .cases hx
    rename_i q hq;split at hx
    .cases hx
    rename_i xs x hl;split at hx
    .rename_i P' ss L hxe;split at hx
     .rename_i L' hL;cases hx;obtain⟨e1,e2⟩:=YT hL;simp only[hoK]at k;obtain⟨eP,k⟩:=k;have:=ok.prog _ eP;subst this;subst e1;simp only at e2;subst e2;obtain⟨hc,hf⟩:=ok.sq f q hq;have k':jr E.cx (λf'=>if f'=f then some (q.ct L) else none) s [] o.dst f xs K:=by
       unfold jr at k ⊢;simpa using k
      have IX:cZ h β (.c (.abs (.seq P' q.ss L))) (a.eval x):=aN aj hg (show gv s.gl []=true from rfl) hxe
      exact yM (suf:=[a.eval x]) (λc' e d vs h' le hw hg' ha hp=>by
       have e':q.ct L=c':=by simpa using e
       subst e';exact hc L d vs [a.eval x] h' w hw hg' ha ⟨⟨(show HY.rel h' (.seq P' q.ss L) (a.eval x) from HY.zl le (show HY.rel h (.seq P' q.ss L) (a.eval x) from IX.1)),IX.2⟩,trivial⟩ hp) aj hg rfl hd ho bU (λ_=>rfl) (by
       have:=FX (a:=a) hl;rw[<-this];cases c.args;simp) hf k'
     .cases hx
    .cases hx
  .rename_i t bU;split at hx
   .rename_i v hlk;split at hx
    .rename_i f hfn;cases hx;simp only[hoK]at k;obtain⟨z,z1,z2,_⟩:=aj.env t [] _ hlk;have ez:z=.func (.func f) #[] #[]:=((z2 rfl:cZ h β (.c (.v v)) z).1.1).trans (aeo hfn);have hct:∃cc,E.ct f=some cc:=by
      unfold jr at k;cases hh:E.ct f with
      | none=>rw[hh]at k;cases k
      | some cc=>exact⟨cc,rfl⟩
     obtain⟨cc,hct⟩:=hct;exact uq (suf:=[]) (λf' c' e=>(ok.ct f' c' e).1.x) aj hg rfl hd ho bU (λ_=>by simp[Act.eval,z1,ez]) (by cases c.args;simp) (ok.ct f cc hct).2 k
    .cases hx
   .rename_i P' ss r pre g hlk;cases hx;simp only[hoK]at k;obtain⟨eP,k⟩:=k;have:=ok.prog _ eP;subst this;obtain⟨z,z1,z2,_⟩:=aj.env t [] _ hlk;obtain⟨gn,lb,ez,hf,kk⟩:XH P' h ss r pre g z:=(z2 rfl:cZ h β (.c (.abs (.clo P' ss r pre g))) z).1;have k':jr E.cx (λf'=>if f'=gn then some { ps:=ss,pre:=pre,res:=λd=>([],.one (iH r (g d))) } else none) s [] o.dst gn (tl c.args) K:=by
     unfold jr at k ⊢;simpa using k
    exact Fp (lb:=lb) (suf:=lb.toList) (λc' e d vs h' le hw hg' ha hp=>by
     have e':({ ps:=ss,pre:=pre,res:=λd=>([],.one (iH r (g d))) }:CT)=c':=by simpa using e
     subst e';rw[show(vs++lb.toList).toArray=vs.toArray++lb by simp]
     refine(kk d vs h' w le hw (Fj ha) hp).mono ?_;rintro en w' ⟨v,rfl,⟨cs,rfl,rd⟩,bel,dr⟩;refine⟨h',[],_,rfl,⟨⟨bel.os,bel.tape,bel.output,bel.size,λk hk ha=>bel.block k hk⟩,dr,rfl,λi r v e _=>by simp at e,λi r v b e _ _ _=>by simp at e,λi j r r' u v b e _ _ _ _ _ _ _=>by simp at e,FH.le.refl h',λb o v hh=>(jZ (bel.block b (oW (hw b o v hh)))).trans (hw b o v hh),λb o v hh=>.inl hh,λk o hh=>hh.elim⟩,jQ r (rd.mono (λ_ _ _ e=>by cases e) r)⟩) aj hg rfl hd ho bU (λ_=>by simp[Act.eval,z1,ez]) (by cases c.args;simp) hf k'
   .cases hx
  .cases hx
 .rename_i g fst cap ho;split at hx
  .rename_i aql;cases hx;simp only[hoK]at k;split at k
   .cases k
   rename_i m hm;split at k
   .cases k
   rename_i s' ds hcap;obtain⟨h',le,aS,jR⟩:=Tz aj hcap;obtain⟨hmp,k⟩:=k;have rel:=ok.YO g m hm ds h' _ hmp (hg.mono le) jR;intro Nx Q next
   rw[if_pos rfl];refine kK (v:=.func (.func g) #[] ((tl cap).map a.eval).toArray) ?_ (next _ _ _ _ _ k le (λ_=>nR.refl w) (aS.put (dP hd) rfl (λ_=>⟨rel,HY.adP rel⟩) λhh=>by cases hh))
   simp only[execOp,ho,Instr.makeFunc,Sem.run_bind,Sem.run_pure,Result.andThen_ok];rw[iI aql];have:cap.map a.eval=((tl cap).map a.eval).toArray:=by cases cap;simp
   rw[this];simp
  .cases hx
 .cases hx
theorem FY(ok:gV P E) (aj:Sat E.n B h0 s h β w a) (hg:aJ E.cx.gd h)
 (k:Nw E (tl ops) o s K):Dq P E.n B h0 h w a o (Region.wanted o (yielded ops a.tmps)) K:=by
 unfold Nw at k;split at k
 .rename_i p hp;split at k
  .cases k
  .rename_i hd;exact(YF ok.ti aj hg hd hp k).weak
 split at k
 .rename_i p hp;split at k
  .cases k
  .rename_i hd;obtain⟨hgd,st⟩:=ael ok.ti aj hg hd hp k;rw[show Region.wanted o (yielded ops a.tmps)=true by simp[Region.wanted,hgd]]
   exact st
 split at k
 .rename_i x hx;split at k
  .cases k
  .rename_i hd;exact(ajH ok aj hg hx hd k).weak
 split at k
 .rename_i ip SK;obtain⟨hgd,c,f,ho,bU,hf⟩:=Qr SK;split at k
  .cases k
  .rename_i hd;rw[show Region.wanted o (yielded ops a.tmps)=true by simp[Region.wanted,hgd]]
   rw[show nY o.op=tl c.args by simp only[nY,ho]]at k
   exact Yv (ok.ip f ip hf).1 (ok.ip f ip hf).2 aj hg hd ho bU k
 split at k
 .split at k
  .exact(sG ok aj hg k).weak
  .rename_i p hp;split at k
   .cases k
   .rename_i hd;exact aeg ok.ti aj hg hd hp k
 .rename_i ip SK;obtain⟨hgd,c,f,ho,bU,hf⟩:=Wp SK;split at k
  .cases k
  .rename_i hd;rw[show Region.wanted o (yielded ops a.tmps)=true by simp[Region.wanted,hgd]]
   rw[show nY o.op=tl c.args by simp only[nY,ho]]at k
   exact ad7 (ok.ip f ip hf).1 (ok.ip f ip hf).2 aj hg hd ho bU k
theorem KA{P:Program}{E:Env} (ok:gV P E){B:Base}{h0:FH} (hg:aJ E.cx.gd h0){ops:Array Oper}{R:Act->World->Prop}{K:St->Prop}:∀(l:List Oper){s:St}{h:FH}{β:List RV}{w:World}{a:Act},Sat E.n B h0 s h β w a ->
 aen E (tl ops) l s K->(∀s' h' β' w' a',K s'->h.le h'->Sat E.n B h0 s' h' β' w' a'->Same (jS l) a a'->R a' w')->wpL P ops R l a w
 | [],s,h,β,w,a,aj,k,next=>next _ _ _ _ _ k (FH.le.refl h) aj (Same.refl _ _)
 | o :: r,s,h,β,w,a,aj,k,next=>by
   have:=FY ok aj (hg.mono aj.ok.hle) k (wpL P ops R r) J3 λs' h' β' w' v k' le aS=>KA ok hg r aS k' λs2 h2 β2 w2 a2 k2 iD bF sm=>next s2 h2 β2 w2 a2 k2 (le.trans iD) bF sm.put
   unfold wpL;split
   .rename_i hw;rw[if_pos hw]at this;exact this
   .rename_i hw;rw[if_neg hw]at this;exact this
def YW(ops:Array Oper) (listed:Array Bool) (i:Nat):List Nat:=
 (List.range ops.size).foldl (λacc j=>if j != i && !listed.getD j true && (match ops[j]? with | some o=>o.after.any (λe=>Region.binds .any e && (e.on == i || acc.contains e.on)) | none=>false) then j :: acc else acc) []
def Qs(ops:Array Oper) (listed:Array Bool) (i:Nat) (bl:List Nat):Bool:=
 (bl.all λj=>!listed.getD j true && (match ops[j]? with | some o=>o.after.any (λe=>Region.binds .any e && (e.on == i || bl.contains e.on)) | none=>false)) &&
 ((List.range ops.size).all λj=>j == i || listed.getD j true || yO ops j || bl.contains j)
theorem Dt{listed:Array Bool}{bl:List Nat} (h:Qs ops listed i bl=true):
 Waits .any ops listed i bl/\∀j,j≠i->listed.getD j true=false->yO ops j=false->j∈bl:=by
 simp only[Qs,A8,RG]at h;refine⟨λj hj=>?_,λj hji hun hs=>?_⟩
 .have h1:=h.1 j hj;simp only[II]at h1;refine⟨h1.1,?_⟩;cases ho:ops[j]? with
  | none=>rw[ho]at h1;exact absurd h1.2 (by simp)
  | some o=>
    rw[ho]at h1;obtain⟨e,he,hb⟩:=Array.any_eq_true'.1 h1.2;simp only[A8,DJ,zh,adI]at hb;exact⟨o,rfl,e,he,hb.1,hb.2⟩
 .rcases XA j ops.size with gZ | hge
  .have h2:=h.2 j (adN.2 gZ);simp only[DJ,zh,hji,hun,hs,adI,adL,false_or]at h2;exact h2
  .have:ops[j]?=none:=adG hge;simp[yO,this]at hs
inductive DT where
 | done
 | fl (i:Nat) (t:DT)
 | op (i:Nat) (t:DT)
 | alt (i:Nat) (t m:DT)
inductive OT where
 | done
 | op (o:Oper) (t:OT)
 | alt (o:Oper) (t m:OT)
def DT.alts:DT->List Nat
 | .op i _=>[i]
 | .alt i _ m=>i :: m.alts
 | _=>[]
def Ed(ops:Array Oper) (listed:Array Bool) (i:Nat):Bool:=match ops[i]? with
 | some o=>kC o.op && Region.free .any ops listed i && (Region.ready .any ops listed).contains i && (!isLoad o.op || Qs ops listed i (YW ops listed i))
 | none=>false
def kM(ops:Array Oper):DT->Bool->Nat->Array Bool->Bool
 | .done,top,n,listed=>top && n == 0 && (Region.ready .any ops listed).isEmpty
 | .fl i t,top,n,listed=>top && n != 0 && Ed ops listed i && kM ops t true (n - 1) (listed.setIfInBounds i true)
 | .op i t,top,n,listed=>(!top || Region.ready .any ops listed == [i]) && n != 0 && (ops[i]?).isSome && kM ops t true (n - 1) (listed.setIfInBounds i true)
 | .alt i t m,top,n,listed=>(!top || Region.ready .any ops listed == i :: m.alts) && n != 0 && (ops[i]?).isSome && kM ops t true (n - 1) (listed.setIfInBounds i true) && kM ops m false n listed
def goT(g:Nat->DT):List Nat->DT
 | []=>.done
 | [i]=>.op i (g i)
 | i :: r=>.alt i (g i) (goT g r)
def Wq(ops:Array Oper):Nat->Array Bool->DT
 | 0,_=>.done
 | f+1,listed=>
   let rs:=Region.ready .any ops listed
   match rs.find? (λi=>Ed ops listed i) with
   | some i=>.fl i (Wq ops f (listed.setIfInBounds i true))
   | none=>goT (λi=>Wq ops f (listed.setIfInBounds i true)) rs
def Ee(ops:Array Oper):DT->OT
 | .done=>.done
 | .fl i t=>match ops[i]? with
   | some o=>.op o (Ee ops t)
   | none=>.done
 | .op i t=>match ops[i]? with
   | some o=>.op o (Ee ops t)
   | none=>.done
 | .alt i t m=>match ops[i]? with
   | some o=>.alt o (Ee ops t) (Ee ops m)
   | none=>.done
def ofL:List Oper->OT
 | []=>.done
 | o :: l=>.op o (ofL l)
abbrev sH(E:Env) (ops:List Oper):OT->St->(St->Prop)->Prop
 | .done,s,K=>K s
 | .op o t,s,K=>jh E ops o s λs=>sH E ops t s K
 | .alt o t m,s,K=>(jh E ops o s λs=>sH E ops t s K)/\sH E ops m s K
theorem Ny{E:Env}{ops:List Oper}{K:St->Prop}:∀(l:List Oper),(λs=>sH E ops (ofL l) s K)=λs=>YU E ops l s K
 | []=>rfl
 | o :: l=>by
   funext s
   show jh E ops o s (λs=>sH E ops (ofL l) s K)=jh E ops o s λs=>YU E ops l s K
   rw[Ny l]
theorem Ws{ops:List Oper} (l:List Oper) (h:sH E ops (ofL l) s K):YU E ops l s K:=by
 have:=congrFun (Ny (E:=E) (ops:=ops) (K:=K) l) s;rw[<-this];exact h
def isPure(o:Oper):Bool:=match o.op with
 | .alloc _ | .box .. | .buildSlice .. | .makeSlice .. | .store ..=>false
 | .call c=>(match c.callee with | .value (.func _)=>false | .builtin .append=>false | .builtin .copy=>false | .builtin .min=>false | .builtin .max=>false | _=>true)
 | _=>true
def xA(ops:Array Oper):Option OT:=
 if ops.all isPure && Region.lexB .any ops then some (ofL ops.toList)
 else
  let t:=Wq ops ops.size (Array.replicate ops.size false)
  if Region.noSelect ops && kM ops t true ops.size (Array.replicate ops.size false) then some (Ee ops t) else none
section
variable {P:Program}{E:Env}{B:Base}{h0:FH}{s:St}{h:FH}{β:List RV}{w:World}{a:Act}{o:Oper}{ops:Array Oper}{K:St->Prop}
theorem Nz{L:List Nat}{l:List Oper}{g:Option (Nat×Bool)}{K K':Gd->St->Prop} (hk:∀G s,K G s->K' G s) (h:vV L s l g K):vV L s l g K':=by
 unfold vV at *;split at h
 .exact hk _ _ h
 .split at h
  .cases h
  .split at h
   .split at h
    .split at h
     .split at h
      .exact hk _ _ h
      .cases h
     .split at h
      .cases h
      .exact hk _ _ h
    .cases h
   .split at h
    .split at h
     .exact hk _ _ h
     .exact hk _ _ h
    .cases h
theorem FZ(hp:isPure o=true) (k:jh E (tl ops) o s K):l7 E.n o.dst=true/\vV E.lits s (tl ops) o.guard λG s=>oq E.cx s G o λe=>K (s.put o.dst G e):=by
 unfold jh at k;rw[YB (λt n ps ho=>by simp[isPure,ho]at hp) (λc ho bU=>by simp[isPure,ho,bU]at hp)]at k
 simp only at k;unfold Kz at k;split at k
 .cases k
 rename_i hd;refine⟨hd,?_⟩;have key:∀G s,(match o.op with
  | .alloc t=>JV E.cx s G o.dst t K
  | .box t x=>adY E.cx s G o.dst t x K
  | .buildSlice t n ps=>nH E.cx (nX s (ajC E s G (tl ps))) G o.dst t n (tl ps) K
  | .makeSlice t l c=>SA E.cx s G o.dst t l c K
  | .store t p x=>match G with
    | []=>match aec E.cx s o.dst t p x K with
      | some q=>q
      | none=>JW E.cx (nX s (YQ E s p x)) o.dst t p x K
    | _ :: _=>False
  | .call c=>match c.callee with
    | .value (.func f)=>match hcL E f (tl c.args) with
      | some (ct,xs)=>jr E.cx (λ_=>some ct) s G o.dst f xs K
      | none=>jr E.cx E.ct (nX s (YP E s G f (tl c.args))) G o.dst f (tl c.args) K
    | .builtin .append=>match G with
      | []=>match tl c.args with
        | [x,y]=>match tl c.argTypes with
          | [t,t']=>match Nat.beq t t' with
            | true=>match Tf s x λs=>wY E.cx s o.dst t x y K with
              | some q=>q
              | none=>wY E.cx s o.dst t x y K
            | false=>False
          | _=>False
        | _=>False
      | _ :: _=>False
    | .builtin .copy=>match G with
      | []=>match tl c.args with
        | [x,y]=>match tl c.argTypes with
          | [t,_]=>Ti E.cx s o.dst t x y K
          | _=>False
        | _=>False
      | _ :: _=>False
    | .builtin .min=>match G with
      | []=>match tl c.args with
        | [x,y]=>aef E.cx s o.dst x y K
        | _=>False
      | _ :: _=>False
    | .builtin .max=>match G with
      | []=>match tl c.args with
        | [x,y]=>P8 E.cx s o.dst x y K
        | _=>False
      | _ :: _=>False
    | _=>oq E.cx s G o λe=>K (s.put o.dst G e)
  | _=>oq E.cx s G o λe=>K (s.put o.dst G e))->oq E.cx s G o λe=>K (s.put o.dst G e):=by
  intro G s k;split at k
  .rename_i ho;simp[isPure,ho]at hp
  .rename_i ho;simp[isPure,ho]at hp
  .rename_i ho;simp[isPure,ho]at hp
  .rename_i ho;simp[isPure,ho]at hp
  .rename_i ho;simp[isPure,ho]at hp
  .rename_i c ho;split at k
   .rename_i hc;simp[isPure,ho,hc]at hp
   .rename_i hc;simp[isPure,ho,hc]at hp
   .rename_i hc;simp[isPure,ho,hc]at hp
   .rename_i hc;simp[isPure,ho,hc]at hp
   .rename_i hc;simp[isPure,ho,hc]at hp
   .exact k
  .exact k
 exact Nz key k
theorem YX{x:Callee} (h:(match x with | .builtin .len=>true | _=>false)=true):x=.builtin .len:=by
 split at h
 .rfl
 .cases h
theorem Qu(hf:kC o.op=true):isPure o=true:=by
 cases ho:o.op with
 | call c=>
   rw[ho]at hf;have:c.callee=.builtin .len:=YX hf;simp[isPure,ho,this]
 | _=>
   rw[ho]at hf
   first
    | (simp[isPure,ho];done)
    | (simp[kC,nC]at hf;done)
theorem wz{x:Op} (hf:kC x=true):quietly x=true:=by
 cases x with
 | call c=>
   have:c.callee=.builtin .len:=YX hf;simp[quietly,this]
 | _=>
   first
    | rfl
    | (simp[kC,nC]at hf;done)
theorem yR(ok:gV P E) (aj:Sat E.n B h0 s h β w a) (hg:aJ E.cx.gd h) (hf:kC o.op=true) (k:jh E (tl ops) o s K):
 ∃v s',YI P ops (isLoad o.op) w o v a/\K s'/\Sat E.n B h0 s' h β w (a.put o.dst v):=by
 obtain⟨hd,k⟩:=FZ (Qu hf) k;obtain⟨G,s',k,aS,hw,hG⟩:=wX aj k;obtain⟨e,k1,k2⟩:=VJ ok.ti aS hg hf k;cases hgv:gv s'.gl G with
 | true=>
   obtain⟨v,r,c⟩:=k2 hgv;refine⟨v,_,.inl ⟨by rw[hw];exact hgv,λw' hg'=>?_⟩,k1,aS.put (dP hd) hG (λ_=>c) λhh=>by rw[hgv]at hh;cases hh⟩
   exact r w' hg'
 | false=>
   exact⟨undef,_,.inr ⟨by rw[hw];exact hgv,rfl⟩,k1,aS.put (dP hd) hG (λhh=>by rw[hgv]at hh;cases hh) λ_=>rfl⟩
theorem still_step(ok:gV P E) (aj:Sat E.n B h0 s h β w a) (hg:aJ E.cx.gd h) (hp:isPure o=true) (k:jh E (tl ops) o s K){Nx:Act->Prop}
 (next:∀v s',K s'->Sat E.n B h0 s' h β w (a.put o.dst v)->Nx (a.put o.dst v)):if Region.wanted o (yielded ops a.tmps) then o.still P a w Nx else Nx (a.put o.dst undef):=by
 obtain⟨hd,k⟩:=FZ hp k;obtain⟨G,s',k,aS,hw,hG⟩:=wX aj k;obtain⟨e,k1,k2⟩:=Fa ok.ti aS hg k;rw[hw];cases hgv:gv s'.gl G with
 | true=>
   obtain⟨v,r,c⟩:=k2 hgv;rw[if_pos rfl];unfold Oper.still;rw[r,Oper.stillUpon_value];exact next _ _ k1 (aS.put (dP hd) hG (λ_=>c) λhh=>by rw[hgv]at hh;cases hh)
 | false=>
   rw[if_neg (by simp)]
   exact next _ _ k1 (aS.put (dP hd) hG (λhh=>by rw[hgv]at hh;cases hh) λ_=>rfl)
theorem NC(ok:gV P E) (hg:aJ E.cx.gd h0){R:Act->Prop}:∀(l:List Oper){s:St}{a:Act},l.all isPure=true->Sat E.n B h0 s h β w a->YU E (tl ops) l s K ->
 (∀s' a',K s'->Sat E.n B h0 s' h β w a'->Same (jS l) a a'->R a')->wpStill P ops w R l a
 | [],s,a,_,aj,k,next=>next _ _ k aj (Same.refl _ _)
 | o :: r,s,a,hp,aj,k,next=>by
   simp only[List.all_cons,A8]at hp;exact still_step ok aj (hg.mono aj.ok.hle) hp.1 k λv s' k' aS=>NC ok hg r hp.2 aS k' λs2 a2 k2 bF sm=>next s2 a2 k2 bF sm.put
abbrev Cc(cx:Cx):List Oper->Bool
 | []=>false
 | o :: l=>match o.op with
   | .call c=>match c.callee with
     | .builtin .len=>match tl c.argTypes with
       | [t]=>match YH cx t with
         | true=>true
         | false=>Cc cx l
       | _=>Cc cx l
     | _=>Cc cx l
   | .lookup _ _ _ _=>true
   | _=>Cc cx l
abbrev stepM(E:Env) (ops:List Oper) (o:Oper) (s:St) (K:St->Prop):Prop:=match o.guard with
 | some _=>jh E ops o s K
 | none=>match Kw E.cx s o.op λe=>K (s.put o.dst [] e) with
   | some p=>match l7 E.n o.dst with
     | false=>False
     | true=>p
   | none=>jh E ops o s K
abbrev Wu(E:Env) (ops:List Oper):List Oper->St->(St->Prop)->Prop
 | [],s,K=>K s
 | o :: r,s,K=>stepM E ops o s λs=>Wu E ops r s K
theorem Ce(ok:gV P E) (hg:aJ E.cx.gd h0){R:Act->Prop}:∀(l:List Oper){s:St}{a:Act},l.all isPure=true->Sat E.n B h0 s h β w a->Wu E (tl ops) l s K ->
 (∀s' a',K s'->Sat E.n B h0 s' h β w a'->Same (jS l) a a'->R a')->wpStill P ops w R l a
 | [],s,a,_,aj,k,next=>next _ _ k aj (Same.refl _ _)
 | o :: r,s,a,hp,aj,k,next=>by
   simp only[List.all_cons,A8]at hp;have old:jh E (tl ops) o s (λs=>Wu E (tl ops) r s K)->wpStill P ops w R (o :: r) a:=λk=>
    still_step ok aj (hg.mono aj.ok.hle) hp.1 k λv s' k' aS=>Ce ok hg r hp.2 aS k' λs2 a2 k2 bF sm=>next s2 a2 k2 bF sm.put
   simp only[Wu,stepM]at k;split at k
   .exact old k
   .rename_i hgd;split at k
    .rename_i p hp';split at k
     .cases k
     .rename_i hd;obtain⟨e,v,k1,run,c⟩:=Nu ok.ti aj (hg.mono aj.ok.hle) hp' k;unfold wpStill;rw[if_pos (by simp[Region.wanted,hgd])]
      unfold Oper.still;rw[run,Oper.stillUpon_value];exact Ce ok hg r hp.2 (aj.put (dP hd) rfl (λ_=>c) λhh=>by cases hh) k1 λs2 a2 k2 bF sm=>next s2 a2 k2 bF sm.put
    .exact old k
def aep(ops:Array Oper):Bool:=ops.all isPure && Region.lexB .any ops
theorem wB{t:Nat}:∀{l:List Oper},iY t (jS l)=true↔∃o∈l,o.dst=some t
 | []=>by simp[jS,iY]
 | o :: l=>by
   cases hd:o.dst with
   | none=>
     have e:jS (o :: l)=jS l:=by simp only[jS,hd]
     rw[e,wB];simp[hd]
   | some d=>
     have e:jS (o :: l)=d :: jS l:=by simp only[jS,hd]
     rw[e,jB,DJ,wB];constructor
     .rintro(h | ⟨o',h1,h2⟩)
      .exact⟨o,by simp,by rw[hd,iC h]⟩
      .exact⟨o',by simp[h1],h2⟩
     .rintro⟨o',h1,h2⟩;rcases ng.1 h1 with rfl | h1
      .rw[hd]at h2;cases h2;exact .inl (Nat.beq_refl _)
      .exact .inr ⟨o',h1,h2⟩
theorem Same.sub{l m:List Oper} (hs:∀o∈l,o∈m) (x:Same (jS l) a b):Same (jS m) a b:=λt h=>x t (by
 cases hh:iY t (jS l) with
 | false=>rfl
 | true=>
   obtain⟨o,h1,h2⟩:=wB.1 hh;rw[wB.2 ⟨o,hs o h1,h2⟩]at h;cases h)
theorem Same.put_mem{ol:List Oper} (ho:o∈ol){v:Value} (x:Same (jS ol) (a.put o.dst v) b):Same (jS ol) a b:=by
 intro t h;rw[x t h];cases hd:o.dst with
 | none=>rfl
 | some d=>
   have hne:d≠t:=by
    rintro rfl;rw[wB.2 ⟨o,ho,hd⟩]at h;cases h
   simp[Act.put,aiQ hne]
theorem Ac(ok:gV P E) (hg:aJ E.cx.gd h0) (hs:Region.noSelect ops=true){R:Act->World->Prop}:∀(t:DT){n:Nat}{listed:Array Bool}{s:St}{h:FH}{β:List RV}{w:World}{a:Act},
 Sat E.n B h0 s h β w a->sH E (tl ops) (Ee ops t) s K->(∀s' h' β' w' a',K s'->h.le h'->Sat E.n B h0 s' h' β' w' a'->Same (jS ops.toList) a a'->R a' w') ->
 (kM ops t true n listed=true->anyI P .any ops (yO ops) R n listed a w) /\
 (kM ops t false n listed=true->∀i∈t.alts,BA P ops i (λa' w'=>(yO ops i=true->nR w w')/\anyI P .any ops (yO ops) R (n - 1) (listed.setIfInBounds i true) a' w') a w)
 | .done,n,listed,s,h,β,w,a,aj,k,next=>by
   refine⟨λhc=>?_,λhc=>by simp[kM]at hc⟩
   simp only[kM,Ia,A8,zh]at hc;obtain⟨rfl,he⟩:=hc;exact⟨by simpa using he,next _ _ _ _ _ k (FH.le.refl h) aj (Same.refl _ _)⟩
 | .fl i t,n,listed,s,h,β,w,a,aj,k,next=>by
   refine⟨λhc=>?_,λhc=>by simp[kM]at hc⟩
   simp only[kM,Ia,A8,LZ,ne_eq]at hc;obtain⟨⟨hn,hb⟩,hc⟩:=hc;obtain⟨n,rfl⟩:∃m,n=m+1:=⟨n - 1,by omega⟩
   unfold Ed at hb;cases hi:ops[i]? with
   | none=>rw[hi]at hb;simp at hb
   | some o=>
     rw[hi]at hb;simp only[A8]at hb;simp only[Ee,hi,sH]at k;have lJ:o∈ops.toList:=iM (i:=i) (by simpa using hi)
     obtain⟨⟨⟨hf,hfree⟩,hr⟩,hl⟩:=hb;obtain⟨v,s',hy,k',aS⟩:=yR ok aj (hg.mono aj.ok.hle) hf k;have hq:yO ops i=true:=by
      simp only[yO,hi];exact wz hf
     refine Fq (bl:=YW ops listed i) hi (Region.noSelect_spec hs) hq n listed a w (Region.free_spec hi hfree) (λe=>?_) (by simpa using hr) hy (λ_=>nR.refl w)
      ((Ac ok hg hs t aS k' λs2 h2 β2 w2 a2 k2 iD bF sm=>next s2 h2 β2 w2 a2 k2 iD bF (sm.put_mem lJ)).1 hc)
     rw[e]at hl;exact Dt (by simpa using hl)
 | .op i t,n,listed,s,h,β,w,a,aj,k,next=>by
   have key:n≠0->(ops[i]?).isSome=true->kM ops t true (n - 1) (listed.setIfInBounds i true)=true->BA P ops i (λa' w'=>(yO ops i=true->nR w w')/\anyI P .any ops (yO ops) R (n - 1) (listed.setIfInBounds i true) a' w') a w:=by
    intro hn hi hc;obtain⟨o,hi⟩:=A89.1 hi;have lJ:o∈ops.toList:=iM (i:=i) (by simpa using hi)
    simp only[Ee,hi,sH]at k;unfold BA;simp only[hi];refine sG ok aj (hg.mono aj.ok.hle) k _ J3 λs' h' β' w' v k' le BR aS=>⟨λe=>BR (by simpa[yO,hi]using e),?_⟩
    exact(Ac ok hg hs t aS k' λs2 h2 β2 w2 a2 k2 iD bF sm=>next s2 h2 β2 w2 a2 k2 (le.trans iD) bF (sm.put_mem lJ)).1 hc
   refine⟨λhc=>?_,λhc j hj=>?_⟩
   .simp only[kM,Vm,Vo,A8,LZ,ne_eq,zh]at hc;obtain⟨⟨⟨hr,hn⟩,hi⟩,hc⟩:=hc;obtain⟨m,rfl⟩:∃m,n=m+1:=⟨n - 1,by omega⟩
    refine⟨λh0=>by rw[hr]at h0;simp at h0,λj hj=>?_⟩
    rw[hr]at hj;simp at hj;subst hj;exact key hn hi hc
   .simp only[kM,Pn,Vq,Ia,A8,LZ,ne_eq]at hc;simp only[DT.alts,Xg]at hj;subst hj;exact key hc.1.1 hc.1.2 hc.2
 | .alt i t m,n,listed,s,h,β,w,a,aj,k,next=>by
   have key:n≠0->(ops[i]?).isSome=true->kM ops t true (n - 1) (listed.setIfInBounds i true)=true->kM ops m false n listed=true ->
    ∀j∈i :: m.alts,BA P ops j (λa' w'=>(yO ops j=true->nR w w')/\anyI P .any ops (yO ops) R (n - 1) (listed.setIfInBounds j true) a' w') a w:=by
    intro hn hi hc hm j hj;obtain⟨o,hi⟩:=A89.1 hi;have lJ:o∈ops.toList:=iM (i:=i) (by simpa using hi)
    simp only[Ee,hi,sH]at k;rcases ng.1 hj with rfl | hj
    .unfold BA;simp only[hi];refine sG ok aj (hg.mono aj.ok.hle) k.1 _ J3 λs' h' β' w' v k' le BR aS=>⟨λe=>BR (by simpa[yO,hi]using e),?_⟩
     exact(Ac ok hg hs t aS k' λs2 h2 β2 w2 a2 k2 iD bF sm=>next s2 h2 β2 w2 a2 k2 (le.trans iD) bF (sm.put_mem lJ)).1 hc
    .exact(Ac ok hg hs m aj k.2 next).2 hm j hj
   refine⟨λhc=>?_,λhc j hj=>?_⟩
   .simp only[kM,Vm,Vo,A8,LZ,ne_eq,zh]at hc;obtain⟨⟨⟨⟨hr,hn⟩,hi⟩,hc⟩,hm⟩:=hc;obtain⟨q,rfl⟩:∃m,n=m+1:=⟨n - 1,by omega⟩
    refine⟨λh0=>by rw[hr]at h0;simp at h0,λj hj=>?_⟩
    rw[hr]at hj;exact key hn hi hc hm j hj
   .simp only[kM,Pn,Vq,Ia,A8,LZ,ne_eq]at hc;exact key hc.1.1.1 hc.1.1.2 hc.1.2 hc.2 j hj
theorem Sat.drawn(aj:Sat E.n B h0 s h β w a) (n:Nat) (hn:w.drawn<=n):Sat E.n B h0 s h β { w with drawn:=n } a where
 ok:=⟨⟨aj.ok.below.os,aj.ok.below.tape,aj.ok.below.output,aj.ok.below.size,aj.ok.below.block⟩,qP aj.ok.dr hn,aj.ok.len,λi r v h1 h2=>by
  have:=aj.ok.holds i r v h1 h2;cases r<;>cases v<;>exact this,aj.ok.own,aj.ok.inj,aj.ok.hle,aj.ok.hw,aj.ok.hg,aj.ok.kn⟩
 env:=aj.env
 gs:=aj.gs
 defers:=aj.defers
 sz:=aj.sz
 gb:=aj.gb
 gT:=aj.gT
theorem TA(ok:gV P E) (hg:aJ E.cx.gd h0){id:Nat}{ol:OT} (ho:xA ops=some ol) (aj:Sat E.n B h0 s h β w a) (k:sH E (tl ops) ol s K){F:Fence} (hF:Wd F) (hn:Eb ops.toList=true)
 (next:∀s' h' β' w' a',K s'->h.le h'->Sat E.n B h0 s' h' β' w' a'->Same (jS (tl ops)) a a'->Q .normal a' w'):(Code.region id ops true).wpIn F n P Q a w:=by
 unfold xA at ho;have et:tl ops=ops.toList:=by cases ops;rfl
 split at ho
 .rename_i hp;cases ho;simp only[A8]at hp;refine Aa hF hn ok.mixed hp.2 (NC ok hg ops.toList (by simpa using hp.1) (aj.drawn _ (BI _)) (Ws _ k) λs' a' k' aS sm=>next _ _ _ _ _ k' (FH.le.refl h) aS (by rw[et];exact sm))
 .simp only at ho;split at ho
  .rename_i hp;cases ho;simp only[A8,zh]at hp;refine wpIn_region_any ok.mixed (Ku (sf:=yO ops) (R:=λa w=>Q .normal a w) hF hn (λ_ _ hh=>hh) _ _ _ _ ?_)
   exact(Ac ok hg hp.1 (R:=λa w=>Q .normal a w) (Wq ops ops.size (Array.replicate ops.size false)) (aj.drawn (w.drawn+1) (BI _)) k λs' h' β' w' a' k' le aS sm=>next _ _ _ _ _ k' le aS (by rw[et];exact sm)).1 hp.2
  .cases ho
end
section
variable {P:Program}{E:Env}{B:Base}{h0:FH}{s:St}{h:FH}{β:List RV}{w:World}{a:Act}{o:Oper}{ops:Array Oper}{K:St->Prop}
theorem YZ(ok:gV P E) (hg:aJ E.cx.gd h0){id:Nat} (ho:aep ops=true) (aj:Sat E.n B h0 s h β w a) (k:Wu E (tl ops) (tl ops) s K){F:Fence} (hF:Wd F) (hn:Eb ops.toList=true)
 (next:∀s' h' β' w' a',K s'->h.le h'->Sat E.n B h0 s' h' β' w' a'->Same (jS (tl ops)) a a'->Q .normal a' w'):(Code.region id ops true).wpIn F n P Q a w:=by
 unfold aep at ho;have et:tl ops=ops.toList:=by cases ops;rfl
 simp only[A8]at ho;rw[et]at next
 refine Aa hF hn ok.mixed ho.2 (Ce ok hg ops.toList (by simpa using ho.1) (aj.drawn _ (BI _)) (by rw[et]at k ⊢;exact k) λs' a' k' aS sm=>next _ _ _ _ _ k' (FH.le.refl h) aS sm)
end
abbrev aer:Op->Bool
 | .call _=>true
 | _=>false
def Ci:Op->Bool
 | .call c=>(match c.callee with
   | .builtin .len=>true
   | _=>false)
 | o=>quietly o
def ND(ops:Array Oper) (i:Nat):Bool:=match ops[i]? with
 | some o=>Ci o.op
 | none=>true
def Qv(ops:Array Oper) (listed:Array Bool) (i:Nat) (bl:List Nat):Bool:=
 (bl.all λj=>!listed.getD j true && (match ops[j]? with | some o=>o.after.any (λe=>Region.binds .any e && (e.on == i || bl.contains e.on)) | none=>false)) &&
 ((List.range ops.size).all λj=>j == i || listed.getD j true || ND ops j || bl.contains j)
theorem NG{listed:Array Bool}{bl:List Nat} (h:Qv ops listed i bl=true):
 Waits .any ops listed i bl/\∀j,j≠i->listed.getD j true=false->ND ops j=false->j∈bl:=by
 simp only[Qv,A8,RG]at h;refine⟨λj hj=>?_,λj hji hun hs=>?_⟩
 .have h1:=h.1 j hj;simp only[II]at h1;refine⟨h1.1,?_⟩;cases ho:ops[j]? with
  | none=>rw[ho]at h1;exact absurd h1.2 (by simp)
  | some o=>
    rw[ho]at h1;obtain⟨e,he,hb⟩:=Array.any_eq_true'.1 h1.2;simp only[A8,DJ,zh,adI]at hb;exact⟨o,rfl,e,he,hb.1,hb.2⟩
 .rcases XA j ops.size with gZ | hge
  .have h2:=h.2 j (adN.2 gZ);simp only[DJ,zh,hji,hun,hs,adI,adL,false_or]at h2;exact h2
  .have:ops[j]?=none:=adG hge;simp[ND,this]at hs
def KC(ops:Array Oper) (listed:Array Bool) (i:Nat):Bool:=match ops[i]? with
 | some o=>kC o.op && Region.free .any ops listed i && (Region.ready .any ops listed).contains i && (!isLoad o.op || Qv ops listed i (YW ops listed i))
 | none=>false
def vG(ops:Array Oper):DT->Bool->Nat->Array Bool->Bool
 | .done,top,n,listed=>top && n == 0 && (Region.ready .any ops listed).isEmpty
 | .fl i t,top,n,listed=>top && n != 0 && KC ops listed i && vG ops t true (n - 1) (listed.setIfInBounds i true)
 | .op i t,top,n,listed=>(!top || Region.ready .any ops listed == [i]) && n != 0 && (ops[i]?).isSome && vG ops t true (n - 1) (listed.setIfInBounds i true)
 | .alt i t m,top,n,listed=>(!top || Region.ready .any ops listed == i :: m.alts) && n != 0 && (ops[i]?).isSome && vG ops t true (n - 1) (listed.setIfInBounds i true) && vG ops m false n listed
def TB(ops:Array Oper):Nat->Array Bool->DT
 | 0,_=>.done
 | f+1,listed=>
   let rs:=Region.ready .any ops listed
   match rs.find? (λi=>KC ops listed i) with
   | some i=>.fl i (TB ops f (listed.setIfInBounds i true))
   | none=>goT (λi=>TB ops f (listed.setIfInBounds i true)) rs
def Ad(ops:Array Oper):Option OT:=
 let t:=TB ops ops.size (Array.replicate ops.size false)
 if Region.noSelect ops && vG ops t true ops.size (Array.replicate ops.size false) then some (Ee ops t) else none
abbrev NH(E:Env) (ops:List Oper) (o:Oper) (s:St) (K:St->Prop):Prop:=match kC o.op with
 | true=>jh E ops o s K
 | false=>match rtP E.cx s o K with
 | some p=>match l7 E.n o.dst with
   | false=>False
   | true=>p
 | none=>match aer o.op with
   | true=>Nw E ops o s K
   | false=>jh E ops o s K
abbrev qV(E:Env) (ops:List Oper):OT->St->(St->Prop)->Prop
 | .done,s,K=>K s
 | .op o t,s,K=>NH E ops o s λs=>qV E ops t s K
 | .alt o t m,s,K=>(NH E ops o s λs=>qV E ops t s K)/\qV E ops m s K
abbrev NI(E:Env):List Oper->Bool
 | []=>false
 | o :: l=>match o.op with
   | .call c=>match c.callee with
     | .value (.func f)=>match E.ip f with
       | some _=>true
       | none=>NI E l
     | _=>NI E l
   | _=>NI E l
section
variable {P:Program}{E:Env}{B:Base}{h0:FH}{s:St}{h:FH}{β:List RV}{w:World}{a:Act}{o:Oper}{ops:Array Oper}{K:St->Prop}
theorem NJ(ok:gV P E) (aj:Sat E.n B h0 s h β w a) (hg:aJ E.cx.gd h) (hi:ops[i]?=some o) (k:NH E (tl ops) o s K){R:Act->World->Prop}
 (next:∀s' h' β' w' v,K s'->h.le h'->(ND ops i=true->nR w w')->Sat E.n B h0 s' h' β' w' (a.put o.dst v)->R (a.put o.dst v) w'):BA P ops i R a w:=by
 unfold BA;simp only[hi];unfold NH at k;have plain:Ci o.op=quietly o.op->jh E (tl ops) o s K->if Region.wanted o (yielded ops a.tmps)=true then o.wp P a w R J3 else R (a.put o.dst undef) w:=λhq k=>
  sG ok aj hg k R J3 λs' h' β' w' v k' le BR aS=>next s' h' β' w' v k' le (λe=>BR (by rw[<-hq];simpa[ND,hi]using e)) aS
 split at k
 .rename_i hf;refine plain ?_ k;cases ho:o.op with
  | call c=>
    rw[ho]at hf;have:c.callee=.builtin .len:=YX hf;simp[Ci,quietly,this]
  | _=>rfl
 .rename_i hf;split at k
  .rename_i p hp;split at k
   .cases k
   .rename_i hd;refine YF ok.ti aj hg hd hp k R J3 λs' h' β' w' v k' le BR aS=>next s' h' β' w' v k' le (λe=>BR ?_) aS
    simp only[ND,hi]at e;revert e;unfold Ci;split
    .rename_i c hc;split
     .rename_i h2;intro _;rw[hc];simp[quietly,h2]
     .intro e;cases e
    .exact λe=>e
  split at k
  .rename_i hc;refine FY ok aj hg k R J3 λs' h' β' w' v k' le aS=>next s' h' β' w' v k' le (λe=>?_) aS
   exfalso;cases ho:o.op with
   | call c=>
     rw[ho]at hf;simp only[ND,hi,ho,Ci]at e;have h1:c.callee=.builtin .len:=by
      revert e;split
      .rename_i h2;intro _;exact h2
      .intro e;cases e
     have:kC (Op.call c)=true:=by simp[kC,nC,h1]
     rw[this]at hf;cases hf
   | _=>rw[ho]at hc;cases hc
  .rename_i hc;refine plain ?_ k;cases ho:o.op with
   | call c=>rw[ho]at hc;cases hc
   | _=>rfl
theorem wC(ok:gV P E) (hg:aJ E.cx.gd h0) (hs:Region.noSelect ops=true){R:Act->World->Prop}:∀(t:DT){n:Nat}{listed:Array Bool}{s:St}{h:FH}{β:List RV}{w:World}{a:Act},
 Sat E.n B h0 s h β w a->qV E (tl ops) (Ee ops t) s K->(∀s' h' β' w' a',K s'->h.le h'->Sat E.n B h0 s' h' β' w' a'->Same (jS ops.toList) a a'->R a' w') ->
 (vG ops t true n listed=true->anyI P .any ops (ND ops) R n listed a w) /\
 (vG ops t false n listed=true->∀i∈t.alts,BA P ops i (λa' w'=>(ND ops i=true->nR w w')/\anyI P .any ops (ND ops) R (n - 1) (listed.setIfInBounds i true) a' w') a w)
 | .done,n,listed,s,h,β,w,a,aj,k,next=>by
   refine⟨λhc=>?_,λhc=>by simp[vG]at hc⟩
   simp only[vG,Ia,A8,zh]at hc;obtain⟨rfl,hr⟩:=hc;exact⟨by simpa using hr,next _ _ _ _ _ k (FH.le.refl h) aj (Same.refl _ _)⟩
 | .fl i t,n,listed,s,h,β,w,a,aj,k,next=>by
   refine⟨λhc=>?_,λhc=>by simp[vG]at hc⟩
   simp only[vG,Ia,A8,LZ,ne_eq]at hc;obtain⟨⟨hn0,hb⟩,hc⟩:=hc;obtain⟨n,rfl⟩:∃m,n=m+1:=⟨n - 1,by omega⟩
   unfold KC at hb;cases hi:ops[i]? with
   | none=>rw[hi]at hb;simp at hb
   | some o=>
     rw[hi]at hb;simp only[A8]at hb;simp only[Ee,hi,qV]at k;have lJ:o∈ops.toList:=iM (i:=i) (by simpa using hi)
     obtain⟨⟨⟨hf,hfree⟩,hr⟩,hl⟩:=hb;have k:jh E (tl ops) o s λs=>qV E (tl ops) (Ee ops t) s K:=by
      unfold NH at k;rw[hf]at k;exact k
     obtain⟨v,s',hy,k',aS⟩:=yR ok aj (hg.mono aj.ok.hle) hf k;have hq:ND ops i=true:=by
      simp only[ND,hi];cases ho:o.op with
      | call c=>
        rw[ho]at hf;have:c.callee=.builtin .len:=YX hf;simp[Ci,this]
      | _=>
        have:=wz hf;rw[ho]at this;exact this
     refine Fq (bl:=YW ops listed i) hi (Region.noSelect_spec hs) hq n listed a w (Region.free_spec hi hfree) (λe=>?_) (by simpa using hr) hy (λ_=>nR.refl w)
      ((wC ok hg hs t aS k' λs2 h2 β2 w2 a2 k2 iD bF sm=>next s2 h2 β2 w2 a2 k2 iD bF (sm.put_mem lJ)).1 hc)
     rw[e]at hl;exact NG (by simpa using hl)
 | .op i t,n,listed,s,h,β,w,a,aj,k,next=>by
   have key:n≠0->(ops[i]?).isSome=true->vG ops t true (n - 1) (listed.setIfInBounds i true)=true->BA P ops i (λa' w'=>(ND ops i=true->nR w w')/\anyI P .any ops (ND ops) R (n - 1) (listed.setIfInBounds i true) a' w') a w:=by
    intro hn0 hi hc;obtain⟨o,hi⟩:=A89.1 hi;have lJ:o∈ops.toList:=iM (i:=i) (by simpa using hi)
    simp only[Ee,hi,qV]at k;exact(NJ ok aj (hg.mono aj.ok.hle) hi k λs' h' β' w' v k' le BR aS=>⟨BR,(wC ok hg hs t aS k' λs2 h2 β2 w2 a2 k2 iD bF sm=>next s2 h2 β2 w2 a2 k2 (le.trans iD) bF (sm.put_mem lJ)).1 hc⟩)
   refine⟨λhc=>?_,λhc j hj=>?_⟩
   .simp only[vG,Vm,Vo,A8,LZ,ne_eq,zh]at hc;obtain⟨⟨⟨hr,hn0⟩,hi⟩,hc⟩:=hc;obtain⟨m,rfl⟩:∃m,n=m+1:=⟨n - 1,by omega⟩
    refine⟨λh0=>by rw[hr]at h0;simp at h0,λj hj=>?_⟩
    rw[hr]at hj;simp at hj;subst hj;exact key hn0 hi hc
   .simp only[vG,Pn,Vq,Ia,A8,LZ,ne_eq]at hc;simp only[DT.alts,Xg]at hj;subst hj;exact key hc.1.1 hc.1.2 hc.2
 | .alt i t mm,n,listed,s,h,β,w,a,aj,k,next=>by
   have key:n≠0->(ops[i]?).isSome=true->vG ops t true (n - 1) (listed.setIfInBounds i true)=true->vG ops mm false n listed=true ->
    ∀j∈i :: mm.alts,BA P ops j (λa' w'=>(ND ops j=true->nR w w')/\anyI P .any ops (ND ops) R (n - 1) (listed.setIfInBounds j true) a' w') a w:=by
    intro hn0 hi hc hm j hj;obtain⟨o,hi⟩:=A89.1 hi;have lJ:o∈ops.toList:=iM (i:=i) (by simpa using hi)
    simp only[Ee,hi,qV]at k;rcases ng.1 hj with rfl | hj
    .exact(NJ ok aj (hg.mono aj.ok.hle) hi k.1 λs' h' β' w' v k' le BR aS=>⟨BR,(wC ok hg hs t aS k' λs2 h2 β2 w2 a2 k2 iD bF sm=>next s2 h2 β2 w2 a2 k2 (le.trans iD) bF (sm.put_mem lJ)).1 hc⟩)
    .exact(wC ok hg hs mm aj k.2 next).2 hm j hj
   refine⟨λhc=>?_,λhc j hj=>?_⟩
   .simp only[vG,Vm,Vo,A8,LZ,ne_eq,zh]at hc;obtain⟨⟨⟨⟨hr,hn0⟩,hi⟩,hc⟩,hm⟩:=hc;obtain⟨q,rfl⟩:∃m,n=m+1:=⟨n - 1,by omega⟩
    refine⟨λh0=>by rw[hr]at h0;simp at h0,λj hj=>?_⟩
    rw[hr]at hj;exact key hn0 hi hc hm j hj
   .simp only[vG,Pn,Vq,Ia,A8,LZ,ne_eq]at hc;exact key hc.1.1.1 hc.1.1.2 hc.1.2 hc.2 j hj
theorem Y0(ok:gV P E) (hg:aJ E.cx.gd h0){id:Nat}{ol:OT} (ho:Ad ops=some ol) (aj:Sat E.n B h0 s h β w a) (k:qV E (tl ops) ol s K){F:Fence} (hF:Wd F) (hn:Eb ops.toList=true)
 (next:∀s' h' β' w' a',K s'->h.le h'->Sat E.n B h0 s' h' β' w' a'->Same (jS (tl ops)) a a'->Q .normal a' w'):(Code.region id ops true).wpIn F n P Q a w:=by
 unfold Ad at ho;have et:tl ops=ops.toList:=by cases ops;rfl
 simp only at ho;split at ho
 .rename_i hp;cases ho;simp only[A8,zh]at hp;refine wpIn_region_any ok.mixed (Ku (sf:=ND ops) (R:=λa w=>Q .normal a w) hF hn (λ_ _ hh=>hh) _ _ _ _ ?_)
  exact(wC ok hg hp.1 (R:=λa w=>Q .normal a w) (TB ops ops.size (Array.replicate ops.size false)) (aj.drawn (w.drawn+1) (BI _)) k λs' h' β' w' a' k' le aS sm=>next _ _ _ _ _ k' le aS (by rw[et];exact sm)).1 hp.2
 .cases ho
end
abbrev isNil{α:Type}:List α->Bool
 | []=>true
 | _ :: _=>false
abbrev wE(seen:List Nat):List (Nat×Gd×bg)->List (Nat×Gd×bg)
 | []=>[]
 | (k,g,e) :: l=>match iY k seen with
   | true=>wE seen l
   | false=>match isNil g with
     | true=>(k,g,e) :: wE (k :: seen) l
     | false=>wE (k :: seen) l
abbrev mM:List (Gd×au)->List (Gd×au)
 | []=>[]
 | (g,r) :: l=>match isNil g with
   | true=>([],r) :: mM l
   | false=>([],.gone) :: mM l
abbrev clean(s:St):St:={ env:=wE [] s.env,T:=mM s.T,gl:=[],gs:=[] }
theorem uz:∀{l:List (Nat×Gd×bg)}{seen:List Nat}{t:Nat}{G:Gd}{e:bg},iG (wE seen l) t=some (G,e)->iY t seen=false/\iG l t=some (G,e)/\G=[]
 | [],_,_,_,_,h=>by simp[wE,iG]at h
 | (k,g,e0) :: l,seen,t,G,e,h=>by
   unfold wE at h;split at h
   .rename_i hm;obtain⟨h1,h2,h3⟩:=uz h;refine⟨h1,?_,h3⟩;rw[aX,if_neg]
    .exact h2
    .rintro rfl;rw[hm]at h1;cases h1
   .rename_i hm;have sub:iG (wE (k :: seen) l) t=some (G,e)->iY t seen=false/\iG ((k,g,e0) :: l) t=some (G,e)/\G=[]:=by
     intro h;obtain⟨h1,h2,h3⟩:=uz h;rw[jB,oV]at h1;refine⟨h1.2,?_,h3⟩;rw[aX,if_neg]
     .exact h2
     .rintro rfl;exact Xu h1.1 rfl
    split at h
    .rename_i hn;rw[aX]at h;split at h
     .rename_i hk;subst hk;cases h;refine⟨hm,by rw[aX,if_pos rfl],?_⟩
      cases g with
      | nil=>rfl
      | cons _ _=>cases hn
     .exact sub h
    .exact sub h
theorem F5(gl:List Bool):∀(T:List (Gd×au)) (i:Nat) (r:au),(eff [] (mM T))[i]?=some r->r.live=true->(eff gl T)[i]?=some r
 | [],i,r,h,_=>by simp[mM,eff]at h
 | (g,r0) :: l,i,r,h,hl=>by
   have e1:eff [] (mM ((g,r0) :: l))=(match isNil g with | true=>r0 | false=>au.gone) :: eff [] (mM l):=by
    simp only[mM];cases isNil g<;>rfl
   rw[e1]at h;cases i with
   | zero=>
     simp only[Ve,Xp]at h;cases g with
     | nil=>simp only[isNil]at h;subst h;rfl
     | cons _ _=>simp only[isNil]at h;subst h;cases hl
   | succ i=>
     simp only[adF,eff]at h ⊢
     exact F5 gl l i r h hl
theorem F6:∀(T:List (Gd×au)),(mM T).length=T.length
 | []=>rfl
 | (g,r) :: l=>by simp only[mM];split<;>simp[F6 l]
theorem yS:∀{T:List (Gd×au)}{p:Gd×au},p∈mM T->p.1=[]
 | [],p,h=>by simp[mM]at h
 | (g,r) :: l,p,h=>by
   simp only[mM]at h;split at h
   .rcases ng.1 h with rfl | h
    .rfl
    .exact yS h
   .rcases ng.1 h with rfl | h
    .rfl
    .exact yS h
theorem OK.weaken{T T':List au} (ok:OK B h0 T h β w) (hl:T'.length=T.length) (sub:∀(i:Nat) r,T'[i]?=some r->r.live=true->T[i]?=some r):OK B h0 T' h β w where
 below:=ok.below
 dr:=ok.dr
 len:=by rw[hl];exact ok.len
 holds:=by
  intro i r v e e';cases hr:r.live with
  | true=>exact ok.holds i r v (sub i r e hr) e'
  | false=>cases r<;>first | (cases hr;done) | (cases v<;>trivial)
 own:=λi r v b e l e' hb=>ok.own i r v b (sub i r e l) l e' hb
 inj:=λi j r r' u v b e l e' l' f f' hb hb'=>ok.inj i j r r' u v b (sub i r e l) l (sub j r' e' l') l' f f' hb hb'
 hle:=ok.hle
 hw:=ok.hw
 hg:=ok.hg
 kn:=ok.kn
theorem Sat.clean{N:Nat}{B:Base}{h0:FH}{s:St}{h:FH}{β:List RV}{w:World}{a:Act} (aj:Sat N B h0 s h β w a):Sat N B h0 (clean s) h β w a:=by
 refine⟨?_,?_,?_,aj.defers,aj.sz,?_,?_⟩
 .exact aj.ok.weaken (by simp[ji,F6]) λi r e l=>F5 s.gl s.T i r e l
 .intro t G e ht;obtain⟨_,h1,rfl⟩:=uz ht;exact aj.env t [] e h1
 .intro d i hi;have hi:XL [] d=some i:=hi;cases hi
 .intro t G e ht;obtain⟨_,h1,rfl⟩:=uz ht;rfl
 .intro p hp;rw[yS hp]
abbrev writes:Code->List Nat
 | .region _ ops _=>jS (tl ops)
 | .seq a b=>dY (writes a) (writes b)
 | .cond _ a b=>dY (writes a) (writes b)
 | .block _ c=>writes c
 | .loop c=>writes c
 | _=>[]
abbrev keyOf:Code->Nat
 | .region id _ _=>id
 | .seq a _=>keyOf a
 | .cond _ a _=>keyOf a
 | .block _ c=>keyOf c
 | .loop c=>keyOf c
 | _=>0
abbrev Ef(n:Nat):SC->Bool
 | .own i _=>Nat.ble (i+1) n
 | .row i=>Nat.ble (i+1) n
 | .ku i _ _ _=>Nat.ble (i+1) n
 | .sub i _=>Nat.ble (i+1) n
 | .mD i _ _ _ _=>Nat.ble (i+1) n
 | _=>true
abbrev Ae(n:Nat):SV->Bool
 | .c x=>Ef n x
 | .agg xs=>allL (Ef n) xs
 | _=>true
abbrev lM(n:Nat):au->Bool
 | .blk _ xs=>allL (Ef n) xs
 | _=>true
abbrev kX:SC->Bool
 | .v _=>true
 | .sl _ _=>true
 | .one _ _=>true
 | .fp _ _=>true
 | .abs _=>true
 | .junk=>true
 | _=>false
abbrev Cj:SV->Bool
 | .c x=>kX x
 | .agg xs=>allL kX xs
 | _=>true
abbrev uD:bg->Bool
 | .one v=>Cj v
 | .iO vs=>allL Cj vs
abbrev qH(ws seen:List Nat):List (Nat×Gd×bg)->List (Nat×Gd×bg)
 | []=>[]
 | (k,g,e) :: l=>match iY k seen with
   | true=>qH ws seen l
   | false=>match iY k ws with
     | true=>qH ws (k :: seen) l
     | false=>match dA (isNil g) (uD e) with
       | true=>(k,g,e) :: qH ws (k :: seen) l
       | false=>qH ws (k :: seen) l
abbrev keepR(n:Nat) (ws seen:List Nat):List (Nat×Gd×bg)->List (Nat×SV)
 | []=>[]
 | (k,g,e) :: l=>match iY k seen with
   | true=>keepR n ws seen l
   | false=>match iY k ws with
     | true=>keepR n ws (k :: seen) l
     | false=>match isNil g with
       | true=>match e with
         | .one (.c (.own i off))=>match Nat.ble (i+1) n with
           | true=>(k,.c (.own i off)) :: keepR n ws (k :: seen) l
           | false=>keepR n ws (k :: seen) l
         | .one (.c (.row i))=>match Nat.ble (i+1) n with
           | true=>(k,.c (.row i)) :: keepR n ws (k :: seen) l
           | false=>keepR n ws (k :: seen) l
         | _=>keepR n ws (k :: seen) l
       | false=>keepR n ws (k :: seen) l
abbrev F7(s:St):List (Nat×SV)->Bool
 | []=>true
 | (k,.c (.own i off)) :: l=>match iG s.env k with
   | some ([],.one (.c (.own i' off')))=>dA (dA (Nat.beq i i') (Nat.beq off off')) (F7 s l)
   | _=>false
 | (k,.c (.row i)) :: l=>match iG s.env k with
   | some ([],.one (.c (.row i')))=>dA (Nat.beq i i') (F7 s l)
   | _=>false
 | _=>false
abbrev F8:List (Nat×SV)->List (Nat×Gd×bg)
 | []=>[]
 | (k,v) :: l=>(k,[],.one v) :: F8 l
abbrev kF:List (Nat×au)->List (Gd×au)->List (Gd×au)
 | [],T=>T
 | (i,r) :: l,T=>kF l (dh T i ([],r))
abbrev qW(ws:List Nat) (s:St) (sl:List (Nat×SV)) (rs:List (Nat×au)):St:=
 { env:=dY (F8 sl) (dY (F8 (keepR (aO s.T) ws [] s.env)) (qH ws [] s.env)),T:=kF rs s.T,gl:=[],gs:=[] }
abbrev Y1:SV->SV
 | .c x=>match x with
   | .abs (.Vt sh l)=>.c (.sl sh l)
   | x=>.c x
 | v=>v
abbrev Iq(s:St):List (Nat×SV)->Prop
 | []=>True
 | (k,v) :: l=>(match iG s.env k with
   | some ([],.one u)=>Y1 u=v
   | _=>False)/\Iq s l
abbrev yj(n:Nat) (T:List (Gd×au)):Bool:=allL (λp=>dA (isNil p.1) (lM n p.2)) T
abbrev Jc(n:Nat) (ws:List Nat) (sl:List (Nat×SV)):Bool:=allL (λp=>dA (Ae n p.2) (iY p.1 ws)) sl
abbrev Y2(s:St) (k:Nat) (t:TypeId) (sh:Sh):St:=match iG s.env k with
 | some ([],.one (.c (.v (.slice none 0 0))))=>{ s with T:=snoc s.T ([],.row t sh []),env:=(k,[],.one (.c (.row (aO s.T)))) :: s.env,gs:=rmG s.gs k }
 | some ([],.one (.c (.own i 0)))=>match eH s.T i with
   | some ([],.blk t' [.v (.slice none 0 0)])=>{ s with T:=dh s.T i ([],.blk t' [.sl sh []]) }
   | _=>s
 | _=>s
abbrev KD(s:St) (k:Nat):St:=match iG s.env k with
 | some ([],.one (.c (.row r)))=>Nb s r
 | some ([],.one (.c (.abs (.Vt sh l))))=>{ s with env:=(k,[],.one (.c (.sl sh l))) :: s.env,gs:=rmG s.gs k }
 | _=>s
abbrev sJ(s:St):List Nat->St
 | []=>s
 | k :: l=>sJ (KD s k) l
theorem Sat.sJ{N:Nat}{B:Base}{h0:FH}{w:World}{a:Act}{β:List RV}:∀(l:List Nat){s:St}{h:FH},Sat N B h0 s h β w a->∃h',h.le h'/\Sat N B h0 (sJ s l) h' β w a
 | [],s,h,aj=>⟨h,FH.le.refl h,aj⟩
 | k :: l,s,h,aj=>by
   have h1:∃h',h.le h'/\Sat N B h0 (KD s k) h' β w a:=by
    unfold KD;split
    .exact aj.ajp _
    .rename_i sh l hk;refine⟨h,FH.le.refl h,aj.ok,?_,?_,aj.defers,aj.sz,?_,aj.gT⟩
     .intro t' G e ht;rw[aX]at ht;split at ht
      .rename_i hkt;subst hkt;cases ht;obtain⟨z,z1,z2,z3⟩:=aj.env k _ _ hk;have c:cZ h β (.c (.abs (.Vt sh l))) z:=z2 rfl;exact⟨z,z1,λ_=>⟨c.1.1,c.2⟩,λhh=>by cases hh⟩
      .exact aj.env t' G e ht
     .intro d i hi;obtain⟨hne,hi⟩:=BL _ _ _ _ hi;obtain⟨G,b,q1,q2⟩:=aj.gs d i hi;exact⟨G,b,by rw[aX,if_neg (Ne.symm hne)];exact q1,q2⟩
     .intro t' G e ht;rw[aX]at ht;split at ht
      .cases ht;rfl
      .exact aj.gb _ _ _ ht
    .exact⟨h,FH.le.refl h,aj⟩
   obtain⟨h1,le1,jv⟩:=h1;obtain⟨h2,iD,bF⟩:=Sat.sJ l jv;exact⟨h2,le1.trans iD,bF⟩
abbrev Jd(s:St):List (Nat×TypeId×Sh)->St
 | []=>s
 | (k,t,sh) :: l=>Jd (Y2 s k t sh) l
theorem Sat.Y2{N:Nat}{B:Base}{h0:FH}{s:St}{h:FH}{β:List RV}{w:World}{a:Act} (aj:Sat N B h0 s h β w a) (k:Nat) (t:TypeId) (sh:Sh):∃β',Sat N B h0 (Y2 s k t sh) h β' w a:=by
 unfold ni.Y2;split
 .rename_i hk;obtain⟨z,z1,z2,_⟩:=aj.env k _ _ hk;have ez:z=.slice none 0 0:=(z2 rfl:cZ h β (.c (.v (.slice none 0 0))) z).1.1;subst ez;have ok:OK B h0 (eff s.gl (snoc s.T ([],.row t sh []))) h (β++[.row (.slice none 0 0)]) w:=by
   rw[iU];exact aj.ok.add (r:=.row t sh []) (v:=.row (.slice none 0 0)) (bW w none) (λb hb=>by rw[aY]at hb;simp[aA]at hb) (.inl ⟨rfl,rfl⟩)
  have gT:∀p∈snoc s.T (([]:Gd),au.row t sh []),wS s.gl.length p.1=true:=by
   intro p hp;rw[iP,DY]at hp;rcases hp with hp | hp
   .exact aj.gT p hp
   .simp at hp;subst hp;rfl
  have sm:=aj.mem ok (FH.le.refl h) (Ext.append _ _) gT;refine⟨_,ok,?_,?_,aj.defers,aj.sz,?_,gT⟩
  .intro t' G e ht;rw[aX]at ht;split at ht
   .rename_i hkt;subst hkt;cases ht;refine⟨_,z1,λ_=>⟨?_,rfl,rfl⟩,λhh=>by cases hh⟩
    refine⟨.row (.slice none 0 0),?_,rfl⟩;have:aO s.T=β.length:=by rw[aj.ok.len,ji,bC]
    rw[this];simp
   .exact sm.env t' G e ht
  .intro d i hi;obtain⟨hne,hi⟩:=BL _ _ _ _ hi;obtain⟨G,b,q1,q2⟩:=aj.gs d i hi;exact⟨G,b,by rw[aX,if_neg (Ne.symm hne)];exact q1,q2⟩
  .intro t' G e ht;rw[aX]at ht;split at ht
   .cases ht;rfl
   .exact aj.gb _ _ _ ht
 .rename_i i hk;split
  .rename_i t' hT;refine⟨β,?_,aj.env,aj.gs,aj.defers,aj.sz,aj.gb,?_⟩
   .show OK B h0 (eff s.gl (dh s.T i ([],.blk t' [.sl sh []]))) h β w;rw[fV];refine aj.ok.Qj (bD hT (show gv s.gl []=true from rfl)) rfl λv hv=>?_
    cases v with
    | blk b=>
      obtain⟨ys,e1,al⟩:=hv;refine⟨ys,e1,?_⟩;cases ys with
      | nil=>exact al.elim
      | cons y ys=>
        cases ys with
        | cons _ _=>exact al.2.elim
        | nil=>
          obtain⟨⟨c,o⟩,_⟩:=al;obtain rfl:y=.slice none 0 0:=c.1;exact⟨⟨.inl ⟨rfl,rfl⟩,o⟩,trivial⟩
    | row _=>exact hv.elim
    | deep _ _=>exact hv.elim
    | no=>exact hv.elim
   .intro p hp;rw[gJ]at hp;rcases JF hp with hp | hp
    .exact aj.gT p hp
    .subst hp;rfl
  .exact⟨β,aj⟩
 .exact⟨β,aj⟩
theorem Sat.Jd{N:Nat}{B:Base}{h0 h:FH}{w:World}{a:Act}:∀(l:List (Nat×TypeId×Sh)){s:St}{β:List RV},Sat N B h0 s h β w a->∃β',Sat N B h0 (Jd s l) h β' w a
 | [],s,β,aj=>⟨β,aj⟩
 | (k,t,sh) :: l,s,β,aj=>by
   obtain⟨β1,jv⟩:=aj.Y2 k t sh;exact Sat.Jd l jv
abbrev anY(body:St->(Exit->St->Prop)->Prop) (ws:List Nat) (la:LA) (s:St) (K:Exit->St->Prop):Prop:=
 (∃x,la.inv x/\Iq s (la.slots x)/\s.T=kF (la.res x) s.T) /\
 ∀x,la.inv x->match dA (yj (aO s.T) (kF (la.res x) s.T)) (Jc (aO s.T) ws (la.slots x)) with
   | false=>False
   | true=>body (qW ws s (la.slots x) (la.res x)) λe s'=>match e with
     | .normal=>match F7 (vC la.can (ou la.ren s')) (keepR (aO s.T) ws [] s.env) with
       | true=>∃x',la.inv x'/\Iq (vC la.can (ou la.ren s')) (la.slots x')/\rJ (aO s.T) (vC la.can (ou la.ren s')).T=kF (la.res x') s.T/\la.meas x' < la.meas x
       | false=>False
     | e=>K e s'
abbrev KE(body:St->(Exit->St->Prop)->Prop):Nat->St->(Exit->St->Prop)->Prop
 | 0,_,_=>False
 | n+1,s,K=>body s λe s'=>match e with
   | .normal=>KE body n s' K
   | e=>K e s'
abbrev aes(E:Env) (c:Code) (s:St):Option kS:=match E.ann (keyOf c) with
 | some f=>some (f s)
 | none=>none
abbrev jw(s:St) (t:Nat):Int:=match iG s.env t with
 | some (_,.one (.c (.v (.int _ n))))=>n
 | _=>0
abbrev Y3(s:St) (t:Nat):ByteArray:=match iG s.env t with
 | some (_,.one (.c (.v (.string b))))=>b
 | _=>ByteArray.empty
abbrev slotL(sh:Sh) (s:St) (t:Nat):List sh.den:=match iG s.env t with
 | some (_,.one v)=>match PX s sh v with
   | some l=>l
   | none=>[]
 | _=>[]
abbrev br(b:Bool) (X Y:Prop):Prop:=match b with
 | true=>X
 | false=>Y
theorem ah{b:Bool}{X Y:Prop}:br b X Y↔(b=true->X)/\(b=false->Y):=by cases b<;>simp[br]
abbrev NK:(ps:List Nat)->(ss:List Sh)->bT ss->List (Nat×Gd×bg)
 | p :: ps,s :: ss,d=>(p,[],.one (iH s d.1)) :: NK ps ss d.2
 | _,_,_=>[]
abbrev yu(n:Nat):List Nat->List Sh->Bool
 | [],[]=>true
 | p :: ps,_ :: ss=>dA (dA (Nat.ble (p+1) n) (!(iY p ps))) (yu n ps ss)
 | _,_=>false
abbrev rdE(ws dr:List Nat) (s:St):List (Nat×Gd×bg):=dY (F8 (keepR (aO s.T) ws [] s.env)) (qH dr [] s.env)
abbrev Qw(n:Nat) (body:St->(Exit->St->Prop)->Prop) (ws:List Nat) (ra:RA) (ps:List Nat) (ss:List Sh) (L:List (bT ss)) (s:St) (K:Exit->St->Prop):Prop:=
 match yu n ps ss with
 | false=>False
 | true=>
 (∃x,ra.inv 0 x/\s.T=kF (ra.res x) s.T) /\
 (∀i x d,ra.inv i x->L[i]?=some d->match yj (aO s.T) (kF (ra.res x) s.T) with
  | false=>False
  | true=>body { env:=dY (NK ps ss d) (rdE ws (dY ra.drop ps) s),T:=kF (ra.res x) s.T,gl:=[],gs:=[] } λe s'=>match F7 s' (keepR (aO s.T) ws [] s.env) with
    | false=>False
    | true=>match e with
      | .normal=>∃x',ra.inv (i+1) x'/\rJ (aO s.T) s'.T=kF (ra.res x') s.T
      | .ret=>K .ret { env:=rdE ws ra.drop s,T:=s'.T,gl:=s'.gl,gs:=[] }
      | .exit j=>K (.exit j) { env:=rdE ws ra.drop s,T:=s'.T,gl:=s'.gl,gs:=[] }
      | _=>False) /\
 ∀x,ra.inv (aO L) x->match yj (aO s.T) (kF (ra.res x) s.T) with
   | false=>False
   | true=>K .normal { env:=rdE ws ra.drop s,T:=kF (ra.res x) s.T,gl:=[],gs:=[] }
abbrev uY(s:St) (H6 wu:List Nat) (nl:List (Nat×TypeId×Sh)) (uy:List (Nat×Nat×TypeId×Sh)) (dp:List (Nat×TypeId×Sh×Nat)):St:=xw (I7 (Jd (BZ (sJ s H6) wu) nl) uy) dp
theorem Sat.uY{N:Nat}{B:Base}{h0 h:FH}{w:World}{a:Act}{s:St}{β:List RV} (aj:Sat N B h0 s h β w a) (H6 wu:List Nat) (nl:List (Nat×TypeId×Sh)) (uy:List (Nat×Nat×TypeId×Sh)) (dp:List (Nat×TypeId×Sh×Nat)):∃h' β',h.le h'/\Sat N B h0 (uY s H6 wu nl uy dp) h' β' w a:=by
 obtain⟨h1,le1,jv⟩:=Sat.sJ H6 aj;obtain⟨h2,β2,iD,bF⟩:=Sat.BZ (l:=wu) jv;obtain⟨β3,Qx⟩:=Sat.Jd nl bF;obtain⟨β4,Y4⟩:=Sat.I7 uy Qx;obtain⟨β5,aqm⟩:=Sat.xw dp Y4;exact⟨h2,β5,le1.trans iD,aqm⟩
abbrev yT:Nat->St->St
 | 0,s=>s
 | n+1,s=>yT n { s with T:=snoc s.T ([],.gone) }
theorem Sat.yT{N:Nat}{B:Base}{h0 h:FH}{w:World}{a:Act}:∀(n:Nat){s:St}{β:List RV},Sat N B h0 s h β w a->∃β',Sat N B h0 (yT n s) h β' w a
 | 0,s,β,aj=>⟨β,aj⟩
 | n+1,s,β,aj=>by
   refine Sat.yT n (β:=β++[.no]) (s:={ s with T:=snoc s.T ([],.gone) }) ?_
   refine aj.mem ?_ (FH.le.refl h) (Ext.append _ _) λp hp=>?_
   .rw[iU];exact aj.ok.add (r:=.gone) (v:=.no) (bW w none) (λb hb=>(Px hb).elim) trivial
   .rw[iP,DY]at hp;rcases hp with hp | hp
    .exact aj.gT p hp
    .simp at hp;subst hp;rfl
abbrev aqn(E:Env) (c:Code) (s:St):Option LA:=match aes E c s with
 | some (.cut la)=>some la
 | _=>none
abbrev anZ(ws:List Nat) (la:LA) (s s':St):Prop:=match F7 (vC la.can (ou la.ren (uY s' la.H6 la.wu la.nil la.uy la.deep))) (keepR (aO s.T) ws [] s.env) with
 | true=>∃v,la.inv v/\Iq (vC la.can (ou la.ren (uY s' la.H6 la.wu la.nil la.uy la.deep))) (la.slots v)/\rJ (aO s.T) (vC la.can (ou la.ren (uY s' la.H6 la.wu la.nil la.uy la.deep))).T=kF (la.res v) s.T
 | false=>False
abbrev jy:Env->Code->St->(Exit->St->Prop)->Prop
 | E,.skip,s,K=>K .normal s
 | E,.region _ ops draw,s,K=>match Eb (tl ops) with
   | false=>False
   | true=>match draw with
     | false=>aen E (tl ops) (tl ops) s λs=>K .normal (clean s)
     | true=>match Cc E.cx (tl ops) with
       | true=>match aep ops with
         | true=>Wu E (tl ops) (tl ops) s λs=>K .normal (clean s)
         | false=>False
       | false=>match orB E.cx.rt (NI E (tl ops)) with
         | true=>match Ad ops with
           | some l=>qV E (tl ops) l s λs=>K .normal (clean s)
           | none=>False
         | false=>match xA ops with
           | some l=>sH E (tl ops) l s λs=>K .normal (clean s)
           | none=>False
 | E,.seq x y,s,K=>match aqn E y s with
   | some la=>(jy E x (yT la.pad s) λe s'=>match e with
    | .normal=>anZ (dY la.drop (writes x)) la (yT la.pad s) s'
    | e=>K e s')/\∀v,la.inv v->match dA (yj (aO (yT la.pad s).T) (kF (la.res v) (yT la.pad s).T)) (Jc (aO (yT la.pad s).T) (dY la.drop (writes x)) (la.slots v)) with
      | false=>False
      | true=>jy E y (qW (dY la.drop (writes x)) (yT la.pad s) (la.slots v) (la.res v)) K
   | none=>jy E x s λe s'=>match e with
     | .normal=>jy E y s' K
     | e=>K e s'
 | E,.cond c x y,s,K=>match bJ E.cx s [] c with
   | some (.one (.c (.v (.bool b))))=>br b (jy E x s K) (jy E y s K)
   | _=>False
 | E,.block id c,s,K=>jy E c s λe s'=>match e with
   | .exit i=>match Nat.beq i id with
     | true=>K .normal s'
     | false=>K (.exit i) s'
   | e=>K e s'
 | E,.loop c,s,K=>match aes E c s with
   | some (.inv la)=>anY (jy E c) (dY la.drop (writes c)) la (yT la.pad (uY s la.H6 la.wu la.nil la.uy la.deep)) K
   | some (.FT n)=>KE (jy E c) n s K
   | _=>False
 | E,.rangeFunc g ps H7 c,s,K=>match E.rd with
   | true=>False
   | false=>match bJ E.cx s [] g with
     | some (.one (.c (.abs (.seq P' ss L))))=>match aes E c s with
       | some (.rng ra)=>E.P=some P'/\Qw E.n (λs K=>jy { E with rd:=true } H7 s λe s'=>match e with
         | .normal=>jy { E with rd:=true } c s' K
         | _=>False) (dY ra.drop (dY (tl ps) (dY (writes H7) (writes c)))) ra (tl ps) ss L (uY s ra.H6 ra.wu ra.nil ra.uy ra.deep) K
       | _=>False
     | _=>False
 | E,.exit i,s,K=>K (.exit i) s
 | E,.ret,s,K=>K .ret s
 | _,_,_,_=>False
abbrev yU(D:Nat):Deferred:={ target:=.collected D,args:=#[] }
theorem aev(w:World) (a b:Obj) (G:Nat->Prop):Gs G w ((w.alloc a).alloc b):=
 ⟨rfl,rfl,rfl,by simp;omega,qm _,λk hk _=>by
  rw[Below.heap_alloc _ _ _ (by simp;omega),Below.heap_alloc _ _ _ hk]⟩
def ajI(A:World) (l D:Nat) (G:Nat->Prop) (I:World->Prop) (Ix:Code->World->Prop):Exit->Act->World->Prop
 | .normal,_,A'=>(∀b,b=l\/b=D\/G b->A'.heap[b]?=A.heap[b]?)/\I A'
 | .ret,_,A'=>(∀b,b=l\/b=D\/G b->A'.heap[b]?=A.heap[b]?)/\Ix .ret A'
 | .exit id,_,A'=>(∀b,b=l\/b=D\/G b->A'.heap[b]?=A.heap[b]?)/\Ix (.exit id) A'
 | .goto t,_,_=>False
 | .panic _,_,_=>False
 | .outgrown,_,_=>False
theorem Wv{ss:List Sh}{L:List (bT ss)}{g:Operand}{ps:Array Tmp}{H7:Code}
 (gv:Gives P h ss L (a.eval g)) (hps:ps.size=ss.length)
 (I:Nat->(Nat->Prop)->World->Prop) (Ix:Code->(Nat->Prop)->World->Prop) (hI:∀i G A,I i G A->HW h A) (hX:∀c G A,Ix c G A->HW h A)
 (hIg:∀i G G' A A',I i G A->Gs G A A'->Own' G G' A A'->I i G' A') (hXg:∀c G G' A A',Ix c G A->Gs G A A'->Own' G G' A A'->Ix c G' A')
 (hIp:∀i G A l o o',I i G A->w.heap.size<=l->A.heap[l]?=some o->ours o=false->I i G (A.putObj l o'))
 (hXp:∀c G A l o o',Ix c G A->w.heap.size<=l->A.heap[l]?=some o->ours o=false->Ix c G (A.putObj l o'))
 (h0:I 0 (λ_=>False) w)
 (hbody:∀(i:Nat) (d:bT ss) (vs:List Value) (G:Nat->Prop) (A:World) (l:Nat) (o1 Wx o2:Obj),L[i]?=some d->Dl h ss d vs->I i G A->w.heap.size < l->A.heap[l]?=some o1->ours o1=false->ours Wx=false->A.heap[w.heap.size]?=some o2->ours o2=false->¬G l ->
  H7.wpIn (Fence.wide.inRound l) 0 P (Exit.then (λa1 A1=>(∀b,b=l\/b=w.heap.size\/G b->A1.heap[b]?=A.heap[b]?) /\
   body.wpIn (Fence.wide.inRound l) 0 P (ajI (A1.putObj l Wx) l w.heap.size G (I (i+1) G) (λc=>Ix c G)) a1 (A1.putObj l Wx)) (λ_ _ _=>False)) { tmps:=(ps.zip vs.toArray).foldl (λt (p,v)=>t.setIfInBounds p v) a.tmps,defers:=[] } A)
 (hdone:∀G A,I L.length G A->A.heap[w.heap.size]?=some (.deferred (some []))->Q .normal { a with defers:=yU w.heap.size :: a.defers } A)
 (hret:∀G A,Ix .ret G A->A.heap[w.heap.size]?=some (.deferred (some []))->Q .ret { a with defers:=yU w.heap.size :: a.defers } A)
 (an0:∀j G A,Ix (.exit j) G A->A.heap[w.heap.size]?=some (.deferred (some []))->Q (.exit j) { a with defers:=yU w.heap.size :: a.defers } A):
 (Code.rangeFunc g ps H7 body).wpIn Fence.wide n P Q a w:=by
 refine wpIn_rangeFunc λfn hfn=>?_
 obtain⟨gf,lb,hg,⟨fng,hfg,hbg,hng⟩,gives⟩:=gv;obtain⟨rec,hrec⟩:∃rec:LoopState->Option Code->Loop,rec=λst pe=>{ state:=st,pending:=pe,fn,tmps:=a.tmps,params:=ps,assign:=H7,body,defers:=w.heap.size }:=⟨_,rfl⟩
 obtain⟨W1,hW1⟩:∃W1,(w.alloc (.deferred (some []))).alloc (.loop (rec .ready none))=W1:=⟨_,rfl⟩;have hL1:W1.heap[w.heap.size+1]?=some (.loop (rec .ready none)):=by
  rw[<-hW1];have:=World.alloc_heap_new (w.alloc (.deferred (some []))) (.loop (rec .ready none));rwa [World.size_alloc]at this
 have hD1:W1.heap[w.heap.size]?=some (.deferred (some [])):=by
  rw[<-hW1];exact(Below.heap_alloc _ _ _ (by simp)).trans (World.alloc_heap_new w _)
 have hI1:I 0 (λ_=>False) W1:=hIg 0 _ _ _ _ h0 (by rw[<-hW1];exact aev w _ _ _) (λb hb=>hb.elim)
 have kd:∀{G G':Nat->Prop}{A A':World}{k:Nat}{o:Obj},A.heap[k]?=some o->¬G k->Gs G A A'->Own' G G' A A'->A'.heap[k]?=some o/\¬G' k:=λhk hn hgs ho=>
  ⟨(hgs.block _ (EH.1 hk).1 hn).trans hk,λhh=>by
    have h1:=(EH.1 hk).1;rcases(ho _ hh).2 with h2 | h2
    .exact hn h2
    .omega⟩
 refine⟨w.heap.size+1,[yU w.heap.size],W1,{ target:=.fn (.func gf) lb,args:=#[.func (.yield (w.heap.size+1)) #[] #[]] },W1,gf,
  #[.func (.yield (w.heap.size+1)) #[] #[]]++lb,W1,?_,?_,?_,?_,λhh=>(by cases hh),?_⟩
 .rw[<-hW1,hrec];exact run_enterLoop_outer _ _ _ _ _
 .simp only[resolve,hg];simp[go_sem]
 .intro f' hf';trivial
 .have e:(callFunc gf (#[.func (.yield (w.heap.size+1)) #[] #[]]++lb)).run P W1=.ok (.enter gf (#[.func (.yield (w.heap.size+1)) #[] #[]]++lb)) W1:=by
   simp only[callFunc,Sem.run_bind,run_program,Result.andThen_ok,hfg,hng];simp[hbg];cases hb:fng.body with
   | none=>rw[hb]at hbg;cases hbg
   | some _=>simp
  simp[invoke,go_sem,e]
 .have hc:=gives (w.heap.size+1)
   (λi G A=>match i with
    | some i=>I i G A/\(A.heap[w.heap.size+1]?=some (.loop (rec .ready none))/\¬G (w.heap.size+1))/\(A.heap[w.heap.size]?=some (.deferred (some []))/\¬G w.heap.size)
    | none=>∃c,(c=.ret\/∃j,c=.exit j)/\Ix c G A/\(A.heap[w.heap.size+1]?=some (.loop (rec .done (some c)))/\¬G (w.heap.size+1))/\(A.heap[w.heap.size]?=some (.deferred (some []))/\¬G w.heap.size)) W1
   (λi G A x=>by
    cases i with
    | some i=>exact hI i G A x.1
    | none=>obtain⟨c,_,x1,_⟩:=x;exact hX c G A x1)
   (λi G G' A A' x hgs ho=>by
    cases i with
    | some i=>exact⟨hIg i _ _ _ _ x.1 hgs ho,kd x.2.1.1 x.2.1.2 hgs ho,kd x.2.2.1 x.2.2.2 hgs ho⟩
    | none=>
      obtain⟨c,hc,x1,x2,x3⟩:=x;exact⟨c,hc,hXg c _ _ _ _ x1 hgs ho,kd x2.1 x2.2 hgs ho,kd x3.1 x3.2 hgs ho⟩)
   (λi d vs G A hd hv x=>by
    obtain⟨x1,⟨x2,y2n⟩,x3,y3n⟩:=x;have gZ:w.heap.size+1 < A.heap.size:=(EH.1 x2).1;have hvl:vs.length=ss.length:=by
     have:∀{ss:List Sh}{d:bT ss}{vs:List Value},Dl h ss d vs->vs.length=ss.length:=by
      intro ss
      induction ss with
      | nil=>intro d vs x;cases vs with | nil=>rfl | cons _ _=>exact x.elim
      | cons s l ih=>intro d vs x;cases vs with | nil=>exact x.elim | cons v vs=>simp[ih x.2]
     exact this hv
    have hy:=run_yield (P:=P) (args:=vs.toArray) x2 (by rw[hrec];simp[hps,hvl])
    rw[hrec]at hy;refine⟨fn,_,H7,body,hy,(roundIn_of_wpIn (F:=Fence.wide) (n:=0) trivial ?_:RoundIn Fence.wide _ P _ _ _ _ _ _ _)⟩;refine wpIn_mono (hbody i d vs G A (w.heap.size+1) _ (.loop { rec .ready none with state:=.busy }) _ hd hv x1 (by omega) x2 rfl rfl x3 rfl y2n) ?_
    intro e0 a1 A1 h1;cases e0 with
    | exit j=>exact h1
    | goto j=>exact h1
    | ret=>exact h1
    | panic c=>exact h1
    | outgrown=>exact h1
    | normal=>
    obtain⟨k1,h1⟩:=h1;have z2:A1.heap[w.heap.size+1]?=some (.loop (rec .ready none)):=(k1 _ (.inl rfl)).trans x2;have z3:A1.heap[w.heap.size]?=some (.deferred (some [])):=(k1 _ (.inr (.inl rfl))).trans x3;have hlt1:w.heap.size+1 < A1.heap.size:=(EH.1 z2).1;refine⟨_,run_beginRound z2 (by rw[hrec]),?_⟩
    have y2:(A1.putObj (w.heap.size+1) (.loop { rec .ready none with state:=.busy })).heap[w.heap.size+1]?=some (.loop { rec .ready none with state:=.busy }):=World.putObj_heap_same hlt1
    have y3:(A1.putObj (w.heap.size+1) (.loop { rec .ready none with state:=.busy })).heap[w.heap.size]?=some (.deferred (some [])):=(World.putObj_heap_other (by omega)).trans z3
    have fin:∀(jump:Option Code) (A3:World),A3.heap[w.heap.size+1]?=some (.loop { rec .ready none with state:=.busy })->A3.heap[w.heap.size]?=some (.deferred (some [])) ->
     (Instr.endRound (w.heap.size+1) jump).run P A3=.ok (.bool jump.isNone) (A3.putObj (w.heap.size+1) (.loop (rec (if jump.isNone then .ready else .done) jump))) /\
     (A3.putObj (w.heap.size+1) (.loop (rec (if jump.isNone then .ready else .done) jump))).heap[w.heap.size+1]?=some (.loop (rec (if jump.isNone then .ready else .done) jump)) /\
     (A3.putObj (w.heap.size+1) (.loop (rec (if jump.isNone then .ready else .done) jump))).heap[w.heap.size]?=some (.deferred (some [])):=λjump A3 h3 h4=>by
     have:=run_endRound (P:=P) jump h3;rw[hrec]at this ⊢;exact⟨this,World.putObj_heap_same (EH.1 h3).1,(World.putObj_heap_other (by omega)).trans h4⟩
    have kg:∀(A3:World) (o':Obj),(∀b,b=w.heap.size+1\/b=w.heap.size\/G b->A3.heap[b]?=(A1.putObj (w.heap.size+1) (.loop { rec .ready none with state:=.busy })).heap[b]?)->∀b,G b->(A3.putObj (w.heap.size+1) o').heap[b]?=A.heap[b]?:=by
     intro A3 o' hk b hb;have hne:b≠w.heap.size+1:=by rintro rfl;exact y2n hb
     rw[World.putObj_heap_other hne,hk b (.inr (.inr hb)),World.putObj_heap_other hne,k1 b (.inr (.inr hb))]
    refine wpIn_mono h1 ?_;rintro e a3 A3 hp;cases e with
    | normal=>
      obtain⟨p0,p3⟩:=hp;have p1:=p0 _ (.inl rfl);have p2:=p0 _ (.inr (.inl rfl));rw[y2]at p1;rw[y3]at p2;obtain⟨q1,q2,q3⟩:=fin none A3 p1 p2;exact⟨_,_,q1,kg A3 _ p0,.inl ⟨rfl,hIp _ _ _ _ _ _ p3 (by omega) p1 rfl,⟨q2,y2n⟩,q3,y3n⟩⟩
    | ret=>
      obtain⟨p0,p3⟩:=hp;have p1:=p0 _ (.inl rfl);have p2:=p0 _ (.inr (.inl rfl));rw[y2]at p1;rw[y3]at p2;obtain⟨q1,q2,q3⟩:=fin (some .ret) A3 p1 p2;exact⟨_,_,q1,kg A3 _ p0,.inr ⟨rfl,.ret,.inl rfl,hXp _ _ _ _ _ _ p3 (by omega) p1 rfl,⟨q2,y2n⟩,q3,y3n⟩⟩
    | exit id=>
      obtain⟨p0,p3⟩:=hp;have p1:=p0 _ (.inl rfl);have p2:=p0 _ (.inr (.inl rfl));rw[y2]at p1;rw[y3]at p2;obtain⟨q1,q2,q3⟩:=fin (some (.exit id)) A3 p1 p2;exact⟨_,_,q1,kg A3 _ p0,.inr ⟨rfl,.exit id,.inr ⟨id,rfl⟩,hXp _ _ _ _ _ _ p3 (by omega) p1 rfl,⟨q2,y2n⟩,q3,y3n⟩⟩
    | goto t=>exact hp.elim
    | panic ch=>exact hp.elim
    | outgrown=>exact hp.elim)
   ⟨hI1,⟨hL1,λhh=>hh⟩,hD1,λhh=>hh⟩
  refine CallsIn.mono (F:=Fence.wide) (n:=n - 1) (callsIn_wide.2 (callsIn_wide.1 hc)) ?_;rintro e W2 ⟨⟨v,rfl⟩,G,hJ⟩;rcases hJ with⟨x1,⟨x2,_⟩,x3,_⟩ | ⟨c,hc,x1,⟨x2,_⟩,x3,_⟩
  .refine⟨none,_,by have:=run_endLoop (P:=P) x2 (by rw[hrec];simp);rw[hrec]at this;exact this,?_⟩
   exact hdone G _ (hIp _ _ _ _ _ _ x1 (by omega) x2 rfl) ((World.putObj_heap_other (by omega)).trans x3)
  .refine⟨some c,_,by have:=run_endLoop (P:=P) x2 (by rw[hrec];simp);rw[hrec]at this;exact this,?_⟩
   have y1:=hXp _ _ _ _ _ (.loop { rec .done (some c) with state:=.exhausted }) x1 (show w.heap.size<=w.heap.size+1 by omega) x2 rfl
   have y3:(W2.putObj (w.heap.size+1) (.loop { rec .done (some c) with state:=.exhausted })).heap[w.heap.size]?=some (.deferred (some [])):=(World.putObj_heap_other (by omega)).trans x3
   rw[hrec]at y1 y3;rcases hc with rfl | ⟨j,rfl⟩
   .exact wpIn_ret (hret G _ y1 y3)
   .exact wpIn_exit (an0 _ G _ y1 y3)
theorem qJ:∀{l m:List (Nat×Gd×bg)}{t:Nat},iG (dY l m) t=match iG l t with | some x=>some x | none=>iG m t
 | [],m,t=>rfl
 | (k,x) :: l,m,t=>by
   rw[show dY ((k,x) :: l) m=(k,x) :: dY l m from rfl,aX,aX]
   split
   .rfl
   .exact qJ
theorem oO:∀{l:List (Nat×SV)}{t:Nat}{G:Gd}{e:bg},iG (F8 l) t=some (G,e)->∃v,e=.one v/\G=[]/\(t,v)∈l
 | [],_,_,_,h=>by simp[F8,iG]at h
 | (k,v) :: l,t,G,e,h=>by
   simp only[F8]at h;rw[aX]at h;split at h
   .rename_i hk;subst hk;cases h;exact⟨v,rfl,rfl,by simp⟩
   .obtain⟨u,h1,h2,h3⟩:=oO h;exact⟨u,h1,h2,by simp[h3]⟩
theorem kY{ws:List Nat}:∀{l:List (Nat×Gd×bg)}{seen:List Nat}{t:Nat}{G:Gd}{e:bg},iG (qH ws seen l) t=some (G,e) ->
 iY t seen=false/\iY t ws=false/\iG l t=some (G,e)/\G=[]/\uD e=true
 | [],_,_,_,_,h=>by simp[qH,iG]at h
 | (k,g,e0) :: l,seen,t,G,e,h=>by
   have skip:iG (qH ws (k :: seen) l) t=some (G,e)->iY t seen=false/\iY t ws=false/\iG ((k,g,e0) :: l) t=some (G,e)/\G=[]/\uD e=true:=by
    intro h;obtain⟨h1,h2,h3,h4⟩:=kY h;rw[jB,oV]at h1;refine⟨h1.2,h2,?_,h4⟩;rw[aX,if_neg]
    .exact h3
    .rintro rfl;exact Xu h1.1 rfl
   unfold qH at h;split at h
   .rename_i hm;obtain⟨h1,h2,h3,h4⟩:=kY h;refine⟨h1,h2,?_,h4⟩;rw[aX,if_neg]
    .exact h3
    .rintro rfl;rw[hm]at h1;cases h1
   .rename_i hm;split at h
    .exact skip h
    .rename_i hw;split at h
     .rename_i hc;rw[aC,A8]at hc;rw[aX]at h;split at h
      .rename_i hk;subst hk;cases h;refine⟨hm,hw,by rw[aX,if_pos rfl],?_,hc.2⟩
       cases g with
       | nil=>rfl
       | cons _ _=>have:=hc.1;cases this
      .exact skip h
     .exact skip h
theorem NM{s:St}:∀{l:List (Nat×SV)},Iq s l->∀p∈l,∃u,iG s.env p.1=some ([],.one u)/\Y1 u=p.2
 | [],_,p,hp=>by simp at hp
 | (k,v) :: l,⟨h1,h2⟩,p,hp=>by
   rcases ng.1 hp with rfl | hp
   .split at h1
    .rename_i u hu;exact⟨u,hu,h1⟩
    .cases h1
   .exact NM h2 p hp
theorem aew{u v:SV}{z:Value} (e:Y1 u=v) (hv:cZ h β' v z\/cZ h β u z) (hb:u=v->cZ h β u z->cZ h β' v z):cZ h β' v z:=by
 rcases hv with hv | hu
 .exact hv
 .unfold Y1 at e;split at e
  .split at e
   .subst e;exact⟨hu.1.1,hu.2⟩
   .exact hb e hu
  .exact hb e hu
theorem sK{s:St}:∀{l:List (Nat×SV)},F7 s l=true->∀p∈l,iG s.env p.1=some ([],.one p.2)
 | [],_,p,hp=>by simp at hp
 | (k,.c (.own i off)) :: l,h,p,hp=>by
   simp only[F7]at h;split at h
   .rename_i i' off' hu;rw[aC,aC,A8,A8]at h;rcases ng.1 hp with rfl | hp
    .have e1:=iC h.1.1;have e2:=iC h.1.2;rw[hu,e1,e2]
    .exact sK h.2 p hp
   .cases h
 | (k,.c (.row i)) :: l,h,p,hp=>by
   simp only[F7]at h;split at h
   .rename_i i' hu;rw[aC,A8]at h;rcases ng.1 hp with rfl | hp
    .have e1:=iC h.1;rw[hu,e1]
    .exact sK h.2 p hp
   .cases h
 | (k,.c (.v _)) :: l,h,p,hp=>by cases h
 | (k,.c (.sl _ _)) :: l,h,p,hp=>by cases h
 | (k,.c (.fp _ _)) :: l,h,p,hp=>by cases h
 | (k,.c (.ku _ _ _ _)) :: l,h,p,hp=>by cases h
 | (k,.c (.abs _)) :: l,h,p,hp=>by cases h
 | (k,.c .junk) :: l,h,p,hp=>by cases h
 | (k,.agg _) :: l,h,p,hp=>by cases h
 | (k,.dat _ _) :: l,h,p,hp=>by cases h
 | (k,.und) :: l,h,p,hp=>by cases h
theorem qK{n:Nat}{ws:List Nat}:∀{l:List (Nat×Gd×bg)}{seen:List Nat},∀p∈keepR n ws seen l,Ae n p.2=true
 | [],_,p,hp=>by simp[keepR]at hp
 | (k,g,e) :: l,seen,p,hp=>by
   unfold keepR at hp
   repeat' (split at hp)
   all_goals first
    | exact qK p hp
    | (
     rcases ng.1 hp with rfl | hp
     .assumption
     .exact qK p hp)
theorem sN{n:Nat}{ws:List Nat}:∀{l:List (Nat×Gd×bg)}{seen:List Nat},∀p∈keepR n ws seen l,iY p.1 seen=false/\iG l p.1=some ([],.one p.2)
 | [],_,p,hp=>by simp[keepR]at hp
 | (k,g,e) :: l,seen,p,hp=>by
   have an2:iY k seen=true->p∈keepR n ws seen l->iY p.1 seen=false/\iG ((k,g,e) :: l) p.1=some ([],.one p.2):=by
    intro hm hp;obtain⟨h1,h2⟩:=sN p hp;refine⟨h1,?_⟩;rw[aX,if_neg]
    .exact h2
    .rintro rfl;rw[hm]at h1;cases h1
   have F9:p∈keepR n ws (k :: seen) l->iY p.1 seen=false/\iG ((k,g,e) :: l) p.1=some ([],.one p.2):=by
    intro hp;obtain⟨h1,h2⟩:=sN p hp;rw[jB,oV]at h1;refine⟨h1.2,?_⟩;rw[aX,if_neg]
    .exact h2
    .rintro rfl;exact Xu h1.1 rfl
   unfold keepR at hp;split at hp
   .rename_i hm;exact an2 hm hp
   .rename_i hm;split at hp
    .exact F9 hp
    .split at hp
     .rename_i hn;have hg:g=[]:=by cases g with | nil=>rfl | cons _ _=>simp[isNil]at hn
      subst hg;split at hp
      .split at hp
       .rcases ng.1 hp with rfl | hp
        .exact⟨hm,by rw[aX,if_pos rfl]⟩
        .exact F9 hp
       .exact F9 hp
      .split at hp
       .rcases ng.1 hp with rfl | hp
        .exact⟨hm,by rw[aX,if_pos rfl]⟩
        .exact F9 hp
       .exact F9 hp
      .exact F9 hp
     .exact F9 hp
theorem kN{α:Type}{l:List α} (h:i < n):(l.take n)[i]?=l[i]?:=by
 rw[wP,if_pos h]
theorem dS.below:∀{x:SC}{y:Value},Ef n x=true->dS h β x y->dS h (β.take n) x y
 | .v _,_,_,c=>c
 | .sl _ _,_,_,c=>c
 | .fp _ _,_,_,c=>c
 | .one _ _,_,_,c=>c
 | .own i _,_,f,⟨b,e,e'⟩=>⟨b,by rw[kN (by have:=qO f;omega)];exact e,e'⟩
 | .row i,_,f,⟨v,e,e'⟩=>⟨v,by rw[kN (by have:=qO f;omega)];exact e,e'⟩
 | .sub i _,_,f,⟨v,us,e,e'⟩=>⟨v,us,by rw[kN (by have:=qO f;omega)];exact e,e'⟩
 | .mD i _ _ _ _,_,f,⟨v,us,g,e,e'⟩=>⟨v,us,g,by rw[kN (by have:=qO f;omega)];exact e,e'⟩
 | .ku i _ _ _,_,f,⟨v,g,e,e'⟩=>⟨v,g,by rw[kN (by have:=qO f;omega)];exact e,e'⟩
 | .abs _,_,_,c=>c
 | .junk,_,_,_=>trivial
theorem cZ.below{h:FH}{β:List RV}{n:Nat}:∀{x:SV}{y:Value},Ae n x=true->cZ h β x y->cZ h (β.take n) x y
 | .c _,_,f,c=>⟨c.1.below f,c.2⟩
 | .agg _,_,f,⟨ys,e,a⟩=>⟨ys,e,a.allL (λ_ _ f ⟨p,q⟩=>⟨p.below f,q⟩) f⟩
 | .dat _ _,_,_,c=>c
 | .und,_,_,c=>c
theorem Holds.below{h:FH}{β:List RV}{w:World}{n:Nat}:∀{r:au}{v:RV},lM n r=true->Holds h β w r v->Holds h (β.take n) w r v
 | .blk _ _,.blk _,f,⟨ys,e,a⟩=>⟨ys,e,a.allL (λ_ _ f ⟨p,q⟩=>⟨p.below f,q⟩) f⟩
 | .row _ _ _,.row _,_,c=>c
 | .obj _ _ _,.blk _,_,c=>c
 | .deep _ _ _ _ _ _ _ _,.deep _ _,_,c=>c
 | .mp _ _ _,.row _,_,c=>c
 | .O5 _ _ _ _,.deep _ _,_,c=>c
 | .it _ _ _ _,.blk _,_,c=>c
 | .L9 _ _ _ _,.row _,_,c=>c
 | .IJ _ _ _ _,.deep _ _,_,c=>c
 | .gone,_,_,_=>trivial
theorem dS.lN:∀{x:SC}{y:Value},kX x=true->dS h β x y->∀β',dS h β' x y
 | .v _,_,_,c=>λ_=>c
 | .sl _ _,_,_,c=>λ_=>c
 | .fp _ _,_,_,c=>λ_=>c
 | .abs _,_,_,c=>λ_=>c
 | .junk,_,_,_=>λ_=>trivial
 | .one _ _,_,_,c=>λ_=>c
 | .own _ _,_,f,_=>by simp[kX]at f
 | .row _,_,f,_=>by simp[kX]at f
 | .ku _ _ _ _,_,f,_=>by simp[kX]at f
 | .sub _ _,_,f,_=>by simp[kX]at f
 | .mD _ _ _ _ _,_,f,_=>by simp[kX]at f
theorem cZ.lN{h:FH}{β:List RV} (β':List RV):∀{x:SV}{y:Value},Cj x=true->cZ h β x y->cZ h β' x y
 | .c _,_,f,c=>⟨c.1.lN f β',c.2⟩
 | .agg _,_,f,⟨ys,e,a⟩=>⟨ys,e,a.allL (λ_ _ f ⟨p,q⟩=>⟨p.lN f β',q⟩) f⟩
 | .dat _ _,_,_,c=>c
 | .und,_,_,c=>c
theorem jX.lN{h:FH}{β:List RV} (β':List RV):∀{x:bg}{y:Value},uD x=true->jX h β x y->jX h β' x y
 | .one _,_,f,c=>cZ.lN β' f c
 | .iO _,_,f,⟨ys,e,a⟩=>⟨ys,e,a.allL (R':=cZ h β') (λ_ _ f c=>cZ.lN β' f c) f⟩
theorem OK.take{B:Base}{h0:FH}{T:List au}{h:FH}{β:List RV}{w:World} (ok:OK B h0 T h β w){n:Nat} (hn:n<=T.length) (below:∀r∈T.take n,lM n r=true):OK B h0 (T.take n) h (β.take n) w where
 below:=ok.below
 dr:=ok.dr
 len:=by simp[ok.len]
 holds:=by
  intro i r v e e';have hi:i < n:=by have:=(eG.1 e).1;simp at this;omega
  have hm:=below r (iM e);rw[kN hi]at e e';exact(ok.holds i r v e e').below hm
 own:=by
  intro i r v b e l e' hb;have hi:i < n:=by have:=(eG.1 e).1;simp at this;omega
  rw[kN hi]at e e';exact ok.own i r v b e l e' hb
 inj:=by
  intro i j r r' u v b e l e' l' f f' hb hb';have hi:i < n:=by have:=(eG.1 e).1;simp at this;omega
  have hj:j < n:=by have:=(eG.1 e').1;simp at this;omega
  rw[kN hi]at e f;rw[kN hj]at e' f';exact ok.inj i j r r' u v b e l e' l' f f' hb hb'
 hle:=ok.hle
 hw:=ok.hw
 hg:=ok.hg
 kn:=ok.kn
theorem Af{α:Type}{p:α->Bool}:∀{l:List α},allL p l=true->∀x∈l,p x=true
 | [],_,x,hx=>by simp at hx
 | y :: l,h,x,hx=>by
   simp only[allL,aC,A8]at h;rcases ng.1 hx with rfl | hx
   .exact h.1
   .exact Af h.2 x hx
theorem oI{gl:List Bool}:∀{T:List (Gd×au)}{n:Nat},(∀p∈T.take n,p.1=[])->eff [] (T.take n)=(eff gl T).take n
 | [],n,_=>by simp[eff]
 | (g,r) :: l,0,_=>by simp[eff]
 | (g,r) :: l,n+1,h=>by
   have hg:g=[]:=h (g,r) (by simp)
   subst hg;simp only[aiX,eff];rw[oI (gl:=gl) (T:=l) λp hp=>h p (by simp[hp])]
theorem Ag:∀(rs:List (Nat×au)) (T:List (Gd×au)),(kF rs T).length=T.length
 | [],_=>rfl
 | (i,r) :: l,T=>by simp only[kF];rw[Ag,gJ,xY]
theorem Ah{s':St} (aj:Sat N B h0 s' h β w a){ws:List Nat}{sl:List (Nat×SV)}{rs:List (Nat×au)}
 (hT:rJ (aO s.T) s'.T=kF rs s.T) (gT:yj (aO s.T) (kF rs s.T)=true) (gS:Jc (aO s.T) ws sl=true) (hE:Iq s' sl)
 (hR:∀p∈keepR (aO s.T) ws [] s.env,iG s'.env p.1=some ([],.one p.2))
 (D:∀t e,iG (qH ws [] s.env) t=some ([],e)->∃z,a.tmps[t]?=some z/\jX h [] e z):
 Sat N B h0 (qW ws s sl rs) h (β.take (aO s.T)) w a:=by
 have e1:=hT;rw[jP]at e1;have g1:∀p∈kF rs s.T,p.1=[]/\lM (aO s.T) p.2=true:=by
  intro p hp;have:=Af gT p hp;rw[aC,A8]at this;refine⟨?_,this.2⟩;have h2:=this.1;cases hh:p.1 with
  | nil=>rfl
  | cons _ _=>rw[hh]at h2;simp[isNil]at h2
 have hlen:aO s.T<=s'.T.length:=by
  have:=tK List.length e1;rw[Ag,lZ,bC]at this;rw[bC];omega
 have look:∀{v:SV}{t:Nat},Ae (aO s.T) v=true->iG s'.env t=some ([],.one v)->∃z,a.tmps[t]?=some z/\cZ h (β.take (aO s.T)) v z:=by
  intro v t hb hl;obtain⟨z,q1,q2,_⟩:=aj.env t [] _ hl;exact⟨z,q1,cZ.below hb (q2 rfl)⟩
 have an3:∀{v:SV}{t:Nat},Ae (aO s.T) v=true->(∃u,iG s'.env t=some ([],.one u)/\Y1 u=v)->∃z,a.tmps[t]?=some z/\cZ h (β.take (aO s.T)) v z:=by
  rintro v t hb ⟨u,hl,hu⟩;obtain⟨z,q1,q2,_⟩:=aj.env t [] _ hl;exact⟨z,q1,aew hu (.inr (q2 rfl)) λe c=>cZ.below hb (e▸c)⟩
 refine⟨?_,?_,?_,aj.defers,aj.sz,?_,?_⟩
 .show OK B h0 (eff [] (kF rs s.T)) h (β.take (aO s.T)) w;rw[<-e1,oI (gl:=s'.gl) λp hp=>by rw[e1]at hp;exact(g1 p hp).1]
  refine aj.ok.take (by rw[ji];exact hlen) ?_
  rw[<-oI (gl:=s'.gl) λp hp=>by rw[e1]at hp;exact(g1 p hp).1]
  rw[e1];have:∀{l:List (Gd×au)},(∀p∈l,p.1=[]/\lM (aO s.T) p.2=true)->∀r∈eff [] l,lM (aO s.T) r=true:=by
   intro l
   induction l with
   | nil=>intro _ r hr;simp[eff]at hr
   | cons q l ih=>
     obtain⟨g,r0⟩:=q;intro hh r hr;have hg:=hh (g,r0) (by simp)
     have hg1:g=[]:=hg.1;subst hg1;simp only[eff]at hr;rcases ng.1 hr with rfl | hr
     .exact hg.2
     .exact ih (λp hp=>hh p (by simp[hp])) r hr
  exact this g1
 .intro t G e ht;simp only[qW]at ht ⊢;rw[qJ]at ht;split at ht
  .rename_i x hx;cases ht;obtain⟨v,rfl,rfl,hm⟩:=oO hx;have hb:=Af gS _ hm;rw[aC,A8]at hb;obtain⟨z,q1,q2⟩:=an3 hb.1 (NM hE _ hm);exact⟨z,q1,λ_=>q2,λhh=>by cases hh⟩
  .rw[qJ]at ht;split at ht
   .rename_i x hx;cases ht;obtain⟨v,rfl,rfl,hm⟩:=oO hx;obtain⟨z,q1,q2⟩:=look (qK _ hm) (hR _ hm);exact⟨z,q1,λ_=>q2,λhh=>by cases hh⟩
   .obtain⟨_,_,_,rfl,hf⟩:=kY ht;obtain⟨z,q1,q2⟩:=D t e ht;exact⟨z,q1,λ_=>jX.lN _ hf q2,λhh=>by cases hh⟩
 .intro d i hi;cases hi
 .intro t G e ht;simp only[qW]at ht;rw[qJ]at ht;split at ht
  .rename_i x hx;cases ht;obtain⟨_,_,rfl,_⟩:=oO hx;rfl
  .rw[qJ]at ht;split at ht
   .rename_i x hx;cases ht;obtain⟨_,_,rfl,_⟩:=oO hx;rfl
   .obtain⟨_,_,_,rfl,_⟩:=kY ht;rfl
 .intro p hp;rw[(g1 p hp).1]
def Base.leB(B B':Base):Prop:=B'.toWorld=B.toWorld/\B'.al=B.al/\∀k o,B.nc k o->B'.nc k o
theorem Base.leB.refl(B:Base):B.leB B:=⟨rfl,rfl,λ_ _ h=>h⟩
theorem Base.leB.trans{A B C:Base} (x:A.leB B) (y:B.leB C):A.leB C:=⟨y.1.trans x.1,y.2.1.trans x.2.1,λk o h=>y.2.2 k o (x.2.2 k o h)⟩
def Base.Y5(r:Bool) (B B':Base):Prop:=B.leB B'/\(r=true->B'=B)
theorem Base.Y5.refl{r:Bool} (B:Base):Base.Y5 r B B:=⟨.refl B,λ_=>rfl⟩
theorem Base.Y5.trans{r:Bool}{A B C:Base} (x:Base.Y5 r A B) (y:Base.Y5 r B C):Base.Y5 r A C:=⟨x.1.trans y.1,λh=>(y.2 h).trans (x.2 h)⟩
theorem OK.Qy{B':Base}{T:List au} (ok:OK B h0 T h β w) (e:B'.toWorld=B.toWorld) (ea:B'.al=B.al) (kn:∀k o,B'.nc k o->w.heap[k]?=some o):OK B' h0 T h β w where
 below:=⟨by rw[e];exact ok.below.os,by rw[e];exact ok.below.tape,by rw[e];exact ok.below.output,by rw[e];exact ok.below.size,by rw[e,ea];exact ok.below.block⟩
 dr:=by rw[e];exact ok.dr
 len:=ok.len
 holds:=ok.holds
 own:=by rw[ea];exact ok.own
 inj:=ok.inj
 hle:=ok.hle
 hw:=ok.hw
 hg:=by rw[ea];exact ok.hg
 kn:=kn
def ownB(T:List au) (β:List RV) (b:Nat):Prop:=∃(i:Nat) (r:au) (v:RV),T[i]?=some r/\r.live=true/\β[i]?=some v/\v.has b
abbrev Base.rd(B:Base) (T:List au) (β:List RV) (A:World):Base:=
 { A with nc:=B.nc,cell:=B.cell,al:=λk=>ownB T β k\/A.heap.size<=k,up:=λ_ h=>.inr h }
theorem OK.enter{T:List au} (ok:OK B h0 T h β A):OK (B.rd T β A) h T h β A where
 below:=⟨rfl,rfl,rfl,qm _,λ_ _ _=>rfl⟩
 dr:=qm _
 len:=ok.len
 holds:=ok.holds
 own:=λi r v b e hl e' hb=>⟨.inl ⟨i,r,v,e,hl,e',hb⟩,(ok.own i r v b e hl e' hb).2⟩
 inj:=ok.inj
 hle:=FH.le.refl h
 hw:=ok.hw
 hg:=λb o v hh=>.inl hh
 kn:=ok.kn
theorem OK.leave{T:List au} (ok:OK B h0 T h β A){T':List au}{h':FH}{A':World}{Br:Base} (e:Br.toWorld=A) (ea:Br.al=(B.rd T β A).al) (en:∀k o,B.nc k o->Br.nc k o) (ok':OK Br h T' h' β' A'):OK B h0 T' h' β' A':=by
 have toB:∀k,Br.al k->B.al k:=by
  intro k hk;rw[ea]at hk;rcases hk with⟨i,r,v,h1,h2,h3,h4⟩ | hk
  .exact(ok.own i r v k h1 h2 h3 h4).1
  .exact B.up k (qP ok.below.size hk)
 subst e;have cell:∀k,ownB T β k->∃o,Br.heap[k]?=some o/\ours o=true:=by
  rintro k ⟨i,r,v,h1,h2,h3,h4⟩;exact(ok.holds i r v h1 h3).cells h2 h4
 refine⟨⟨ok'.below.os.trans ok.below.os,ok'.below.tape.trans ok.below.tape,ok'.below.output.trans ok.below.output,qP ok.below.size ok'.below.size,λk hk ha=>?_⟩,qP ok.dr ok'.dr,ok'.len,ok'.holds,
  λi r v b e1 l1 e2 hb=>⟨toB b (ok'.own i r v b e1 l1 e2 hb).1,(ok'.own i r v b e1 l1 e2 hb).2⟩,ok'.inj,ok.hle.trans ok'.hle,ok'.hw,λb o v hh=>?_,λk o hk=>ok'.kn k o (en k o hk)⟩
 .exact(ok'.below.block k (Pe hk ok.below.size) (λhh=>ha (toB k hh))).trans (ok.below.block k hk ha)
 .rcases ok'.hg b o v hh with h1 | h1
  .exact ok.hg b o v h1
  .exact .inr (toB b h1)
theorem OK.gs{B:Base}{h0:FH}{T:List au}{h:FH}{β:List RV}{A A':World} (ok:OK B h0 T h β A){G:Nat->Prop} (gs:Gs G A A') (hB:∀k,G k->B.heap.size<=k) (hO:∀k,ownB T β k->¬G k) (hF:∀k o v,h k o=some v->¬G k) (hN:∀k o,B.nc k o->¬G k):OK B h0 T h β A':=by
 have cl:∀b o v,h b o=some v->vis A' b o=some v:=by
  intro b o v hh;have h1:=ok.hw b o v hh;exact(jZ (gs.block b (oW h1) (hF b o v hh))).trans h1
 exact {
  below:=⟨gs.os.trans ok.below.os,gs.tape.trans ok.below.tape,gs.output.trans ok.below.output,qP ok.below.size gs.size,λk hk ha=>(gs.block k (Pe hk ok.below.size) (λhg=>by have:=hB k hg;omega)).trans (ok.below.block k hk ha)⟩
  dr:=qP ok.dr gs.dr
  len:=ok.len
  holds:=λi r v e e'=>(ok.holds i r v e e').move (FH.le.refl h) (Ext.refl _) λhl b hb=>gs.block b (ok.own i r v b e hl e' hb).2.1 (hO b ⟨i,r,v,e,hl,e',hb⟩)
  own:=λi r v b e hl e' hb=>by
   obtain⟨h1,h2,h3⟩:=ok.own i r v b e hl e' hb;exact⟨h1,Pe h2 gs.size,h3⟩
  inj:=ok.inj
  hle:=ok.hle
  hw:=cl
  hg:=ok.hg
  kn:=λk o hk=>by
   have h1:=ok.kn k o hk;exact(gs.block k (EH.1 h1).1 (hN k o hk)).trans h1 }
theorem OK.turn{T:List au} (ok:OK B h0 T h β w){l:Nat}{o o':Obj} (hB:B.al l) (hn:∀k u,B.nc k u->k≠l) (hl:w.heap[l]?=some o) (ho:ours o=false):OK B h0 T h β (w.putObj l o'):=by
 have cl:∀{b i:Nat}{v:Value},vis w b i=some v->vis (w.putObj l o') b i=some v:=by
  intro b i v hv;have hne:b≠l:=by
   intro e;unfold vis at hv;rw[e,hl]at hv;cases o<;>simp_all[ours]
  exact(jZ (World.putObj_heap_other hne)).trans hv
 exact {
  below:=ok.below.grown (row:=some l) ⟨rfl,rfl,rfl,by simp,λk _ hk=>World.putObj_heap_other (λe=>hk (by rw[e]))⟩ (λk e=>by cases e;exact hB)
  dr:=ok.dr
  len:=ok.len
  holds:=λi r v e e'=>(ok.holds i r v e e').move (FH.le.refl h) (Ext.refl _) λhlv b hb=>World.putObj_heap_other (by
   rintro rfl;obtain⟨o1,h1,h2⟩:=(ok.holds i r v e e').cells hlv hb;rw[hl]at h1;cases h1;rw[ho]at h2;cases h2)
  own:=λi r v b e hlv e' hb=>by
   obtain⟨h1,h2,h3⟩:=ok.own i r v b e hlv e' hb;exact⟨h1,by simpa using h2,h3⟩
  inj:=ok.inj
  hle:=ok.hle
  hw:=λb o v hh=>cl (ok.hw b o v hh)
  hg:=ok.hg
  kn:=λk u hk=>(World.putObj_heap_other (hn k u hk)).trans (ok.kn k u hk) }
theorem Ai{n:Nat}{ws:List Nat}:∀{l:List (Nat×Gd×bg)}{seen:List Nat},∀p∈keepR n ws seen l,iY p.1 ws=false
 | [],_,p,hp=>by simp[keepR]at hp
 | (k,g,e) :: l,seen,p,hp=>by
   unfold keepR at hp
   repeat' (split at hp)
   all_goals first
    | exact Ai p hp
    | (
     rcases ng.1 hp with rfl | hp
     .assumption
     .exact Ai p hp)
theorem wF(h:yj n T=true):∀p∈T,p.1=[]/\lM n p.2=true:=by
 intro p hp;have:=Af h p hp;rw[aC,A8]at this;refine⟨?_,this.2⟩;have h2:=this.1;cases hh:p.1 with
 | nil=>rfl
 | cons _ _=>rw[hh]at h2;simp[isNil]at h2
theorem TF{gl:List Bool}:∀{T:List (Gd×au)},(∀p∈T,p.1=[])->eff [] T=eff gl T
 | [],_=>rfl
 | (g,r) :: l,h=>by
   have hg:g=[]:=h (g,r) (by simp)
   subst hg;simp only[eff];rw[TF (gl:=gl) (T:=l) λp hp=>h p (by simp[hp])]
theorem KF(aj:Sat N B h0 s h β w a){ws dr:List Nat}{h':FH} (le:h.le h')
 (refs:∀p∈keepR (aO s.T) ws [] s.env,∃z,a.tmps[p.1]?=some z/\cZ h' β' p.2 z):∀t G e,iG (rdE ws dr s) t=some (G,e)->G=[]/\(iY t ws=false\/iY t dr=false)/\∃z,a.tmps[t]?=some z/\jX h' β' e z:=by
 intro t G e ht;simp only[rdE]at ht;rw[qJ]at ht;split at ht
 .rename_i x hx;cases ht;obtain⟨v,rfl,rfl,hm⟩:=oO hx;obtain⟨z,q1,q2⟩:=refs _ hm;exact⟨rfl,.inl (Ai _ hm),z,q1,q2⟩
 .obtain⟨_,hd,hl,rfl,hf⟩:=kY ht;obtain⟨z,q1,q2,_⟩:=aj.env t [] e hl;exact⟨rfl,.inr hd,z,q1,(jX.lN β' hf (q2 rfl)).mono le (Ext.refl _)⟩
theorem Y6{B':Base} (aj:Sat N B h0 s h β w a){ws dr:List Nat}{h':FH}{a':Act} (le:h.le h')
 (refs:∀p∈keepR (aO s.T) ws [] s.env,∃z,a.tmps[p.1]?=some z/\cZ h' β' p.2 z){gl:List Bool} (ok:OK B' h0 (eff gl T) h' β' A) (gT:∀p∈T,wS gl.length p.1=true) (ht:a'.tmps=a.tmps) (df:Py B' a'):
 Sat N B' h0 { env:=rdE ws dr s,T:=T,gl:=gl,gs:=[] } h' β' A a' where
 ok:=ok
 env:=λt G e h1=>by
  obtain⟨rfl,_,z,q1,q2⟩:=KF aj le refs t G e h1;exact⟨z,by rw[ht];exact q1,λ_=>q2,λhh=>by cases hh⟩
 gs:=λd i hi=>by cases hi
 defers:=df
 sz:=by rw[ht];exact aj.sz
 gb:=λt G e h1=>by
  obtain⟨rfl,_⟩:=KF aj le refs t G e h1;rfl
 gT:=gT
theorem fold_size:∀(l:List (Nat×Value)) (t:Array Value),(l.foldl (λt (p:Nat×Value)=>t.setIfInBounds p.1 p.2) t).size=t.size
 | [],_=>rfl
 | _ :: l,t=>by simp only[L6];rw[fold_size l];simp
theorem yV{k:Nat}:∀(l:List (Nat×Value)) (t:Array Value),(∀p∈l,p.1≠k)->(l.foldl (λt (p:Nat×Value)=>t.setIfInBounds p.1 p.2) t)[k]?=t[k]?
 | [],_,_=>rfl
 | (p,v) :: l,t,h=>by
   simp only[L6];rw[yV l _ λq hq=>h q (by simp[hq])]
   exact aiQ (h (p,v) (by simp))
theorem Gg(ps:Array Tmp) (vs:List Value) (t:Array Value):(ps.zip vs.toArray).foldl (λt (p,v)=>t.setIfInBounds p v) t=((tl ps).zip vs).foldl (λt (p:Nat×Value)=>t.setIfInBounds p.1 p.2) t:=by
 cases ps with
 | mk l=>simp
theorem Y7{h:FH}{n:Nat}:∀{ps:List Nat}{ss:List Sh}{d:bT ss}{vs:List Value}{t:Array Value},t.size=n->yu n ps ss=true->Dl h ss d vs ->
 (∀k G e,iG (NK ps ss d) k=some (G,e)->G=[]/\∃z,((ps.zip vs).foldl (λt (p:Nat×Value)=>t.setIfInBounds p.1 p.2) t)[k]?=some z/\∀β,jX h β e z) /\
 (∀k,iG (NK ps ss d) k=none->iY k ps=false)
 | [],[],d,vs,t,_,_,_=>⟨λk G e hh=>by simp[NK,iG]at hh,λk _=>rfl⟩
 | [],_ :: _,d,vs,t,_,hp,_=>by simp[yu]at hp
 | _ :: _,[],d,vs,t,_,hp,_=>by simp[yu]at hp
 | p :: ps,s :: ss,d,vs,t,hn,hp,hv=>by
   cases vs with
   | nil=>exact hv.elim
   | cons v vs=>
     simp only[yu,aC,A8]at hp;obtain⟨⟨hp1,hp2⟩,hp3⟩:=hp;have hp2:iY p ps=false:=by simpa using hp2
     have hp1:=qO hp1;obtain⟨i1,i2⟩:=Y7 (t:=t.setIfInBounds p v) (by simp[hn]) hp3 hv.2
     have hnot:∀q∈ps.zip vs,q.1≠p:=by
      intro q hq e;have hm:q.1∈ps:=(List.of_mem_zip hq).1;rw[e]at hm;have:∀{l:List Nat},p∈l->iY p l=true:=by
       intro l
       induction l with
       | nil=>intro h;cases h
       | cons x l ih=>
         intro h;rw[jB];rcases ng.1 h with rfl | h
         .simp
         .rw[ih h];simp
      rw[this hm]at hp2;cases hp2
     refine⟨λk G e hh=>?_,λk hh=>?_⟩
     .simp only[NK]at hh;rw[aX]at hh;split at hh
      .rename_i hk;subst hk;cases hh;refine⟨rfl,v,?_,λβ=>?_⟩
       .simp only[List.zip_cons_cons,L6];rw[yV _ _ hnot];rw[Array.getElem?_setIfInBounds_self_of_lt (by omega)]
       .obtain⟨cs,rfl,r⟩:=hv.1;exact jQ s r
      .simpa only[List.zip_cons_cons,L6]using i1 k G e hh
     .simp only[NK]at hh;rw[aX]at hh;split at hh
      .cases hh
      .rename_i hk;rw[jB,i2 k hh,Bool.or_false];cases hb:Nat.beq k p with
       | false=>rfl
       | true=>exact absurd (iC hb).symm hk
def Apt(n:Nat) (T:List au) (h:FH) (β:List RV) (G:Nat->Prop):Prop:=(∀b,G b->n<=b)/\(∀b,ownB T β b->¬G b)/\∀b o v,h b o=some v->¬G b
theorem Je{T:List au}{G:Nat->Prop} (ok':OK B h0 T h β A) (ap:Apt n T h β G) (apb:∀b,G b->b < A.heap.size)
 {B2:Base}{s2:St}{h2:FH}{β2:List RV}{A2:World}{a2:Act} (BF:(B.rd T β A).leB B2) (bF:Sat N B2 h s2 h2 β2 A2 a2):
 OK B h0 (eff s2.gl s2.T) h2 β2 A2/\Apt n (eff s2.gl s2.T) h2 β2 G/\A.heap.size<=A2.heap.size/\(∀k,k < A.heap.size->¬ownB T β k->A2.heap[k]?=A.heap[k]?) /\
  (∀k o,A.heap[k]?=some o->ours o=false->¬ownB T β k):=by
 have same:∀k,k < A.heap.size->¬ownB T β k->A2.heap[k]?=A.heap[k]?:=by
  intro k hk hn;have h1:=bF.ok.below;have h2:=BF.1;have h3:B2.al k↔(ownB T β k\/A.heap.size<=k):=by rw[BF.2.1]
  have h4:=h1.block k (by rw[h2];exact hk) (λhh=>by rcases h3.1 hh with hh | hh<;>first | exact hn hh | omega)
  rw[h2]at h4;exact h4
 refine⟨ok'.leave BF.1 BF.2.1 BF.2.2 bF.ok,⟨ap.1,?_,?_⟩,?_,same,?_⟩
 .rintro b ⟨i,r,v,e1,e2,e3,e4⟩ hb;have hh:=(bF.ok.own i r v b e1 e2 e3 e4).1;rw[BF.2.1]at hh;rcases hh with hh | hh
  .exact ap.2.1 b hh hb
  .have:=apb b hb;omega
 .intro b o v hh hb;rcases bF.ok.hg b o v hh with h1 | h1
  .exact ap.2.2 b o v h1 hb
  .rw[BF.2.1]at h1;rcases h1 with h1 | h1
   .exact ap.2.1 b h1 hb
   .have:=apb b hb;omega
 .have:=bF.ok.below.size;rw[BF.1]at this;exact this
 .rintro k o hk ho ⟨i,r,v,e1,e2,e3,e4⟩;obtain⟨o',q1,q2⟩:=(ok'.holds i r v e1 e3).cells e2 e4;rw[hk]at q1;cases q1;rw[ho]at q2;cases q2
theorem Y8{H7 c:Code} (rec:∀(c':Code),c'=H7\/c'=c->∀(h0:FH) (E:Env) (B:Base) (s:St) (h:FH) (β:List RV) (w:World) (a:Act) (K:Exit->St->Prop) (Q:Exit->Act->World->Prop) (l:Nat),gV P E->aJ E.cx.gd h0->E.rd=true->Sat E.n B h0 s h β w a ->
 jy E c' s K->(∀e s' h' β' w' a' B',Base.Y5 E.rd B B'->K e s'->h.le h'->Sat E.n B' h0 s' h' β' w' a'->Same (writes c') a a'->Q e a' w')->c'.wpIn (Fence.wide.inRound l) 0 P Q a w)
 (ok:gV P E) (hg:aJ E.cx.gd h0){K:Exit->St->Prop} (aj:Sat E.n B h0 s h β w a)
 {g:Operand}{ss:List Sh}{L:List (bT ss)} (gv:Gives P h ss L (a.eval g)){ps:Array Tmp}{ra:RA}
 (k:Qw E.n (λs K=>jy { E with rd:=true } H7 s λe s'=>match e with
  | .normal=>jy { E with rd:=true } c s' K
  | _=>False) (dY ra.drop (dY (tl ps) (dY (writes H7) (writes c)))) ra (tl ps) ss L s K)
 (hrd:E.rd=false) (next:∀e s' h' β' w' a' B',Base.Y5 E.rd B B'->K e s'->h.le h'->Sat E.n B' h0 s' h' β' w' a'->Same [] a a'->Q e a' w'):(Code.rangeFunc g ps H7 c).wpIn Fence.wide n P Q a w:=by
 unfold Qw at k;split at k
 .cases k
 rename_i hpar;obtain⟨⟨x0,i0,t0⟩,kr,kd⟩:=k;obtain⟨ws,hws⟩:∃ws,ws=dY ra.drop (dY (tl ps) (dY (writes H7) (writes c))):=⟨_,rfl⟩;rw[<-hws]at kr kd;have good:∀i x,i<=L.length->ra.inv i x->yj (aO s.T) (kF (ra.res x) s.T)=true:=by
  intro i x hi hx;cases hd:L[i]? with
  | some d=>
    have:=kr i x d hx hd;split at this
    .cases this
    .rename_i hh;exact hh
  | none=>
    have he:i=aO L:=by rw[bC];have:=List.getElem?_eq_none_iff.1 hd;omega
    subst he;have:=kd x hx;split at this
    .cases this
    .rename_i hh;exact hh
 have aqs:∀x,aO s.T=(kF (ra.res x) s.T).length:=λx=>by rw[Ag,bC]
 have hpl:ps.size=ss.length:=by
  have:∀{l:List Nat}{ss:List Sh},yu E.n l ss=true->l.length=ss.length:=by
   intro l
   induction l with
   | nil=>intro ss h;cases ss with | nil=>rfl | cons _ _=>simp[yu]at h
   | cons x l ih=>
     intro ss h;cases ss with
     | nil=>simp[yu]at h
     | cons s ss=>
       simp only[yu,aC,A8]at h;simp[ih h.2]
  have h1:=this hpar;cases ps;simpa using h1
 have psw:∀t,iY t ws=false->iY t (tl ps)=false/\iY t (writes H7)=false/\iY t (writes c)=false:=by
  intro t ht;rw[hws,lK,lK,lK,oV,oV,oV]at ht;exact⟨ht.2.1,ht.2.2.1,ht.2.2.2⟩
 have TG:∀(vs:List Value) t,iY t (tl ps)=false->((ps.zip vs.toArray).foldl (λt (p,v)=>t.setIfInBounds p v) a.tmps)[t]?=a.tmps[t]?:=by
  intro vs t ht;rw[Gg];refine yV _ _ λq hq e=>?_
  have hm:q.1∈tl ps:=(List.of_mem_zip hq).1;rw[e]at hm;have:∀{l:List Nat},t∈l->iY t l=true:=by
   intro l
   induction l with
   | nil=>intro h;cases h
   | cons x l ih=>
     intro h;rw[jB];rcases ng.1 h with rfl | h
     .simp
     .rw[ih h];simp
  rw[this hm]at ht;cases ht
 have an4:∀p∈keepR (aO s.T) ws [] s.env,∃z,a.tmps[p.1]?=some z/\cZ h β p.2 z:=by
  intro p hp;obtain⟨z,q1,q2,_⟩:=aj.env _ _ _ (sN p hp).2;exact⟨z,q1,q2 rfl⟩
 have Y9:∀kk o,B.nc kk o->kk < w.heap.size:=λkk o hk=>(EH.1 (aj.ok.kn kk o hk)).1
 have hBs:B.heap.size<=w.heap.size:=aj.ok.below.size
 -- the iterator's blocks are no one else's
 let Ap:List au->FH->List RV->(Nat->Prop)->Prop:=λT h' β' G=>Apt w.heap.size T h' β' G
 have apG:∀{T:List au}{h':FH}{β':List RV}{G G':Nat->Prop}{A A':World},OK B h0 T h' β' A->w.heap.size<=A.heap.size->Ap T h' β' G->Own' G G' A A'->Ap T h' β' G':=by
  intro T h' β' G G' A A' ok' hsz ⟨a1,a2,a3⟩ ho;refine⟨λb hb=>?_,λb hb hg=>?_,λb o v hb hg=>?_⟩
  .rcases(ho b hb).2 with h1 | h1
   .exact a1 b h1
   .omega
  .rcases(ho b hg).2 with h1 | h1
   .exact a2 b hb h1
   .obtain⟨i,r,v,e1,e2,e3,e4⟩:=hb;have:=(ok'.own i r v b e1 e2 e3 e4).2.1;omega
  .rcases(ho b hg).2 with h1 | h1
   .exact a3 b o v hb h1
   .have:=oW (ok'.hw b o v hb);omega
 have gsO:∀{T:List au}{h':FH}{β':List RV}{G:Nat->Prop}{A A':World},OK B h0 T h' β' A->Ap T h' β' G->Gs G A A'->OK B h0 T h' β' A':=λok' ⟨a1,a2,a3⟩ gs=>
  ok'.gs gs (λk hk=>qP hBs (a1 k hk)) a2 a3 (λk o hk hg=>by have:=Y9 k o hk;have:=a1 k hg;omega)
 -- what holds between the rounds;what holds where a round has left
 let I:Nat->(Nat->Prop)->World->Prop:=λi G A=>i<=L.length/\(w.heap.size<=A.heap.size/\∀b,G b->b < A.heap.size)/\∃x h' β',Ap (eff [] (kF (ra.res x) s.T)) h' β' G/\ra.inv i x/\h.le h'/\OK B h0 (eff [] (kF (ra.res x) s.T)) h' β' A/\∀p∈keepR (aO s.T) ws [] s.env,∃z,a.tmps[p.1]?=some z/\cZ h' β' p.2 z
 let Ix:Code->(Nat->Prop)->World->Prop:=λcc G A=>w.heap.size<=A.heap.size/\∃e T gl h' β',Ap (eff gl T) h' β' G/\((cc=.ret/\e=Exit.ret)\/∃j,cc=.exit j/\e=Exit.exit j)/\K e { env:=rdE ws ra.drop s,T:=T,gl:=gl,gs:=[] }/\h.le h'/\OK B h0 (eff gl T) h' β' A /\
  (∀p∈T,wS gl.length p.1=true)/\∀p∈keepR (aO s.T) ws [] s.env,∃z,a.tmps[p.1]?=some z/\cZ h' β' p.2 z
 have dfr:∀A,A.heap[w.heap.size]?=some (.deferred (some []))->∃B':Base,B.leB B'/\Py B' { a with defers:=yU w.heap.size :: a.defers }/\(∀{T h' β'},OK B h0 T h' β' A->OK B' h0 T h' β' A):=by
  intro A hA;refine⟨{ B with nc:=λk o=>B.nc k o\/(k=w.heap.size/\o=.deferred (some [])),cell:=λk o hh=>hh.elim (B.cell k o) λhh=>by rw[hh.2] },⟨rfl,rfl,λk o hh=>.inl hh⟩,?_,λok'=>ok'.Qy rfl rfl (λk o hh=>hh.elim (ok'.kn k o) λhh=>by rw[hh.1,hh.2];exact hA)⟩
  obtain⟨X,x1,x2,x3⟩:=aj.defers;refine⟨w.heap.size :: X,by simp[x1,yU],?_,?_⟩
  .refine Vh.2 ⟨λhm=>?_,x2⟩
   have:=Y9 _ _ (x3 _ hm).2;omega
  .intro D hD;rcases ng.1 hD with rfl | hD
   .exact⟨B.up _ hBs,.inr ⟨rfl,rfl⟩⟩
   .exact⟨(x3 D hD).1,.inl (x3 D hD).2⟩
 have fin:∀e cc G A,((cc=.ret/\e=Exit.ret)\/∃j,cc=.exit j/\e=Exit.exit j)->Ix cc G A->A.heap[w.heap.size]?=some (.deferred (some []))->Q e { a with defers:=yU w.heap.size :: a.defers } A:=by
  rintro e cc G A he ⟨_,e',T,gl,h',β',_,he',kk,le,ok',gT,refs⟩ hA;have hee:e'=e:=by
   rcases he with⟨rfl,rfl⟩ | ⟨j,rfl,rfl⟩<;>rcases he' with⟨h1,h2⟩ | ⟨j',h1,h2⟩<;>first | (cases h1;exact h2) | cases h1
  subst hee;obtain⟨B',lb,df,up⟩:=dfr A hA;exact next _ _ h' β' A _ B' ⟨lb,λhh=>(by rw[hrd]at hh;cases hh)⟩ kk le (Y6 aj le refs (up ok') gT rfl df) λ_ _=>rfl
 refine Wv gv hpl I Ix ?_ ?_ ?_ ?_ ?_ ?_ ?_ ?_ ?_ (λG A hA=>fin .ret .ret G A (.inl ⟨rfl,rfl⟩) hA) (λj G A hA=>fin (.exit j) (.exit j) G A (.inr ⟨j,rfl,rfl⟩) hA)
 .rintro i G A ⟨_,_,x,h',β',_,_,le,ok',_⟩;exact HW.mono le ok'.hw
 .rintro cc G A ⟨_,e,T,gl,h',β',_,he,kk,le,ok',_⟩;exact HW.mono le ok'.hw
 .rintro i G G' A A' ⟨hi,hsz,x,h',β',ap,i1,le,ok',refs⟩ gs ho;exact⟨hi,⟨qP hsz.1 gs.size,λb hb=>(ho b hb).1⟩,x,h',β',apG ok' hsz.1 ap ho,i1,le,gsO ok' ap gs,refs⟩
 .rintro cc G G' A A' ⟨hsz,e,T,gl,h',β',ap,he,kk,le,ok',gT,refs⟩ gs ho;exact⟨qP hsz gs.size,e,T,gl,h',β',apG ok' hsz ap ho,he,kk,le,gsO ok' ap gs,gT,refs⟩
 .rintro i G A l o o' ⟨hi,hsz,x,h',β',ap,i1,le,ok',refs⟩ hl hA ho;exact⟨hi,⟨by simpa using hsz.1,by simpa using hsz.2⟩,x,h',β',ap,i1,le,ok'.turn (B.up _ (qP hBs hl)) (λkk u hk e=>by have:=Y9 kk u hk;omega) hA ho,refs⟩
 .rintro cc G A l o o' ⟨hsz,e,T,gl,h',β',ap,he,kk,le,ok',gT,refs⟩ hl hA ho;exact⟨by simpa using hsz,e,T,gl,h',β',ap,he,kk,le,ok'.turn (B.up _ (qP hBs hl)) (λkk u hk e=>by have:=Y9 kk u hk;omega) hA ho,gT,refs⟩
 .refine⟨Hz _,⟨qm _,λb hb=>hb.elim⟩,x0,h,β,⟨λb hb=>hb.elim,λb _ hb=>hb.elim,λb o v _ hb=>hb.elim⟩,i0,FH.le.refl h,?_,an4⟩
  have g0:=good 0 x0 (Hz _) i0;rw[TF (gl:=s.gl) λp hp=>(wF g0 p hp).1,<-t0]
  exact aj.ok
 .rintro i d vs G A l o1 Wx o2 hd hv ⟨hi,⟨hsz,apb⟩,x,h',β',ap,i1,le,ok',refs⟩ hl hA1 ho1 aqt hA2 ho2 hGl;have kk:=kr i x d i1 hd;have gx:=good i x hi i1;rw[gx]at kk;simp only at kk;have blen:β'.length=aO s.T:=by rw[ok'.len,ji,<-aqs]
  obtain⟨p1,p2⟩:=Y7 (t:=a.tmps) (n:=E.n) aj.sz hpar hv;have aqu:Sat E.n (B.rd (eff [] (kF (ra.res x) s.T)) β' A) h'
   { env:=dY (NK (tl ps) ss d) (rdE ws (dY ra.drop (tl ps)) s),T:=kF (ra.res x) s.T,gl:=[],gs:=[] } h' β' A { tmps:=(ps.zip vs.toArray).foldl (λt (p,v)=>t.setIfInBounds p v) a.tmps,defers:=[] }:=by
   refine⟨ok'.enter,?_,?_,Py.nil rfl,?_,?_,?_⟩
   .intro t G e ht;simp only at ht ⊢;rw[qJ]at ht;split at ht
    .rename_i y hy;cases ht;obtain⟨rfl,z,z1,z2⟩:=p1 t G e hy;refine⟨z,by rw[Gg];exact z1,λ_=>(z2 β').mono le (Ext.refl _),λhh=>by cases hh⟩
    .rename_i hy;obtain⟨rfl,hm,z,z1,z2⟩:=KF aj le refs t G e ht;have hps:iY t (tl ps)=false:=p2 t hy;exact⟨z,by rw[TG vs t hps];exact z1,λ_=>z2,λhh=>by cases hh⟩
   .intro dd ii hh;cases hh
   .rw[Gg,fold_size];exact aj.sz
   .intro t G e ht;simp only at ht;rw[qJ]at ht;split at ht
    .rename_i y hy;cases ht;obtain⟨rfl,_⟩:=p1 t G e hy;rfl
    .obtain⟨rfl,_⟩:=KF aj le refs t G e ht;rfl
   .intro p hp;rw[(wF gx p hp).1]
  have Qz:gV P { E with rd:=true }:=⟨ok.prog,ok.hc,ok.YO,ok.mixed,ok.ti,ok.ct,ok.ip,ok.sq,ok.sf⟩
  refine rec H7 (.inl rfl) h' { E with rd:=true } _ _ h' β' A _ _ _ l Qz (hg.mono ok'.hle) rfl aqu kk ?_
  rintro e1 s1 h1 β1 A1 a1 B1 ⟨lb1,lr1⟩ k1 le1 jv sm1;cases e1 with
  | exit j=>exact k1.elim
  | goto j=>exact k1.elim
  | ret=>exact k1.elim
  | panic c=>exact k1.elim
  | outgrown=>exact k1.elim
  | normal=>
  obtain⟨q1,q2,q3,q4,q5⟩:=Je ok' ap apb lb1 jv;have Za:∀b,b=l\/b=w.heap.size\/G b->A1.heap[b]?=A.heap[b]?:=by
   rintro b (rfl | rfl | hb)
   .exact q4 _ (EH.1 hA1).1 (q5 _ _ hA1 ho1)
   .exact q4 _ (EH.1 hA2).1 (q5 _ _ hA2 ho2)
   .exact q4 b (apb b hb) (λhh=>ap.2.1 b hh hb)
  refine⟨Za,?_⟩;have hB1:A1.heap[l]?=some o1:=(Za l (.inl rfl)).trans hA1;have hl1:l < A1.heap.size:=(EH.1 hB1).1
  -- the record is turned;all else stands
  have okt:OK B h0 (eff s1.gl s1.T) h1 β1 (A1.putObj l Wx):=q1.turn (B.up _ (qP hBs (by omega))) (λkk u hk e=>by have:=Y9 kk u hk;omega) hB1 ho1
  have an5:Sat E.n (B.rd (eff s1.gl s1.T) β1 (A1.putObj l Wx)) h1 s1 h1 β1 (A1.putObj l Wx) a1:=by
   have hd1:a1.defers=[]:=by
    obtain⟨X,x1,x2,x3⟩:=jv.defers;cases X with
    | nil=>simpa using x1
    | cons D X=>
      exfalso;obtain⟨d1,d2⟩:=x3 D (by simp)
      rw[lr1 rfl]at d1 d2;have hk:=ok'.kn D _ d2;rcases d1 with d1 | d1
      .obtain⟨i,r,v,e1,e2,e3,e4⟩:=d1;obtain⟨o',q1,q2⟩:=(ok'.holds i r v e1 e3).cells e2 e4;rw[hk]at q1;cases q1;cases q2
      .have:=(EH.1 hk).1;omega
   exact⟨okt.enter,jv.env,jv.gs,Py.nil hd1,jv.sz,jv.gb,jv.gT⟩
  have hsz1:w.heap.size<=(A1.putObj l Wx).heap.size:=by simp;omega
  have ajJ:∀b,G b->b < (A1.putObj l Wx).heap.size:=λb hb=>by have:=apb b hb;simp;omega
  have hT2:(A1.putObj l Wx).heap[w.heap.size]?=some o2:=(World.putObj_heap_other (by omega)).trans ((Za _ (.inr (.inl rfl))).trans hA2)
  have hT1:(A1.putObj l Wx).heap[l]?=some Wx:=World.putObj_heap_same hl1;refine rec c (.inr rfl) h1 { E with rd:=true } _ _ h1 β1 _ _ _ _ l Qz (hg.mono (ok'.hle.trans le1)) rfl an5 k1 ?_
  rintro e s2 h2 β2 A2 a2 B2 ⟨BF,_⟩ k2 iD bF yw;obtain⟨ok2,ap2,q8,q9,q10⟩:=Je okt q2 ajJ BF bF;have keep:∀b,b=l\/b=w.heap.size\/G b->A2.heap[b]?=(A1.putObj l Wx).heap[b]?:=by
   rintro b (rfl | rfl | hb)
   .exact q9 _ (EH.1 hT1).1 (q10 _ _ hT1 aqt)
   .exact q9 _ (EH.1 hT2).1 (q10 _ _ hT2 ho2)
   .exact q9 b (ajJ b hb) (λhh=>q2.2.1 b hh hb)
  split at k2
  .cases k2
  rename_i hR;have hsz2:w.heap.size<=A2.heap.size:=qP hsz1 q8;have Zb:∀p∈keepR (aO s.T) ws [] s.env,∃z,a.tmps[p.1]?=some z/\cZ h2 β2 p.2 z:=by
   intro p hp;obtain⟨z,q1,q2,_⟩:=bF.env _ _ _ (sK hR p hp);obtain⟨w1,w2,w3⟩:=psw _ (Ai p hp);have e1:=yw p.1 w3;have e2:=sm1 p.1 w2;simp only at e2;rw[e1,e2,TG vs _ w1]at q1;exact⟨z,q1,q2 rfl⟩
  cases e with
  | normal=>
    simp only at k2;obtain⟨x',j1,j2⟩:=k2;have hi1:i+1<=L.length:=(eG.1 hd).1;have gx':=good (i+1) x' hi1 j1;have et:eff [] (kF (ra.res x') s.T)=(eff s2.gl s2.T).take (aO s.T):=by
     rw[jP]at j2;rw[<-j2,oI (gl:=s2.gl) λp hp=>by rw[j2]at hp;exact(wF gx' p hp).1]
    refine⟨keep,hi1,⟨hsz2,λb hb=>Pe (ajJ b hb) q8⟩,x',h2,β2.take (aO s.T),?_,j1,(le.trans le1).trans iD,?_,λp hp=>?_⟩
    .refine⟨ap2.1,?_,ap2.2.2⟩;rintro b ⟨i,r,v,e1,e2,e3,e4⟩ hb;rw[et]at e1;have hi:i < aO s.T:=by have:=(eG.1 e1).1;simp at this;omega
     rw[kN hi]at e1 e3;exact ap2.2.1 b ⟨i,r,v,e1,e2,e3,e4⟩ hb
    .rw[et];rw[jP]at j2;have hlen:aO s.T<=s2.T.length:=by
      have:=tK List.length j2;rw[Ag,lZ,bC]at this;rw[bC];omega
     refine ok2.take (by rw[ji];exact hlen) ?_
     rw[<-et];have:∀{l:List (Gd×au)},(∀p∈l,p.1=[]/\lM (aO s.T) p.2=true)->∀r∈eff [] l,lM (aO s.T) r=true:=by
      intro l
      induction l with
      | nil=>intro _ r hr;simp[eff]at hr
      | cons q l ih=>
        obtain⟨g,r0⟩:=q;intro hh r hr;have hg:=hh (g,r0) (by simp)
        have hg1:g=[]:=hg.1;subst hg1;simp only[eff]at hr;rcases ng.1 hr with rfl | hr
        .exact hg.2
        .exact ih (λp hp=>hh p (by simp[hp])) r hr
     exact this (wF gx')
    .obtain⟨z,q1,q2⟩:=Zb p hp;exact⟨z,q1,cZ.below (qK p hp) q2⟩
  | ret=>exact⟨keep,hsz2,.ret,s2.T,s2.gl,h2,β2,ap2,.inl ⟨rfl,rfl⟩,k2,(le.trans le1).trans iD,ok2,bF.gT,Zb⟩
  | exit j=>exact⟨keep,hsz2,.exit j,s2.T,s2.gl,h2,β2,ap2,.inr ⟨j,rfl,rfl⟩,k2,(le.trans le1).trans iD,ok2,bF.gT,Zb⟩
  | goto t=>exact k2.elim
  | panic ch=>exact k2.elim
  | outgrown=>exact k2.elim
 .rintro G A ⟨_,_,x,h',β',_,i1,le,ok',refs⟩ hA;have kk:=kd x (by rw[bC];exact i1)
  have gx:=good _ x (qm _) i1;rw[gx]at kk;simp only at kk;obtain⟨B',lb,df,up⟩:=dfr A hA;exact next _ _ h' β' A _ B' ⟨lb,λhh=>(by rw[hrd]at hh;cases hh)⟩ kk le (Y6 aj le refs (up ok') (λp hp=>by rw[(wF gx p hp).1]) rfl df) λ_ _=>rfl
theorem iZ{P:Program}{n:Nat}:∀(c:Code){h0:FH}{E:Env} (ok:gV P E) (hg:aJ E.cx.gd h0){F:Fence} (hF:Wd F) (hr:E.rd=false->F=Fence.wide){B:Base}{s:St}{h:FH}{β:List RV}{w:World}{a:Act}{K:Exit->St->Prop}{Q:Exit->Act->World->Prop},Sat E.n B h0 s h β w a ->
 jy E c s K->(∀e s' h' β' w' a' B',Base.Y5 E.rd B B'->K e s'->h.le h'->Sat E.n B' h0 s' h' β' w' a'->Same (writes c) a a'->Q e a' w')->c.wpIn F n P Q a w
 | .skip,h0,E,ok,hg,F,hF,hr,B,s,h,β,w,a,K,Q,aj,k,next=>wpIn_skip (next _ _ _ _ _ _ _ (.refl _) k (FH.le.refl h) aj (Same.refl _ _))
 | .exit i,h0,E,ok,hg,F,hF,hr,B,s,h,β,w,a,K,Q,aj,k,next=>wpIn_exit (next _ _ _ _ _ _ _ (.refl _) k (FH.le.refl h) aj (Same.refl _ _))
 | .ret,h0,E,ok,hg,F,hF,hr,B,s,h,β,w,a,K,Q,aj,k,next=>wpIn_ret (next _ _ _ _ _ _ _ (.refl _) k (FH.le.refl h) aj (Same.refl _ _))
 | .region id ops false,h0,E,ok,hg,F,hF,hr,B,s,h,β,w,a,K,Q,aj,k,next=>by
   simp only[jy]at k;split at k
   .cases k
   rename_i hnd;have et:tl ops=ops.toList:=by cases ops;rfl
   rw[et]at hnd k;refine Qn (R:=λa w=>Q .normal a w) hF (λ_ _ hh=>hh) hnd (KA ok hg ops.toList aj (by rw[et];exact k) λs' h' β' w' a' k' le aS sm=>next .normal _ _ _ _ _ _ (.refl _) k' le aS.clean ?_)
   simp only[writes];rw[et];exact sm
 | .seq x y,h0,E,ok,hg,F,hF,hr,B,s,h,β,w,a,K,Q,aj,k,next=>by
   simp only[jy]at k;split at k
   .rename_i la _;obtain⟨β0,ajK⟩:=aj.yT la.pad;clear aj;generalize yT la.pad s=s at ajK k;generalize β0=β at ajK;have aj:=ajK;obtain⟨k1,k2⟩:=k;have D0:∀h' a',h.le h'->Same (writes x) a a'->∀t e,iG (qH (dY la.drop (writes x)) [] s.env) t=some ([],e)->∃z,a'.tmps[t]?=some z/\jX h' [] e z:=by
     intro h' a' le sm t e ht;obtain⟨_,hw,hl,_,hf⟩:=kY ht;obtain⟨z,q1,q2,_⟩:=aj.env t [] e hl;exact⟨z,by rw[sm t (by rw[lK,oV]at hw;exact hw.2)];exact q1,(jX.lN [] hf (q2 rfl)).mono le (Ext.refl _)⟩
    refine wpIn_seq (iZ x ok hg hF hr aj k1 λe s' h' β' w' a' B1 lb k' le aS sm=>?_)
    cases e with
    | normal=>
      simp only at k';unfold anZ at k';obtain⟨h1,β1,le1,bF⟩:=Sat.uY aS la.H6 la.wu la.nil la.uy la.deep;obtain⟨β20,an7⟩:=bF.ou la.ren;obtain⟨β2,Qx⟩:=an7.vC la.can;split at k'
      .rename_i hR;obtain⟨v,j1,j2,j3⟩:=k';have kk:=k2 v j1;split at kk
       .cases kk
       .rename_i hc;rw[aC,A8]at hc;exact iZ y ok hg hF hr (Ah Qx j3 hc.1 hc.2 j2 (sK hR) (D0 h1 a' (le.trans le1) sm)) kk λe s2 h2 β3 w2 a2 B2 BF k3 iD Y4 yw=>next e s2 h2 β3 w2 a2 B2 (lb.trans BF) k3 ((le.trans le1).trans iD) Y4 (sm.left.trans yw.right)
      .exact k'.elim
    | exit i=>exact next _ _ _ _ _ _ _ lb k' le aS sm.left
    | goto l=>exact next _ _ _ _ _ _ _ lb k' le aS sm.left
    | ret=>exact next _ _ _ _ _ _ _ lb k' le aS sm.left
    | panic ch=>exact next _ _ _ _ _ _ _ lb k' le aS sm.left
    | outgrown=>exact next _ _ _ _ _ _ _ lb k' le aS sm.left
   .refine wpIn_seq (iZ x ok hg hF hr aj k λe s' h' β' w' a' B1 lb k' le aS sm=>?_)
    cases e with
    | normal=>exact iZ y ok hg hF hr aS k' λe s2 h2 β2 w2 a2 B2 BF k2 iD bF yw=>next e s2 h2 β2 w2 a2 B2 (lb.trans BF) k2 (le.trans iD) bF (sm.left.trans yw.right)
    | exit i=>exact next _ _ _ _ _ _ _ lb k' le aS sm.left
    | goto l=>exact next _ _ _ _ _ _ _ lb k' le aS sm.left
    | ret=>exact next _ _ _ _ _ _ _ lb k' le aS sm.left
    | panic ch=>exact next _ _ _ _ _ _ _ lb k' le aS sm.left
    | outgrown=>exact next _ _ _ _ _ _ _ lb k' le aS sm.left
 | .cond c x y,h0,E,ok,hg,F,hF,hr,B,s,h,β,w,a,K,Q,aj,k,next=>by
   simp only[jy]at k;split at k
   .rename_i b hb;have hc:a.eval c=.bool b:=(aN aj (hg.mono aj.ok.hle) (show gv s.gl []=true from rfl) hb).1.1
    refine wpIn_cond_split hc (λht=>iZ x ok hg hF hr aj ((ah.1 k).1 ht) λe s' h' β' w' a' B1 lb k' le aS sm=>next _ _ _ _ _ _ _ lb k' le aS sm.left)
     (λhf=>iZ y ok hg hF hr aj ((ah.1 k).2 hf) λe s' h' β' w' a' B1 lb k' le aS sm=>next _ _ _ _ _ _ _ lb k' le aS sm.right)
   .cases k
 | .block id c,h0,E,ok,hg,F,hF,hr,B,s,h,β,w,a,K,Q,aj,k,next=>by
   refine wpIn_block (iZ c ok hg hF hr aj k λe s' h' β' w' a' B1 lb k' le aS sm=>?_)
   cases e with
   | normal=>exact next _ _ _ _ _ _ _ lb k' le aS sm
   | exit i=>
     simp only at k';simp only[Exit.inBlock];split at k'
     .rename_i hi;have:i=id:=iC hi;rw[if_pos this];exact next _ _ _ _ _ _ _ lb k' le aS sm
     .rename_i hi;have:¬i=id:=λhh=>by rw[hh]at hi;simp at hi
      rw[if_neg this];exact next _ _ _ _ _ _ _ lb k' le aS sm
   | goto l=>exact next _ _ _ _ _ _ _ lb k' le aS sm
   | ret=>exact next _ _ _ _ _ _ _ lb k' le aS sm
   | panic ch=>exact next _ _ _ _ _ _ _ lb k' le aS sm
   | outgrown=>exact next _ _ _ _ _ _ _ lb k' le aS sm
 | .loop c,h0,E,ok,hg,F,hF,hr,B,s,h,β,w,a,K,Q,aj,k,next=>by
   simp only[jy]at k;split at k
   .rename_i la _;obtain⟨h1,β1,le1,jv⟩:=Sat.uY aj la.H6 la.wu la.nil la.uy la.deep
    replace next:=λe s' h' β' w' a' B1 lb k' le aS sm=>next e s' h' β' w' a' B1 lb k' (le1.trans le) aS sm
    clear le1 aj;clear h
    rename FH=>h
    generalize uY s la.H6 la.wu la.nil la.uy la.deep=s at jv k;obtain⟨β2,aj⟩:=jv.yT la.pad;clear jv;have jv:=aj;clear aj;generalize yT la.pad s=s at jv k;have aj:=jv;clear jv;obtain⟨⟨x,i1,i2,i3⟩,k2⟩:=k;have good:∀x,la.inv x->yj (aO s.T) (kF (la.res x) s.T)=true/\Jc (aO s.T) (dY la.drop (writes c)) (la.slots x)=true /\
     jy E c (qW (dY la.drop (writes c)) s (la.slots x) (la.res x)) (λe s'=>match e with
      | .normal=>match F7 (vC la.can (ou la.ren s')) (keepR (aO s.T) (dY la.drop (writes c)) [] s.env) with
        | true=>∃x',la.inv x'/\Iq (vC la.can (ou la.ren s')) (la.slots x')/\rJ (aO s.T) (vC la.can (ou la.ren s')).T=kF (la.res x') s.T/\la.meas x' < la.meas x
        | false=>False
      | e=>K e s'):=by
     intro x hx;have:=k2 x hx;split at this
     .cases this
     .rename_i hc;rw[aC,A8]at hc;exact⟨hc.1,hc.2,this⟩
    have D0:∀h' a',h.le h'->Same (writes c) a a'->∀t e,iG (qH (dY la.drop (writes c)) [] s.env) t=some ([],e)->∃z,a'.tmps[t]?=some z/\jX h' [] e z:=by
     intro h' a' le sm t e ht;obtain⟨_,hw,hl,_,hf⟩:=kY ht;obtain⟨z,q1,q2,_⟩:=aj.env t [] e hl;exact⟨z,by rw[sm t (by rw[lK,oV]at hw;exact hw.2)];exact q1,(jX.lN [] hf (q2 rfl)).mono le (Ext.refl _)⟩
    refine wpIn_loop_ghost (λn a' w'=>∃x h' β' B1,Base.Y5 E.rd B B1/\la.meas x=n/\la.inv x/\h.le h'/\Sat E.n B1 h0 (qW (dY la.drop (writes c)) s (la.slots x) (la.res x)) h' β' w' a'/\Same (writes c) a a') (la.meas x) ?_ ?_
    .obtain⟨g1,g2,_⟩:=good x i1;refine⟨x,h,_,B,.refl _,rfl,i1,FH.le.refl h,Ah aj ?_ g1 g2 i2 (λp hp=>(sN p hp).2) (D0 h a (FH.le.refl h) (Same.refl _ _)),Same.refl _ _⟩
     rw[<-i3,jP,bC,Xz]
    .rintro n a' w' ⟨x,h',β',B1,lb,rfl,hx,le,aS,sm⟩;obtain⟨g1,g2,kk⟩:=good x hx;refine iZ c ok hg hF hr aS kk λe s2 h2 β2 w2 a2 B2 BF k2 iD bF yw=>?_
     cases e with
     | normal=>
       simp only at k2;split at k2
       .rename_i hR;obtain⟨x',j1,j2,j3,j4⟩:=k2;obtain⟨g1',g2',_⟩:=good x' j1;obtain⟨β30,an8⟩:=bF.ou la.ren;obtain⟨β3,bF⟩:=an8.vC la.can;refine⟨la.meas x',j4,x',h2,_,B2,lb.trans BF,rfl,j1,le.trans iD,Ah bF j3 g1' g2' j2 (sK hR) (D0 h2 a2 (le.trans iD) (sm.trans yw)),sm.trans yw⟩
       .cases k2
     | exit i=>exact next _ _ _ _ _ _ _ (lb.trans BF) k2 (le.trans iD) bF (sm.trans yw)
     | goto l=>exact next _ _ _ _ _ _ _ (lb.trans BF) k2 (le.trans iD) bF (sm.trans yw)
     | ret=>exact next _ _ _ _ _ _ _ (lb.trans BF) k2 (le.trans iD) bF (sm.trans yw)
     | panic ch=>exact next _ _ _ _ _ _ _ (lb.trans BF) k2 (le.trans iD) bF (sm.trans yw)
     | outgrown=>exact next _ _ _ _ _ _ _ (lb.trans BF) k2 (le.trans iD) bF (sm.trans yw)
   .rename_i m _;refine wpIn_loop_rounds m ?_;have key:∀(m:Nat){B:Base}{s:St}{h:FH}{β:List RV}{w:World}{a:Act}{K:Exit->St->Prop}{Q:Exit->Act->World->Prop},Sat E.n B h0 s h β w a->KE (jy E c) m s K ->
     (∀e s' h' β' w' a' B',Base.Y5 E.rd B B'->K e s'->h.le h'->Sat E.n B' h0 s' h' β' w' a'->Same (writes c) a a'->Q e a' w')->Code.roundsIn F n P c Q m a w:=by
     intro m
     induction m with
     | zero=>intro B s h β w a K Q aj k next;cases k
     | succ m ih=>
       intro B s h β w a K Q aj k next
       rw[roundsIn_succ];refine iZ c ok hg hF hr aj k λe s2 h2 β2 w2 a2 B2 BF k2 iD bF yw=>?_
       cases e with
       | normal=>exact ih bF k2 λe s3 h3 β3 w3 a3 B3 lb3 k3 le3 Qx sm3=>next e s3 h3 β3 w3 a3 B3 (BF.trans lb3) k3 (iD.trans le3) Qx (yw.trans sm3)
       | exit i=>exact next _ _ _ _ _ _ _ BF k2 iD bF yw
       | goto l=>exact next _ _ _ _ _ _ _ BF k2 iD bF yw
       | ret=>exact next _ _ _ _ _ _ _ BF k2 iD bF yw
       | panic ch=>exact next _ _ _ _ _ _ _ BF k2 iD bF yw
       | outgrown=>exact next _ _ _ _ _ _ _ BF k2 iD bF yw
    exact key m aj k next
   .cases k
 | .region id ops true,h0,E,ok,hg,F,hF,hr,B,s,h,β,w,a,K,Q,aj,k,next=>by
   simp only[jy]at k;split at k
   .cases k
   rename_i hnd;have et:tl ops=ops.toList:=by cases ops;rfl
   cases hma:Cc E.cx (tl ops) with
   | true=>
     rw[hma]at k;simp only at k;cases hlx:aep ops with
     | false=>rw[hlx]at k;cases k
     | true=>
       rw[hlx]at k;exact YZ ok hg hlx aj k hF (by rw[et]at hnd;exact hnd) λs' h' β' w' a' k' le aS sm=>next .normal _ _ _ _ _ _ (.refl _) k' le aS.clean sm
   | false=>
   rw[hma]at k;simp only at k;cases SK:orB E.cx.rt (NI E (tl ops)) with
   | true=>
     rw[SK]at k;simp only at k;cases hd:Ad ops with
     | none=>rw[hd]at k;cases k
     | some l=>
       rw[hd]at k;exact Y0 ok hg hd aj k hF (by rw[et]at hnd;exact hnd) λs' h' β' w' a' k' le aS sm=>next .normal _ _ _ _ _ _ (.refl _) k' le aS.clean sm
   | false=>
   rw[SK]at k;simp only at k;cases hd:xA ops with
   | none=>rw[hd]at k;cases k
   | some l=>
     rw[hd]at k;exact TA ok hg hd aj k hF (by rw[et]at hnd;exact hnd) λs' h' β' w' a' k' le aS sm=>next .normal _ _ _ _ _ _ (.refl _) k' le aS.clean sm
 | .rangeFunc g ps H7 c,h0,E,ok,hg,F,hF,hr,B,s,h,β,w,a,K,Q,aj,k,next=>by
   simp only[jy]at k;split at k
   .cases k
   rename_i hrd;have hF':=hr hrd;subst hF';split at k
   .rename_i P' ss L hgE;split at k
    .rename_i ra _;obtain⟨hP,k⟩:=k;have hP:=ok.prog _ hP;subst hP;have gv0:Gives P' h ss L (a.eval g):=(aN aj (hg.mono aj.ok.hle) (show gv s.gl []=true from rfl) hgE).1
     obtain⟨h1,β1,le1,bF⟩:=Sat.uY aj ra.H6 ra.wu ra.nil ra.uy ra.deep
     replace next:=λe s' h' β' w' a' B1 lb k' le aS sm=>next e s' h' β' w' a' B1 lb k' (le1.trans le) aS sm
     have gv1:=HY.zl (x:=.seq P' ss L) le1 gv0;generalize uY s ra.H6 ra.wu ra.nil ra.uy ra.deep=s2 at bF k;refine Y8 (λc' hc' h0' E' B' s' h' β' w' a' K' Q' l ok' hg' he aS k' next'=>?_) ok hg bF gv1 k hrd next
     rcases hc' with rfl | rfl
     .exact iZ _ ok' hg' (F:=Fence.wide.inRound l) (.inr ⟨l,rfl⟩) (λhh=>by rw[he]at hh;cases hh) aS k' next'
     .exact iZ _ ok' hg' (F:=Fence.wide.inRound l) (.inr ⟨l,rfl⟩) (λhh=>by rw[he]at hh;cases hh) aS k' next'
    .cases k
   .cases k
 | .scope _,h0,E,ok,hg,F,hF,hr,B,s,h,β,w,a,K,Q,aj,k,next=>k.elim
 | .label _,h0,E,ok,hg,F,hF,hr,B,s,h,β,w,a,K,Q,aj,k,next=>k.elim
 | .goto _,h0,E,ok,hg,F,hF,hr,B,s,h,β,w,a,K,Q,aj,k,next=>k.elim
 | .refuse _,h0,E,ok,hg,F,hF,hr,B,s,h,β,w,a,K,Q,aj,k,next=>k.elim
abbrev resV(cx:Cx) (s:St) (r:ResultVar) (K:SV->Prop):Prop:=match r with
 | .tmp t=>match iG s.env t with
   | some ([],.one v)=>K v
   | _=>False
 | .cell p t=>match iG s.env p with
   | some ([],.one (.c q))=>vN cx s [] t q λe=>match e with
     | .one v=>K v
     | _=>False
   | _=>False
abbrev Zc(cx:Cx) (s:St):List ResultVar->(List SV->Prop)->Prop
 | [],K=>K []
 | r :: l,K=>resV cx s r λv=>Zc cx s l λvs=>K (v :: vs)
abbrev QA(i:Nat):List (Nat×au)->Bool
 | []=>false
 | (j,_) :: l=>match Nat.beq i j with
   | true=>true
   | false=>QA i l
abbrev selC(T:List (Gd×au)) (x:SC) (acc:List (Nat×au)):Option (SC×List (Nat×au)):=match x with
 | .v u=>some (.v u,acc)
 | .sl sh l=>some (.sl sh l,acc)
 | .fp sh d=>some (.fp sh d,acc)
 | .one sh d=>some (.one sh d,acc)
 | .abs x=>some (.abs x,acc)
 | .row i=>match eH T i with
   | some ([],.row t sh l)=>match QA i acc with
     | true=>none
     | false=>some (.row (aO acc),snoc acc (i,.row t sh l))
   | some ([],.deep t sh l tt e so own hs)=>match QA i acc with
     | true=>none
     | false=>some (.row (aO acc),snoc acc (i,.deep t sh l tt e so own hs))
   | some ([],.mp k sh l)=>match QA i acc with
     | true=>none
     | false=>some (.row (aO acc),snoc acc (i,.mp k sh l))
   | _=>none
 | _=>none
abbrev NP(T:List (Gd×au)):List SC->List (Nat×au)->Option (List SC×List (Nat×au))
 | [],acc=>some ([],acc)
 | x :: l,acc=>match selC T x acc with
   | some (y,acc)=>match NP T l acc with
     | some (m,acc)=>some (y :: m,acc)
     | none=>none
   | none=>none
abbrev ajL(T:List (Gd×au)) (v:SV) (acc:List (Nat×au)):Option (SV×List (Nat×au)):=match v with
 | .c x=>match selC T x acc with
   | some (y,acc)=>some (.c y,acc)
   | none=>none
 | .agg xs=>match NP T xs acc with
   | some (ys,acc)=>some (.agg ys,acc)
   | none=>none
 | .dat sh d=>some (.dat sh d,acc)
 | .und=>none
abbrev NQ(T:List (Gd×au)):List SV->List (Nat×au)->Option (List SV×List (Nat×au))
 | [],acc=>some ([],acc)
 | x :: l,acc=>match ajL T x acc with
   | some (y,acc)=>match NQ T l acc with
     | some (m,acc)=>some (y :: m,acc)
     | none=>none
   | none=>none
abbrev an9:List SV->bg
 | [v]=>.one v
 | vs=>.iO vs
abbrev Wy:List (Nat×au)->List au
 | []=>[]
 | (_,r) :: l=>r :: Wy l
abbrev aex(T:List (Gd×au)) (vs:List SV) (R:List au->bg->Prop):Prop:=match NQ T vs []with
 | some (vs',acc)=>R (Wy acc) (an9 vs')
 | none=>False
abbrev DN(n:Nat):List SV->List (Nat×Gd×bg)
 | []=>[]
 | v :: l=>(n,[],.one v) :: DN (Nat.succ n) l
abbrev frC(T:List (Gd×au)) (x:SC):Option (List (Gd×au)×SC):=match x with
 | .row i=>match eH T i with
   | some ([],.row _ sh l)=>some (dh T i ([],.gone),.sl sh l)
   | some ([],.deep _ sh l _ _ _ _ [])=>some (dh T i ([],.gone),.sl sh l)
   | some ([],.mp k sh l)=>some (dh T i ([],.gone),.one (.mp k sh) l)
   | _=>none
 | x=>some (T,x)
abbrev frL(T:List (Gd×au)):List SC->Option (List (Gd×au)×List SC)
 | []=>some (T,[])
 | x :: l=>match frC T x with
   | some (T,y)=>match frL T l with
     | some (T,m)=>some (T,y :: m)
     | none=>none
   | none=>none
abbrev frV(T:List (Gd×au)) (v:SV):Option (List (Gd×au)×SV):=match v with
 | .c x=>match frC T x with
   | some (T,y)=>some (T,.c y)
   | none=>none
 | .agg xs=>match frL T xs with
   | some (T,ys)=>some (T,.agg ys)
   | none=>none
 | v=>some (T,v)
abbrev coV(c:RC) (T:List (Gd×au)) (v:SV) (K:List (Gd×au)->SV->Prop):Prop:=match c with
 | .keep=>K T v
 | .data sh=>match frV T v with
   | some (T,v)=>match toDat sh v with
     | some d=>K T (iH sh d)
     | none=>False
   | none=>False
 | .row t sh=>match v with
   | .c (.v (.slice none 0 0))=>K (snoc T ([],.row t sh [])) (.c (.row (aO T)))
   | v=>K T v
 | .hd t sh rest=>match v with
   | .agg (x :: xs)=>match frL T xs with
     | some (T',ys)=>match takeD rest ys with
       | some (d,[])=>match flat rest d with
         | some zs=>match x with
           | .v (.slice none 0 0)=>K (snoc T' ([],.row t sh [])) (.agg (.row (aO T') :: zs))
           | x=>K T' (.agg (x :: zs))
         | none=>False
       | _=>False
     | none=>False
   | _=>False
abbrev coK:List RC->List (Gd×au)->List SV->(List (Gd×au)->List SV->Prop)->Prop
 | [],T,vs,K=>K T vs
 | _ :: _,T,[],K=>K T []
 | c :: cs,T,v :: vs,K=>coV c T v λT v=>coK cs T vs λT vs=>K T (v :: vs)
section
variable {B:Base}{h0:FH}{gl:List Bool}{w:World}
theorem Zd{T':List (Gd×au)} (ok:OK B h0 (eff gl T) h β w){x x':SC} (e:frC T x=some (T',x')) (c:dS h β x y):
 ∃h',h.le h'/\OK B h0 (eff gl T') h' β w/\dS h' β x' y:=by
 unfold frC at e;split at e
 .rename_i i;split at e
  .rename_i t sh l hT;cases e;have fZ:(eff gl T)[i]?=some (.row t sh l):=by rw[jI,<-fJ,hT];rfl
   obtain⟨h',le,ok',sl⟩:=ok.freeze fZ (ok.row_of fZ c);exact⟨h',le,by rw[fV];exact ok',sl⟩
  .rename_i t sh l t2 e2 so own hT;cases e;have fZ:(eff gl T)[i]?=some (.deep t sh l t2 e2 so own []):=by rw[jI,<-fJ,hT];rfl
   obtain⟨us,hu,hd⟩:=ok.wW fZ c;obtain⟨le,ok',vis⟩:=ok.wR fZ rfl hu;exact⟨_,le,by rw[fV];exact ok',hd.data le λb hb o z hz=>vis b hb o z hz⟩
  .rename_i k sh l hT;cases e;have fZ:(eff gl T)[i]?=some (.mp k sh l):=by rw[jI,<-fJ,hT];rfl
   have hu:=ok.ah9 fZ c;obtain⟨le,ok',vs⟩:=ok.wR fZ rfl hu;exact⟨_,le,by rw[fV];exact ok',S9 (β:=β) (ok.holds i _ _ fZ hu) le λb hb o z hz=>vs b hb o z hz⟩
  .cases e
 .cases e;exact⟨h,FH.le.refl h,ok,c⟩
theorem QB:∀{xs xs':List SC}{T T':List (Gd×au)}{h:FH}{β:List RV}{ys:List Value},OK B h0 (eff gl T) h β w->frL T xs=some (T',xs')->aP (λx y=>dS h β x y/\dF y) xs ys ->
 ∃h',h.le h'/\OK B h0 (eff gl T') h' β w/\aP (λx y=>dS h' β x y/\dF y) xs' ys
 | [],xs',T,T',h,β,[],ok,e,_=>by simp[frL]at e;obtain⟨rfl,rfl⟩:=e;exact⟨h,FH.le.refl h,ok,trivial⟩
 | x :: l,xs',T,T',h,β,y :: ys,ok,e,⟨c,r⟩=>by
   unfold frL at e;split at e
   .rename_i T1 x1 h1;split at e
    .rename_i T2 m h2;cases e;obtain⟨ha,le1,ok1,c1⟩:=Zd ok h1 c.1;obtain⟨hb,iD,ok2,c2⟩:=QB ok1 h2 (r.mono λ_ _ q=>⟨q.1.mono le1 (Ext.refl β),q.2⟩)
     exact⟨hb,le1.trans iD,ok2,⟨c1.mono iD (Ext.refl β),c.2⟩,c2⟩
    .cases e
   .cases e
theorem ajM{T':List (Gd×au)} (ok:OK B h0 (eff gl T) h β w){x x':SV} (e:frV T x=some (T',x')) (c:cZ h β x y):
 ∃h',h.le h'/\OK B h0 (eff gl T') h' β w/\cZ h' β x' y:=by
 unfold frV at e;split at e
 .split at e
  .rename_i T1 y1 h1;cases e;obtain⟨h',le,ok',c'⟩:=Zd ok h1 c.1;exact⟨h',le,ok',c',c.2⟩
  .cases e
 .split at e
  .rename_i T1 y1 h1;cases e;obtain⟨ys,rfl,a⟩:=c;obtain⟨h',le,ok',c'⟩:=QB ok h1 a;exact⟨h',le,ok',ys,rfl,c'⟩
  .cases e
 .cases e;exact⟨h,FH.le.refl h,ok,c⟩
theorem ajN(ok:OK B h0 (eff gl T) h β w){c:RC}{v:SV}{K:List (Gd×au)->SV->Prop} (k:coV c T v K) (cv:cZ h β v y):
 ∃T' v' h' β',K T' v'/\h.le h'/\Ext β β'/\OK B h0 (eff gl T') h' β' w/\cZ h' β' v' y:=by
 unfold coV at k;split at k
 .exact⟨T,v,h,β,k,FH.le.refl h,Ext.refl β,ok,cv⟩
 .split at k
  .rename_i T1 v1 h1;split at k
   .rename_i d hd;obtain⟨h',le,ok',c'⟩:=ajM ok h1 cv;obtain⟨cs,rfl,rd⟩:=toDat_ok hd c';exact⟨T1,_,h',β,k,le,Ext.refl β,ok',jQ _ rd⟩
   .cases k
  .cases k
 .rename_i t sh;split at k
  .obtain⟨e,_⟩:=cv;obtain⟨rfl,_⟩:=e;refine⟨_,_,h,β++[.row (.slice none 0 0)],k,FH.le.refl h,Ext.append _ _,?_,?_⟩
   .rw[iP,pF];exact ok.add (r:=.row t sh []) (v:=.row (.slice none 0 0)) (bW w none) (λb hb=>by rw[aY]at hb;simp[aA]at hb) (.inl ⟨rfl,rfl⟩)
   .refine⟨⟨.row (.slice none 0 0),?_,rfl⟩,rfl,rfl⟩;have:aO T=β.length:=by rw[ok.len,ji,bC]
    rw[this];simp
  .exact⟨T,v,h,β,k,FH.le.refl h,Ext.refl β,ok,cv⟩
 .rename_i t sh rest;split at k
  .rename_i x xs;split at k
   .rename_i T' ys hfr;split at k
    .rename_i d htk;split at k
     .rename_i zs hfl;obtain⟨us,e0,a⟩:=cv;cases us with
      | nil=>exact a.elim
      | cons u us=>
        obtain⟨cu,a⟩:=a;obtain⟨h',le,ok',a'⟩:=QB ok hfr a;obtain⟨c1,c2,e1,rd,a2⟩:=o7 rest htk a';have ec:c2=[]:=by cases c2 with | nil=>rfl | cons _ _=>exact a2.elim
        subst ec;rw[RH]at e1;subst e1;split at k
        .obtain⟨⟨rfl,_⟩,_⟩:=cu;refine⟨_,_,h',β++[.row (.slice none 0 0)],k,le,Ext.append _ _,?_,?_⟩
         .rw[iP,pF];exact ok'.add (r:=.row t sh []) (v:=.row (.slice none 0 0)) (bW w none) (λb hb=>by rw[aY]at hb;simp[aA]at hb) (.inl ⟨rfl,rfl⟩)
         .refine⟨.slice none 0 0 :: us,e0,⟨⟨.row (.slice none 0 0),?_,rfl⟩,rfl,rfl⟩,zo rest hfl rd⟩;have:aO T'=β.length:=by rw[ok'.len,ji,bC]
          rw[this];simp
        .exact⟨T',_,h',β,k,le,Ext.refl β,ok',u :: us,e0,⟨cu.1.mono le (Ext.refl β),cu.2⟩,zo rest hfl rd⟩
     .cases k
    .cases k
   .cases k
  .cases k
theorem Ze:∀{cs:List RC}{vs:List SV}{ys:List Value}{T:List (Gd×au)}{h:FH}{β:List RV}{K:List (Gd×au)->List SV->Prop},OK B h0 (eff gl T) h β w->coK cs T vs K->aP (cZ h β) vs ys ->
 ∃T' vs' h' β',K T' vs'/\h.le h'/\Ext β β'/\OK B h0 (eff gl T') h' β' w/\aP (cZ h' β') vs' ys
 | [],vs,ys,T,h,β,K,ok,k,a=>⟨T,vs,h,β,k,FH.le.refl h,Ext.refl β,ok,a⟩
 | _ :: _,[],ys,T,h,β,K,ok,k,a=>⟨T,[],h,β,k,FH.le.refl h,Ext.refl β,ok,a⟩
 | c :: cs,v :: vs,y :: ys,T,h,β,K,ok,k,⟨cv,a⟩=>by
   obtain⟨T1,v1,h1,β1,k1,le1,eb1,ok1,c1⟩:=ajN ok k cv;obtain⟨T2,vs2,h2,β2,k2,iD,eb2,ok2,c2⟩:=Ze ok1 k1 (a.mono λ_ _ q=>q.mono le1 eb1)
   exact⟨T2,v1 :: vs2,h2,β2,k2,le1.trans iD,λi u e=>eb2 i u (eb1 i u e),ok2,c1.mono iD eb2,c2⟩
end
abbrev wG(E:Env) (body:Code) (rs:List ResultVar) (args:List SV) (R:List au->bg->Prop):Prop:=
 jy E body { env:=DN 0 args,T:=[],gl:=[],gs:=[] } λe s=>match e with
  | .normal=>Zc E.cx s rs λvs=>coK E.rc s.T vs λT vs=>aex T vs R
  | .ret=>Zc E.cx s rs λvs=>coK E.rc s.T vs λT vs=>aex T vs R
  | _=>False
section
variable {B:Base}{h0:FH}{h:FH}{β:List RV}{w:World}{T:List (Gd×au)}{gl:List Bool}
def au.isRow:au->Prop
 | .row _ _ _=>True
 | .deep _ _ _ _ _ _ _ _=>True
 | .mp _ _ _=>True
 | _=>False
structure uZ (T:List au) (acc:List (Nat×au)):Prop where
 at_:∀p∈acc,T[p.1]?=some p.2/\p.2.isRow
 dup:∀(i j:Nat) p q,acc[i]?=some p->acc[j]?=some q->p.1=q.1->i=j
def lQ(β:List RV) (acc:List (Nat×au)):List RV:=acc.map λp=>β.getD p.1 .no
theorem yX:∀{acc:List (Nat×au)}{i:Nat},QA i acc=false->∀p∈acc,p.1≠i
 | [],i,_,p,hp=>by simp at hp
 | (j,r) :: l,i,h,p,hp=>by
   simp only[QA]at h;split at h
   .cases h
   .rename_i hij;rcases ng.1 hp with rfl | hp
    .exact λhh=>Xu hij hh.symm
    .exact yX h p hp
theorem uZ.snoc{T:List au} (k:uZ T acc){r:au} (hT:T[i]?=some r) (hr:r.isRow) (hm:QA i acc=false):uZ T (acc++[(i,r)]) where
 at_:=by
  intro p hp;rw[DY]at hp;rcases hp with hp | hp
  .exact k.at_ p hp
  .simp at hp;subst hp;exact⟨hT,hr⟩
 dup:=by
  intro a b p q ha hb e;rcases aF ha with⟨h1,ha⟩ | ⟨h1,rfl⟩<;>rcases aF hb with⟨h2,hb⟩ | ⟨h2,rfl⟩
  .exact k.dup a b p q ha hb e
  .exact(yX hm p (iM ha) e).elim
  .exact(yX hm q (iM hb) e.symm).elim
  .omega
theorem Gh(β:List RV) (acc ext:List (Nat×au)):Ext (lQ β acc) (lQ β (acc++ext)):=by
 unfold lQ;rw[Pm];exact Ext.append _ _
theorem TJ(ok:OK B h0 (eff gl T) h β w){x x':SC}{acc':List (Nat×au)} (e:selC T x acc=some (x',acc')) (k:uZ (eff gl T) acc) (c:dS h β x y):
 uZ (eff gl T) acc'/\(∃ext,acc'=acc++ext)/\dS h (lQ β acc') x' y:=by
 unfold selC at e;split at e
 .cases e;exact⟨k,⟨[],by simp⟩,c⟩
 .cases e;exact⟨k,⟨[],by simp⟩,c⟩
 .cases e;exact⟨k,⟨[],by simp⟩,c⟩
 .cases e;exact⟨k,⟨[],by simp⟩,c⟩
 .cases e;exact⟨k,⟨[],by simp⟩,c⟩
 .rename_i i;split at e
  .rename_i t sh l hT;split at e
   .cases e
   .rename_i hm;cases e;have fZ:(eff gl T)[i]?=some (.row t sh l):=by rw[jI,<-fJ,hT];rfl
    rw[iP];refine⟨k.snoc fZ trivial hm,⟨_,rfl⟩,?_⟩;obtain⟨u,c,cs⟩:=c;refine⟨u,?_,cs⟩;unfold lQ;rw[Pm,bC,O9 (by simp)]
    simp[c]
  .rename_i t sh l t2 e2 so own hs hT;split at e
   .cases e
   .rename_i hm;cases e;have fZ:(eff gl T)[i]?=some (.deep t sh l t2 e2 so own hs):=by rw[jI,<-fJ,hT];rfl
    rw[iP];refine⟨k.snoc fZ trivial hm,⟨_,rfl⟩,?_⟩;obtain⟨u,c,cs⟩:=c;refine⟨u,?_,cs⟩;unfold lQ;rw[Pm,bC,O9 (by simp)]
    simp[c]
  .rename_i k2 sh l hT;split at e
   .cases e
   .rename_i hm;cases e;have fZ:(eff gl T)[i]?=some (.mp k2 sh l):=by rw[jI,<-fJ,hT];rfl
    rw[iP];refine⟨k.snoc fZ trivial hm,⟨_,rfl⟩,?_⟩;obtain⟨u,c,cs⟩:=c;refine⟨u,?_,cs⟩;unfold lQ;rw[Pm,bC,O9 (by simp)]
    simp[c]
  .cases e
 .cases e
theorem NR(ok:OK B h0 (eff gl T) h β w):∀{xs xs':List SC}{acc acc':List (Nat×au)}{ys:List Value},NP T xs acc=some (xs',acc')->uZ (eff gl T) acc->aP (λx y=>dS h β x y/\dF y) xs ys ->
 uZ (eff gl T) acc'/\(∃ext,acc'=acc++ext)/\aP (λx y=>dS h (lQ β acc') x y/\dF y) xs' ys
 | [],xs',acc,acc',[],e,k,_=>by simp[NP]at e;obtain⟨rfl,rfl⟩:=e;exact⟨k,⟨[],by simp⟩,trivial⟩
 | x :: l,xs',acc,acc',y :: ys,e,k,⟨c,r⟩=>by
   unfold NP at e;split at e
   .rename_i x1 ajO h1;split at e
    .rename_i m aqy h2;cases e;obtain⟨k1,⟨ext1,rfl⟩,c1⟩:=TJ ok h1 k c.1;obtain⟨k2,⟨ajP,rfl⟩,c2⟩:=NR ok h2 k1 r;exact⟨k2,⟨ext1++ajP,by rw[Dj]⟩,⟨c1.mono (FH.le.refl h) (Gh _ _ _),c.2⟩,c2⟩
    .cases e
   .cases e
theorem aey(ok:OK B h0 (eff gl T) h β w){x x':SV}{acc':List (Nat×au)} (e:ajL T x acc=some (x',acc')) (k:uZ (eff gl T) acc) (c:cZ h β x y):
 uZ (eff gl T) acc'/\(∃ext,acc'=acc++ext)/\cZ h (lQ β acc') x' y:=by
 unfold ajL at e;split at e
 .split at e
  .rename_i y1 ajO h1;cases e;obtain⟨k1,e1,c1⟩:=TJ ok h1 k c.1;exact⟨k1,e1,c1,c.2⟩
  .cases e
 .split at e
  .rename_i y1 ajO h1;cases e;obtain⟨vs,e0,a⟩:=c;obtain⟨k1,e1,c1⟩:=NR ok h1 k a;exact⟨k1,e1,vs,e0,c1⟩
  .cases e
 .cases e;exact⟨k,⟨[],by simp⟩,c⟩
 .cases e
theorem NS(ok:OK B h0 (eff gl T) h β w):∀{xs xs':List SV}{acc acc':List (Nat×au)}{ys:List Value},NQ T xs acc=some (xs',acc')->uZ (eff gl T) acc->aP (cZ h β) xs ys ->
 uZ (eff gl T) acc'/\(∃ext,acc'=acc++ext)/\aP (cZ h (lQ β acc')) xs' ys
 | [],xs',acc,acc',[],e,k,_=>by simp[NQ]at e;obtain⟨rfl,rfl⟩:=e;exact⟨k,⟨[],by simp⟩,trivial⟩
 | x :: l,xs',acc,acc',y :: ys,e,k,⟨c,r⟩=>by
   unfold NQ at e;split at e
   .rename_i x1 ajO h1;split at e
    .rename_i m aqy h2;cases e;obtain⟨k1,⟨ext1,rfl⟩,c1⟩:=aey ok h1 k c;obtain⟨k2,⟨ajP,rfl⟩,c2⟩:=NS ok h2 k1 r;exact⟨k2,⟨ext1++ajP,by rw[Dj]⟩,cZ.mono (FH.le.refl h) (Gh _ _ _) c1,c2⟩
    .cases e
   .cases e
theorem KG:∀(l:List (Nat×au)),Wy l=l.map (·.2)
 | []=>rfl
 | (_,r) :: l=>by simp[Wy,KG l]
theorem OK.pick{T:List au} (ok:OK B h0 T h β w) (k:uZ T acc):OK B h0 (Wy acc) h (lQ β acc) w:=by
 have get:∀{i:Nat}{r:au}{v:RV},(Wy acc)[i]?=some r->(lQ β acc)[i]?=some v->∃p,acc[i]?=some p/\T[p.1]?=some r/\β[p.1]?=some v/\r.isRow:=by
  intro i r v e e';rw[KG,DI]at e;unfold lQ at e';rw[DI]at e';cases hp:acc[i]? with
  | none=>rw[hp]at e;cases e
  | some p=>
    rw[hp]at e e';cases e;cases e';obtain⟨h1,h2⟩:=k.at_ p (iM hp);have gZ:p.1 < β.length:=by rw[ok.len];exact(eG.1 h1).1
    exact⟨p,rfl,h1,by simp[gZ],h2⟩
 exact {
  below:=ok.below
  dr:=ok.dr
  len:=by rw[KG];simp[lQ]
  holds:=by
   intro i r v e e';obtain⟨p,_,h1,h2,hr⟩:=get e e';have:=ok.holds _ _ _ h1 h2;cases r with
   | row _ _ _=>
     cases v with
     | row y=>exact this
     | _=>exact this.elim
   | deep _ _ _ _ _ _ _ _=>
     cases v with
     | deep y us=>exact this
     | _=>exact this.elim
   | mp _ _ _=>
     cases v with
     | row y=>exact this
     | _=>exact this.elim
   | O5 _ _ _ _=>exact hr.elim
   | it _ _ _ _=>exact hr.elim
   | L9 _ _ _ _=>exact hr.elim
   | IJ _ _ _ _=>exact hr.elim
   | blk _ _=>exact hr.elim
   | obj _ _ _=>exact hr.elim
   | gone=>exact hr.elim
  own:=by
   intro i r v b e l e' hb;obtain⟨p,_,h1,h2,_⟩:=get e e';exact ok.own _ r v b h1 l h2 hb
  inj:=by
   intro i j r r' u v b e l e' l' f f' hb hb';obtain⟨p,p1,h1,h2,_⟩:=get e f;obtain⟨q,q1,h3,h4,_⟩:=get e' f';exact k.dup i j p q p1 q1 (ok.inj _ _ r r' u v b h1 l h3 l' h2 h4 hb hb')
  hle:=ok.hle
  hw:=ok.hw
  hg:=ok.hg
  kn:=ok.kn }
end
def KH(a:Act):ResultVar->Sem Value
 | .tmp t=>pure (a.tmps.getD t undef)
 | .cell p t=>do loadVar t (<-asAddr (a.tmps.getD p undef))
theorem aez(hc:bK P cx.ti) (aj:Sat N B h0 s h β w a){r:ResultVar}{K:SV->Prop} (k:resV cx s r K):
 ∃v y,K v/\(KH a r).run P w=.ok y w/\cZ h β v y:=by
 unfold resV at k;split at k
 .rename_i t;split at k
  .rename_i v hv;obtain⟨z,q1,q2,_⟩:=aj.env _ _ _ hv;exact⟨v,z,k,by simp[KH,q1],q2 rfl⟩
  .cases k
 .rename_i p t;split at k
  .rename_i q hq;obtain⟨z,q1,q2,_⟩:=aj.env _ _ _ hq;obtain⟨e,k1,k2⟩:=EW hc aj k;split at k1
   .rename_i v;obtain⟨y,r1,r2⟩:=k2 rfl z (q2 rfl).1;refine⟨v,y,k1,?_,r2⟩;have hz:∃ad,z=.pointer (some ad):=by
     have c:=(q2 rfl).1;cases q with
     | v x=>
       unfold vN at k;split at k
       .cases k
       .cases k
     | sl _ _=>
       unfold vN at k;split at k
       .cases k
       .cases k
     | fp _ _=>obtain⟨b,o,_,e,_⟩:=c;exact⟨_,e⟩
     | own _ _=>obtain⟨b,_,e⟩:=c;exact⟨_,e⟩
     | row _=>
       unfold vN at k;split at k
       .cases k
       .cases k
     | ku _ _ _ _=>obtain⟨_,g,_,_,e⟩:=c;exact⟨_,e⟩
     | mD _ _ _ _ _=>obtain⟨_,_,g,_,_,e⟩:=c;exact⟨_,e⟩
     | sub _ _=>
       unfold vN at k;split at k
       .cases k
       .cases k
     | one _ _=>
       unfold vN at k;split at k
       .cases k
       .cases k
     | abs _=>
       unfold vN at k;split at k
       .cases k
       .cases k
     | junk=>
       unfold vN at k;split at k
       .cases k
       .cases k
    obtain⟨ad,rfl⟩:=hz;have hg:a.tmps.getD p undef=.pointer (some ad):=by simp[q1]
    simp only[KH];rw[hg];simpa[Instr.loadAt,Instr.sureAddr,asAddr]using r1 w (nR.refl w)
   .cases k1
  .cases k
theorem TK{cx:Cx}{P:Program} (hc:bK P cx.ti){N:Nat}{B:Base}{h0:FH}{s:St}{h:FH}{β:List RV}{w:World}{a:Act} (aj:Sat N B h0 s h β w a):∀{rs:List ResultVar}{K:List SV->Prop},Zc cx s rs K ->
 ∃vs ys,K vs/\(rs.mapM (KH a)).run P w=.ok ys w/\aP (cZ h β) vs ys
 | [],K,k=>⟨[],[],k,rfl,trivial⟩
 | r :: l,K,k=>by
   obtain⟨v,y,k1,r1,c1⟩:=aez hc aj k;obtain⟨vs,ys,k2,r2,c2⟩:=TK hc aj k1;refine⟨v :: vs,y :: ys,k2,?_,c1,c2⟩;rw[List.mapM_cons];simp only[Sem.run_bind,Sem.run_pure];rw[r1];simp only[Result.andThen_ok];rw[r2];rfl
theorem QC(fn:Func) (a:Act):results fn a.tmps=(do let vs <-fn.results.mapM (KH a);pure (if h:vs.size=1 then vs[0] else .tuple vs):Sem Value):=by
 unfold results
 congr 1
theorem Du{fn:Func}{ys:List Value}
 (h:((tl fn.results).mapM (KH a)).run P w=.ok ys w):
 (results fn a.tmps).run P w=.ok (match ys with | [y]=>y | _=>.tuple ys.toArray) w:=by
 rw[QC];have e:(fn.results.mapM (KH a)).run P w=.ok ys.toArray w:=by
  cases hr:fn.results with
  | mk l=>
    rw[hr]at h;have e2:=List.mapM_toArray (m:=Sem) (f:=(KH a)) (l:=l);refine(tK (λx=>Sem.run P x w) e2).trans ?_
    simp only[Sem.run_map];rw[show Sem.run P (List.mapM (KH a) l) w=_ from h];rfl
 simp only[Sem.run_bind];rw[e];simp only[Result.andThen_ok,Sem.run_pure]
 congr 1
 match ys with
 | []=>rfl
 | [y]=>rfl
 | _ :: _ :: _=>simp
abbrev jT(fn:Func):Code:=match fn.body with
 | some c=>c
 | none=>.skip
theorem Dv{P:Program}{fn:Func}{tmps:Array Value}{R:Ending->World->Prop}{N:Nat}{B:World}{h0:FH}{s:St}{h:FH}{β:List RV}:∀(X:List Nat){w:World},X.Nodup->(∀D∈X,B.heap.size<=D/\w.heap[D]?=some (.deferred (some []))) ->
 Sat N (Base.of B) h0 s h β w { tmps:=tmps,defers:=[] }->(∀w',Sat N (Base.of B) h0 s h β w' { tmps:=tmps,defers:=[] }->∃v,(results fn tmps).run P w'=.ok v w'/\R (.returned v) w') ->
 LeavesInM Fence.wide 0 P fn tmps R (X.map (λD=>({ target:=.collected D,args:=#[] }:Deferred))) .returning w
 | [],w,_,_,aj,fin=>fin w aj
 | D :: X,w,hn,hx,aj,fin=>by
   obtain⟨h1,h2⟩:=hx D (by simp)
   have hn:=Vh.1 hn;refine⟨λhh=>(by cases hh),.inl ⟨D,w.putObj D (.deferred none),rfl,run_takeDeferred h2,?_⟩⟩
   refine Dv X hn.2 (λD' hD'=>?_) ⟨aj.ok.turn h1 (λk u hk=>hk.elim) h2 rfl,aj.env,aj.gs,Py.nil rfl,aj.sz,aj.gb,aj.gT⟩ fin
   obtain⟨g1,g2⟩:=hx D' (by simp[hD'])
   refine⟨g1,(World.putObj_heap_other ?_).trans g2⟩;rintro rfl;exact hn.1 hD'
abbrev KI:List Value->List SV
 | []=>[]
 | v :: l=>.c (.v v) :: KI l
theorem TL{h:FH}{β:List RV}:∀{l:List Value},(∀v∈l,EN v=true)->aP (cZ h β) (KI l) l
 | [],_=>trivial
 | v :: l,hh=>⟨⟨⟨rfl,rP (hh v (by simp))⟩,rP (hh v (by simp))⟩,TL λu hu=>hh u (by simp[hu])⟩
theorem aP.append{α β:Type}{R:α->β->Prop}:∀{l l':List α}{m m':List β},aP R l m->aP R l' m'->aP R (l++l') (m++m')
 | [],_,[],_,_,h=>h
 | _ :: _,_,_ :: _,_,⟨a,b⟩,h=>⟨a,aP.append b h⟩
theorem QD(ok:gV P E){fn:Func}{sv:List SV} (hf:P.funcs[f]?=some fn) (hb:fn.body=some body) (hn:fn.ntmps=E.n) (hle:Nat.ble (aO ct.ps+aO sv) E.n=true)
 (k:∀d,ct.pre d->∃ann,wG { E with ann:=ann } body (tl fn.results) (dY (fA ct.ps d) sv) λT e=>(ct.res d).1=T/\(ct.res d).2=e):CTS P E.cx.gd f sv ct:=by
 intro d vs suf h B hw hg hargs hys aH;obtain⟨ann,kk⟩:=k d aH;have ok:gV P { E with ann:=ann }:=⟨ok.prog,ok.hc,ok.YO,ok.mixed,ok.ti,ok.ct,ok.ip,ok.sq,ok.sf⟩
 have hlen:∀{ss:List Sh}{d:bT ss},(fA ss d).length=aO ss:=by
  intro ss
  induction ss with
  | nil=>intro d;rfl
  | cons s l ih=>intro d;simp[fA,aO,ih]
 have hvl:vs.length=aO ct.ps:=by rw[<-hargs.length,hlen]
 have hvn:(vs++suf).length<=E.n:=by rw[kT,hvl,<-hys.length,<-bC sv];exact qO hle
 replace hargs:aP (cZ h []) (dY (fA ct.ps d) sv) (vs++suf):=by
  rw[fU];exact hargs.append hys
 generalize dY (fA ct.ps d) sv=av at hargs kk;clear hvl hys;generalize vs++suf=vs at hargs hvn ⊢;refine callsIn_wide.1 (callsIn_of_wp_marks (F:=Fence.wide) (n:=0) hf hb trivial ?_);have aj:Sat E.n (Base.of B) h { env:=DN 0 av,T:=[],gl:=[],gs:=[] } h [] B { tmps:=vs.toArray++Array.replicate (fn.ntmps - vs.toArray.size) undef,defers:=[] }:=by
  have look:∀{xs:List SV}{ys:List Value}{n t:Nat}{G:Gd}{e:bg},aP (cZ h []) xs ys->iG (DN n xs) t=some (G,e)->∃y,G=[]/\n<=t/\ys[t - n]?=some y/\jX h [] e y:=by
   intro xs
   induction xs with
   | nil=>intro ys n t G e _ hh;simp[DN,iG]at hh
   | cons x xs ih=>
     intro ys n t G e a hh;cases ys with
     | nil=>exact a.elim
     | cons y ys=>
       simp only[DN]at hh;rw[aX]at hh;split at hh
       .rename_i hk;subst hk;cases hh;exact⟨y,rfl,qm _,by simp,a.1⟩
       .obtain⟨u,h1,h2,h3,h4⟩:=ih a.2 hh;refine⟨u,h1,by omega,?_,h4⟩
        rw[show t - n=(t - (n+1))+1 by omega]
        simpa using h3
  refine⟨⟨Bw.refl (Base.of B),qm _,rfl,λi r v e _=>by simp[eff]at e,λi r v b e _ _ _=>by simp[eff]at e,λi j r r' u v b e _ _ _ _ _ _ _=>by simp[eff]at e,FH.le.refl h,hw,λb o v hh=>.inl hh,λk o hh=>hh.elim⟩,?_,?_,Py.nil rfl,?_,?_,?_⟩
  .intro t G e ht;obtain⟨y,rfl,h2,h3,h4⟩:=look hargs ht;simp only[Nat.sub_zero]at h3;refine⟨y,?_,λ_=>h4,λhh=>by cases hh⟩
   rw[Array.getElem?_append_left (by have:=(eG.1 h3).1;simpa using this)]
   simpa using h3
  .intro d i hi;cases hi
  .simp only[A86,H9,Array.size_replicate];omega
  .intro t G e ht;obtain⟨y,rfl,_⟩:=look hargs ht;rfl
  .intro p hp;cases hp
 refine iZ body ok hg (.inl rfl) (λ_=>rfl) aj kk λe s' h' β' w' a' B' lb k' le aS sm=>?_
 have fin:Zc E.cx s' (tl fn.results) (λvs=>coK E.rc s'.T vs λT vs=>aex T vs λT e=>(ct.res d).1=T/\(ct.res d).2=e) ->
  LeavesInM Fence.wide 0 P fn a'.tmps (λen w'=>∃h' β y,en=.returned y/\OK (Base.of B) h (ct.res d).1 h' β w'/\jX h' β (ct.res d).2 y) a'.defers .returning w':=by
  intro kr;obtain⟨X,x1,x2,x3⟩:=aS.defers;rw[x1];have e0:B'.toWorld=B:=lb.1.1;have ea:B'.al=(Base.of B).al:=lb.1.2.1;have nd:∀D∈X,B.heap.size<=D/\w'.heap[D]?=some (.deferred (some [])):=λD hD=>⟨by have:=(x3 D hD).1;rw[ea]at this;exact this,aS.ok.kn D _ (x3 D hD).2⟩
  have jv:Sat E.n (Base.of B) h s' h' β' w' { tmps:=a'.tmps,defers:=[] }:=
   ⟨aS.ok.Qy (B':=Base.of B) (by rw[e0]) (by rw[ea]) (λk o hh=>hh.elim),aS.env,aS.gs,Py.nil rfl,aS.sz,aS.gb,aS.gT⟩
  refine Dv X x2 nd jv λw' aS=>?_
  replace kr:=kr
  obtain⟨vs,ys,k1,r1,c1⟩:=TK ok.ti aS kr;obtain⟨T1,vs1,h1,β1,k1,le1,eb1,ok1,c1⟩:=Ze aS.ok k1 c1;unfold aex at k1;split at k1
  .rename_i vs' acc hsel;obtain⟨e1,e2⟩:=k1;obtain⟨ka,_,c2⟩:=NS ok1 hsel ⟨λp hp=>by simp at hp,λi j p q hp=>by simp at hp⟩ c1
   refine⟨_,Du r1,h1,_,_,rfl,by rw[e1];exact ok1.pick ka,?_⟩
   rw[e2]
   match vs',ys,c2 with
   | [],[],c2=>exact⟨[],rfl,c2⟩
   | [v],[y],c2=>exact c2.1
   | _ :: _ :: _,y :: z :: ys,c2=>exact⟨_,rfl,c2⟩
  .cases k1
 cases e with
 | normal=>exact fin k'
 | ret=>exact fin k'
 | exit i=>exact k'.elim
 | goto l=>exact k'.elim
 | panic ch=>exact k'.elim
 | outgrown=>exact k'.elim
theorem Zf(ok:gV P E){fn:Func}{suf:List Value} (aeA:∀v∈suf,EN v=true) (hf:P.funcs[f]?=some fn) (hb:fn.body=some body) (hn:fn.ntmps=E.n) (hle:Nat.ble (aO ct.ps+aO suf) E.n=true)
 (k:∀d,ct.pre d->∃ann,wG { E with ann:=ann } body (tl fn.results) (dY (fA ct.ps d) (KI suf)) λT e=>(ct.res d).1=T/\(ct.res d).2=e):CTX P E.cx.gd f suf ct:=by
 intro d vs h B hw hg hargs aH;have hl:aO (KI suf)=aO suf:=by
  clear hle k aeA
  induction suf with
  | nil=>rfl
  | cons v l ih=>simp[KI,aO,ih]
 exact QD ok hf hb hn (by rw[hl];exact hle) k d vs suf h B hw hg hargs (TL aeA) aH
theorem Zg(ok:gV P E){fn:Func} (hf:P.funcs[f]?=some fn) (hb:fn.body=some body) (hn:fn.ntmps=E.n) (hle:Nat.ble (aO ct.ps) E.n=true)
 (k:∀d,ct.pre d->∃ann,wG { E with ann:=ann } body (tl fn.results) (fA ct.ps d) λT e=>(ct.res d).1=T/\(ct.res d).2=e):MW P E.cx.gd f ct:=
 (Zf (suf:=[]) ok (λv hv=>by cases hv) hf hb hn (by simpa[aO]using hle) (λd hd=>by
  obtain⟨ann,kk⟩:=k d hd;exact⟨ann,by rw[show dY (fA ct.ps d) (KI [])=fA ct.ps d by rw[fU];simp[KI]];exact kk⟩)).ok
abbrev Zh:List (Nat×CT)->Nat->Option CT
 | [],_=>none
 | (k,e) :: l,n=>cnd (Nat.beq k n) (some e) (Zh l n)
def Met(P:Program) (gd:Nat->Option (Sigma Sh.den)) (f:FuncId) (c:CT):Prop:=MW P gd f c/\Ig P f
def lS(P:Program) (gd:Nat->Option (Sigma Sh.den)):List (Nat×CT)->Prop
 | []=>True
 | (k,c) :: l=>Met P gd k c/\lS P gd l
theorem lS.get{P:Program}{gd:Nat->Option (Sigma Sh.den)}:∀{l:List (Nat×CT)}{f:Nat}{c:CT},lS P gd l->Zh l f=some c->Met P gd f c
 | [],_,_,_,e=>by simp[Zh]at e
 | (k,x) :: l,t,i,⟨h1,h2⟩,e=>by
   simp only[Zh,kE]at e;split at e
   .rename_i hk;have:k=t:=by simpa using hk
    subst this;cases e;exact h1
   .exact lS.get h2 e
abbrev lkI:List (Nat×IP)->Nat->Option IP
 | [],_=>none
 | (k,e) :: l,n=>cnd (Nat.beq k n) (some e) (lkI l n)
def TM(P:Program) (gd:Nat->Option (Sigma Sh.den)) (f:FuncId) (c:IP):Prop:=VP P gd f c/\Ig P f
def Gi(P:Program) (gd:Nat->Option (Sigma Sh.den)):List (Nat×IP)->Prop
 | []=>True
 | (k,c) :: l=>TM P gd k c/\Gi P gd l
theorem Gi.get{P:Program}{gd:Nat->Option (Sigma Sh.den)}:∀{l:List (Nat×IP)}{f:Nat}{c:IP},Gi P gd l->lkI l f=some c->TM P gd f c
 | [],_,_,_,e=>by simp[lkI]at e
 | (k,x) :: l,t,i,⟨h1,h2⟩,e=>by
   simp only[lkI,kE]at e;split at e
   .rename_i hk;have:k=t:=by simpa using hk
    subst this;cases e;exact h1
   .exact Gi.get h2 e
theorem KJ{il:List (Nat×IP)} (mx:P.follows .mixedOrders=true) (ti:bK P cx.ti) (cm:lS P cx.gd cl) (im:Gi P cx.gd il){fn:Func} (hf:P.funcs[f]?=some fn) (hb:fn.body=some (jT fn)) (hn:fn.ntmps=n) (hle:Nat.ble (aO ct.ps) n=true)
 (hs:fn.body.isSome=true) (hname:(fn.name == "runtime.NumGoroutine")=false)
 (k:∀d,ct.pre d->∃ann,wG { cx:=cx,n:=n,ct:=Zh cl,ann:=ann,ip:=lkI il,rc:=rc } (jT fn) (tl fn.results) (fA ct.ps d) λT e=>(ct.res d).1=T/\(ct.res d).2=e):Met P cx.gd f ct:=
 ⟨Zg (E:={ cx:=cx,n:=n,ct:=Zh cl,ann:=λ_=>none,ip:=lkI il,rc:=rc }) ⟨λP' e=>(by cases e),λ_ _ _ e=>(by cases e),λ_ _ e=>(by cases e),mx,ti,λf c h=>⟨(cm.get h).1,(cm.get h).2⟩,λf c h=>⟨(im.get h).1,(im.get h).2⟩,λ_ _ e=>(by cases e),λ_ _ e=>(by cases e)⟩ hf hb hn hle k,⟨fn,hf,hs,hname⟩⟩
theorem ajR(mx:P.follows .mixedOrders=true) (ti:bK P cx.ti) (cm:lS P cx.gd cl){fn:Func} (hf:P.funcs[f]?=some fn) (hb:fn.body=some (jT fn)) (hn:fn.ntmps=n) (hle:Nat.ble (aO ct.ps) n=true)
 (hs:fn.body.isSome=true) (hname:(fn.name == "runtime.NumGoroutine")=false)
 (k:∀d,ct.pre d->∃ann,wG { cx:=cx,n:=n,ct:=Zh cl,ann:=ann } (jT fn) (tl fn.results) (fA ct.ps d) λT e=>(ct.res d).1=T/\(ct.res d).2=e):Met P cx.gd f ct:=
 ⟨Zg (E:={ cx:=cx,n:=n,ct:=Zh cl,ann:=λ_=>none }) ⟨λP' e=>(by cases e),λ_ _ _ e=>(by cases e),λ_ _ e=>(by cases e),mx,ti,λf c h=>⟨(cm.get h).1,(cm.get h).2⟩,λf c h=>(by cases h),λ_ _ e=>(by cases e),λ_ _ e=>(by cases e)⟩ hf hb hn hle k,⟨fn,hf,hs,hname⟩⟩
def Zi(P:Program) (gd:Nat->Option (Sigma Sh.den)) (g:Nat) (m:MK):Prop:=
 ∀d h lb,m.pre d->aJ gd h->capD h m.ss d lb->(m.f d).rel h (.func (.func g) #[] lb.toArray)
abbrev lkM:List (Nat×MK)->Nat->Option MK
 | [],_=>none
 | (k,e) :: l,n=>cnd (Nat.beq k n) (some e) (lkM l n)
def Aj(P:Program) (gd:Nat->Option (Sigma Sh.den)):List (Nat×MK)->Prop
 | []=>True
 | (k,c) :: l=>Zi P gd k c/\Aj P gd l
theorem Aj.get{P:Program}{gd:Nat->Option (Sigma Sh.den)}:∀{l:List (Nat×MK)}{f:Nat}{c:MK},Aj P gd l->lkM l f=some c->Zi P gd f c
 | [],_,_,_,e=>by simp[lkM]at e
 | (k,x) :: l,t,i,⟨h1,h2⟩,e=>by
   simp only[lkM,kE]at e;split at e
   .rename_i hk;have:k=t:=by simpa using hk
    subst this;cases e;exact h1
   .exact Aj.get h2 e
def KL(P:Program) (gd:Nat->Option (Sigma Sh.den)) (f:FuncId) (suf:List Value) (c:CT):Prop:=CTX P gd f suf c/\Ig P f
abbrev lkH:List (Nat×Nat×CT)->Nat->Nat->Option CT
 | [],_,_=>none
 | (k,g,e) :: l,n,m=>cnd (dA (Nat.beq k n) (Nat.beq g m)) (some e) (lkH l n m)
def Jf(P:Program) (gd:Nat->Option (Sigma Sh.den)):List (Nat×Nat×CT)->Prop
 | []=>True
 | (k,g,c) :: l=>KL P gd k [.func (.func g) #[] #[]] c/\Jf P gd l
theorem Jf.get{P:Program}{gd:Nat->Option (Sigma Sh.den)}:∀{l:List (Nat×Nat×CT)}{f g:Nat}{c:CT},Jf P gd l->lkH l f g=some c->KL P gd f [.func (.func g) #[] #[]] c
 | [],_,_,_,_,e=>by simp[lkH]at e
 | (k,g',x) :: l,t,g,i,⟨h1,h2⟩,e=>by
   simp only[lkH,kE,aC]at e;split at e
   .rename_i hk;rw[A8]at hk;have e1:k=t:=iC hk.1;have e2:g'=g:=iC hk.2;subst e1;subst e2;cases e;exact h1
   .exact Jf.get h2 e
abbrev Zj(P:Program) (cx:Cx) (n:Nat) (cl:List (Nat×CT)) (il:List (Nat×IP)) (hl:List (Nat×Nat×CT)) (ml:List (Nat×MK)) (rc:List RC) (lits:List Nat) (ann:Nat->Option (St->kS)):Env:=
 { cx:=cx,n:=n,ct:=Zh cl,ann:=ann,ip:=lkI il,rc:=rc,lits:=lits,P:=some P,hc:=lkH hl,YO:=lkM ml }
theorem TN{il:List (Nat×IP)}{hl:List (Nat×Nat×CT)}{lits:List Nat}{ann:Nat->Option (St->kS)}
 (mx:P.follows .mixedOrders=true) (ti:bK P cx.ti) (cm:lS P cx.gd cl) (im:Gi P cx.gd il) (hm:Jf P cx.gd hl) (mm:Aj P cx.gd ml):gV P (Zj P cx n cl il hl ml rc lits ann) where
 prog:=λP' e=>by cases e;rfl
 hc:=λf g c e=>hm.get e
 YO:=λg fx e=>mm.get e
 mixed:=mx
 ti:=ti
 ct:=λf c h=>cm.get h
 ip:=λf c h=>im.get h
 sq:=λf c h=>by cases h
 sf:=λf c h=>by cases h
theorem oJ{il:List (Nat×IP)}{hl:List (Nat×Nat×CT)}{lits:List Nat}{suf:List Value}
 (mx:P.follows .mixedOrders=true) (ti:bK P cx.ti) (cm:lS P cx.gd cl) (im:Gi P cx.gd il) (hm:Jf P cx.gd hl) (mm:Aj P cx.gd ml){fn:Func} (hf:P.funcs[f]?=some fn) (hb:fn.body=some (jT fn)) (hn:fn.ntmps=n)
 (hle:Nat.ble (aO ct.ps+aO suf) n=true) (hs:fn.body.isSome=true) (hname:(fn.name == "runtime.NumGoroutine")=false) (aeA:∀v∈suf,EN v=true)
 (k:∀d,ct.pre d->∃ann,wG (Zj P cx n cl il hl ml rc lits ann) (jT fn) (tl fn.results) (dY (fA ct.ps d) (KI suf)) λT e=>(ct.res d).1=T/\(ct.res d).2=e):KL P cx.gd f suf ct:=
 ⟨Zf (E:=Zj P cx n cl il hl ml rc lits λ_=>none) (TN mx ti cm im hm mm) aeA hf hb hn hle k,⟨fn,hf,hs,hname⟩⟩
def aoc(P:Program) (gd:Nat->Option (Sigma Sh.den)) (f:FuncId) (q:SQ):Prop:=(∀L,CTS P gd f [.c (.abs (.seq P q.ss L))] (q.ct L))/\Ig P f
abbrev lkQ:List (Nat×SQ)->Nat->Option SQ
 | [],_=>none
 | (k,e) :: l,n=>cnd (Nat.beq k n) (some e) (lkQ l n)
def aeB(P:Program) (gd:Nat->Option (Sigma Sh.den)):List (Nat×SQ)->Prop
 | []=>True
 | (k,c) :: l=>aoc P gd k c/\aeB P gd l
theorem aeB.get{P:Program}{gd:Nat->Option (Sigma Sh.den)}:∀{l:List (Nat×SQ)}{f:Nat}{c:SQ},aeB P gd l->lkQ l f=some c->aoc P gd f c
 | [],_,_,_,e=>by simp[lkQ]at e
 | (k,x) :: l,t,i,⟨h1,h2⟩,e=>by
   simp only[lkQ,kE]at e;split at e
   .rename_i hk;have:k=t:=by simpa using hk
    subst this;cases e;exact h1
   .exact aeB.get h2 e
def aeC(P:Program) (gd:Nat->Option (Sigma Sh.den)) (f:FuncId) (q:SF):Prop:=(∀pre g,CTS P gd f [.c (.abs (.clo P q.ss q.r pre g))] (q.ct pre g))/\Ig P f
abbrev lkF:List (Nat×SF)->Nat->Option SF
 | [],_=>none
 | (k,e) :: l,n=>cnd (Nat.beq k n) (some e) (lkF l n)
def QE(P:Program) (gd:Nat->Option (Sigma Sh.den)):List (Nat×SF)->Prop
 | []=>True
 | (k,c) :: l=>aeC P gd k c/\QE P gd l
theorem QE.get{P:Program}{gd:Nat->Option (Sigma Sh.den)}:∀{l:List (Nat×SF)}{f:Nat}{c:SF},QE P gd l->lkF l f=some c->aeC P gd f c
 | [],_,_,_,e=>by simp[lkF]at e
 | (k,x) :: l,t,i,⟨h1,h2⟩,e=>by
   simp only[lkF,kE]at e;split at e
   .rename_i hk;have:k=t:=by simpa using hk
    subst this;cases e;exact h1
   .exact QE.get h2 e
abbrev QF(P:Program) (cx:Cx) (n:Nat) (cl:List (Nat×CT)) (ml:List (Nat×MK)) (fl:List (Nat×SF)) (rc:List RC) (ann:Nat->Option (St->kS)):Env:=
 { cx:=cx,n:=n,ct:=Zh cl,ann:=ann,rc:=rc,P:=some P,YO:=lkM ml,sf:=lkF fl }
theorem KN{fl:List (Nat×SF)}{ann:Nat->Option (St->kS)}
 (mx:P.follows .mixedOrders=true) (ti:bK P cx.ti) (cm:lS P cx.gd cl) (mm:Aj P cx.gd ml) (fm:QE P cx.gd fl):gV P (QF P cx n cl ml fl rc ann) where
 prog:=λP' e=>by cases e;rfl
 hc:=λf g c e=>by cases e
 YO:=λg fx e=>mm.get e
 mixed:=mx
 ti:=ti
 ct:=λf c h=>cm.get h
 ip:=λf c h=>by cases h
 sq:=λf c h=>by cases h
 sf:=λf c h=>fm.get h
theorem ajS{fl:List (Nat×SF)}{q:SF}
 (mx:P.follows .mixedOrders=true) (ti:bK P cx.ti) (cm:lS P cx.gd cl) (mm:Aj P cx.gd ml) (fm:QE P cx.gd fl){fn:Func} (hf:P.funcs[f]?=some fn) (hb:fn.body=some (jT fn)) (hn:fn.ntmps=n)
 (hle:∀pre g,Nat.ble (aO (q.ct pre g).ps+1) n=true) (hs:fn.body.isSome=true) (hname:(fn.name == "runtime.NumGoroutine")=false)
 (k:∀pre g d,(q.ct pre g).pre d->∃ann,wG (QF P cx n cl ml fl rc ann) (jT fn) (tl fn.results) (dY (fA (q.ct pre g).ps d) [.c (.abs (.clo P q.ss q.r pre g))]) λT e=>((q.ct pre g).res d).1=T/\((q.ct pre g).res d).2=e):aeC P cx.gd f q:=
 ⟨λpre g=>QD (E:=QF P cx n cl ml fl rc λ_=>none) (KN mx ti cm mm fm) hf hb hn (hle pre g) (k pre g),⟨fn,hf,hs,hname⟩⟩
theorem aeD{fl:List (Nat×SF)}
 (mx:P.follows .mixedOrders=true) (ti:bK P cx.ti) (cm:lS P cx.gd cl) (mm:Aj P cx.gd ml) (fm:QE P cx.gd fl){fn:Func} (hf:P.funcs[f]?=some fn) (hb:fn.body=some (jT fn)) (hn:fn.ntmps=n)
 (hle:Nat.ble (aO ct.ps) n=true) (hs:fn.body.isSome=true) (hname:(fn.name == "runtime.NumGoroutine")=false)
 (k:∀d,ct.pre d->∃ann,wG (QF P cx n cl ml fl rc ann) (jT fn) (tl fn.results) (fA ct.ps d) λT e=>(ct.res d).1=T/\(ct.res d).2=e):Met P cx.gd f ct:=
 ⟨Zg (E:=QF P cx n cl ml fl rc λ_=>none) (KN mx ti cm mm fm) hf hb hn hle k,⟨fn,hf,hs,hname⟩⟩
theorem KL.met{gd:Nat->Option (Sigma Sh.den)}{c:CT} (h:KL P gd f [] c):Met P gd f c:=⟨h.1.ok,h.2⟩
theorem fG(ti:bK P cx.ti) (cm:lS P cx.gd cl){fn:Func} (hf:P.funcs[f]?=some fn)
 (k:∀d,ct.pre d->∃ann,wG (Zj P cx n cl [] [] [] rc [] ann) (jT fn) (tl fn.results) (dY (fA ct.ps d) (KI [])) λT e=>(ct.res d).1=T/\(ct.res d).2=e)
 (mx:P.follows .mixedOrders=true:=by kernel_rfl) (hb:fn.body=some (jT fn):=by kernel_rfl) (hn:fn.ntmps=n:=by rfl) (hle:Nat.ble (aO ct.ps+aO ([]:List Value)) n=true:=by kernel_rfl)
 (hs:fn.body.isSome=true:=by kernel_rfl) (hname:(fn.name == "runtime.NumGoroutine")=false:=by kernel_rfl):Met P cx.gd f ct:=
 (oJ (il:=[]) (hl:=[]) (ml:=[]) (lits:=[]) (suf:=[]) mx ti cm trivial trivial trivial hf hb hn hle hs hname (by simp) k).met
theorem kD(ti:bK P cx.ti) (cm:lS P cx.gd cl){fn:Func} (hf:P.funcs[f]?=some fn)
 (k:∀d,ct.pre d->∃ann,wG { cx:=cx,n:=n,ct:=Zh cl,ann:=ann } (jT fn) (tl fn.results) (fA ct.ps d) λT e=>(ct.res d).1=T/\(ct.res d).2=e)
 (mx:P.follows .mixedOrders=true:=by kernel_rfl) (hb:fn.body=some (jT fn):=by kernel_rfl) (hn:fn.ntmps=n:=by rfl) (hle:Nat.ble (aO ct.ps) n=true:=by kernel_rfl)
 (hs:fn.body.isSome=true:=by kernel_rfl) (hname:(fn.name == "runtime.NumGoroutine")=false:=by kernel_rfl):Met P cx.gd f ct:=
 ajR mx ti cm hf hb hn hle hs hname k
end Go.ni
