/- Part 4 of the proof. Conditions: the rows'. -/
import Derived.Test.YtjhenjhcbcalpaaGreatDoorB3
import Derived.Deep.LoopGhost
set_option linter.unusedSimpArgs false
set_option linter.unusedVariables false
set_option maxRecDepth 1000000
set_option maxHeartbeats 8000000
namespace Go.lH
open Go Go.RowKit
variable {P:Program}{N i n:Nat}{B:Base}{h0 h:FH}{w A:World}{a b:Act}{o:Oper}{K:St->Prop}{s:St}{β β':List RV}{ops:Array Oper}{f:FuncId}{Q:Exit->Act->World->Prop}{T:List (Gd×ak)}{body:Code}{y:Value}{acc:List (Nat×ak)}{cx:Cx}{ct:CT}{cl:List (Nat×CT)}{ml:List (Nat×MK)}
structure LA where
 α:Type
 slots:α->List (Nat×SV)
 res:α->List (Nat×ak)
 inv:α->Prop
 meas:α->Nat
 ren:List (Nat×Nat):=[]
 drop:List Nat:=[]
 nil:List (Nat×TypeId×Sh):=[]
 Ey:List Nat:=[]
 pad:Nat:=0
 tJ:List Nat:=[]
 deep:List (Nat×TypeId×Sh×Nat):=[]
 oz:List (Nat×Nat×TypeId×Sh):=[]
 can:List (Nat×Loc):=[]
structure RA where
 α:Type
 res:α->List (Nat×ak)
 inv:Nat->α->Prop
 drop:List Nat:=[]
 nil:List (Nat×TypeId×Sh):=[]
 Ey:List Nat:=[]
 tJ:List Nat:=[]
 deep:List (Nat×TypeId×Sh×Nat):=[]
 oz:List (Nat×Nat×TypeId×Sh):=[]
inductive kD where
 | inv (a:LA)
 | gen (a:LA) (gh:a.α->Nat)
 | Dk (n:Nat)
 | rng (a:RA)
 | cut (a:LA)
inductive RC where
 | keep
 | data (s:Sh)
 | row (t:TypeId) (s:Sh)
 | hd (t:TypeId) (s r:Sh)
variable {rc:List RC}
structure SQ where
 ss:List Sh
 ct:List (bK ss)->CT
structure SF where
 ss:List Sh
 r:Sh
 ct:(bK ss->Prop)->(bK ss->r.den)->CT
structure Env where
 cx:Cx
 n:Nat
 ct:Nat->Option CT
 ann:Nat->Option (St->kD)
 ip:Nat->Option IP:=λ_=>none
 rc:List RC:=[]
 lits:List Nat:=[]
 P:Option Program:=none
 rd:Bool:=false
 hc:Nat->Nat->Option CT:=λ_ _=>none
 Wq:Nat->Option MK:=λ_=>none
 sq:Nat->Option SQ:=λ_=>none
 sf:Nat->Option SF:=λ_=>none
variable {E:Env}
abbrev JV:List SV->List Nat
 | []=>[]
 | v :: r=>match v with
   | .c (.row i)=>i :: JV r
   | .agg xs=>PI xs (JV r)
   | _=>JV r
abbrev Ws(E:Env) (s:St) (G:Gd) (f:Nat) (args:List Operand):List Nat:=match G with
 | _ :: _=>[]
 | []=>match E.ct f with
   | none=>[]
   | some cc=>match tC E.cx s [] args with
     | none=>[]
     | some vs=>match allL noRow vs with
       | true=>[]
       | false=>match EM s [] vs with
         | none=>[]
         | some bs=>match xX cc.ps bs with
           | none=>[]
           | some dd=>match dA (He (cc.res dd).2) (allL uS (cc.res dd).1) with
             | true=>[]
             | false=>JV vs
abbrev agj(E:Env) (s:St) (G:Gd) (ps:List (Nat×Operand)):List Nat:=match G with
 | _ :: _=>[]
 | []=>rowsOf E.cx s ps
abbrev Wu(E:Env) (s:St) (p x:Operand):List Nat:=match bH E.cx s [] x with
 | some (.one v)=>match JV [v]with
   | []=>[]
   | i :: r=>match bH E.cx s [] p with
     | some (.one (.c (.own q _)))=>match dU s.T q with
       | some ([],.obj _ _ _)=>i :: r
       | _=>[]
     | some (.one (.c (.jA _ _ _ _)))=>i :: r
     | _=>[]
 | _=>[]
abbrev Dl:List Operand->Option (List Operand×Nat)
 | []=>none
 | x :: l=>match l with
   | []=>match x with
     | .func g=>some ([],g)
     | _=>none
   | _ :: _=>match Dl l with
     | some (m,g)=>some (x :: m,g)
     | none=>none
theorem Dn{a:Act}:∀{l xs:List Operand}{g:Nat},Dl l=some (xs,g)->l.map a.eval=xs.map a.eval++[.func (.func g) #[] #[]]
 | [],_,_,h=>by simp[Dl]at h
 | [x],xs,g,h=>by
   simp only[Dl]at h;split at h
   .cases h;rfl
   .cases h
 | x :: y :: l,xs,g,h=>by
   simp only[Dl]at h;split at h
   .rename_i m g' hm;cases h;have:=Dn (a:=a) (l:=y :: l) hm;simp only[Uu]at this ⊢;rw[this];rfl
   .cases h
abbrev Dp:List Operand->Option (List Operand×Operand)
 | []=>none
 | x :: l=>match l with
   | []=>some ([],x)
   | _ :: _=>match Dp l with
     | some (m,g)=>some (x :: m,g)
     | none=>none
theorem Dq{a:Act}:∀{l xs:List Operand}{g:Operand},Dp l=some (xs,g)->l.map a.eval=xs.map a.eval++[a.eval g]
 | [],_,_,h=>by simp[Dp]at h
 | [x],xs,g,h=>by
   simp only[Dp]at h;cases h;rfl
 | x :: y :: l,xs,g,h=>by
   simp only[Dp]at h;split at h
   .rename_i m g' hm;cases h;have:=Dq (a:=a) (l:=y :: l) hm;simp only[Uu]at this ⊢;rw[this];rfl
   .cases h
abbrev Wv(ss ss':List Sh) (L:List (bK ss)):Option (List (bK ss')):=if h:ss=ss' then some (h▸L) else none
theorem Wx{ss ss':List Sh}{L:List (bK ss)}{M:List (bK ss')} (h:Wv ss ss' L=some M):∃e:ss=ss',e▸L=M:=by
 unfold Wv at h;split at h
 .rename_i e;cases h;exact⟨e,rfl⟩
 .cases h
abbrev hcL(E:Env) (f:Nat) (args:List Operand):Option (CT×List Operand):=match Dl args with
 | some (xs,g)=>match E.hc f g with
   | some ct=>some (ct,xs)
   | none=>none
 | none=>none
abbrev H9(E:Env) (ops:List Oper) (o:Oper) (s:St) (K:St->Prop):Prop:=match kU E.n o.dst with
 | false=>False
 | true=>sV E.lits s ops o.guard λG s=>match o.op with
   | .alloc t=>G6 E.cx s G o.dst t K
   | .box t x=>aa3 E.cx s G o.dst t x K
   | .buildSlice t n ps=>lT E.cx (l9 s (agj E s G (tl ps))) G o.dst t n (tl ps) K
   | .makeSlice t l c=>Pq E.cx s G o.dst t l c K
   | .store t p x=>match G with
     | []=>match abk E.cx s o.dst t p x K with
       | some q=>q
       | none=>G7 E.cx (l9 s (Wu E s p x)) o.dst t p x K
     | _ :: _=>False
   | .call c=>match c.callee with
     | .value (.func f)=>match hcL E f (tl c.args) with
       | some (ct,xs)=>iP E.cx (λ_=>some ct) s G o.dst f xs K
       | none=>iP E.cx E.ct (l9 s (Ws E s G f (tl c.args))) G o.dst f (tl c.args) K
     | .builtin .append=>match G with
       | []=>match tl c.args with
         | [x,y]=>match tl c.argTypes with
           | [t,t']=>match Nat.beq t t' with
             | true=>match PV s x λs=>uQ E.cx s o.dst t x y K with
               | some q=>q
               | none=>uQ E.cx s o.dst t x y K
             | false=>False
           | _=>False
         | _=>False
       | _ :: _=>False
     | .builtin .copy=>match G with
       | []=>match tl c.args with
         | [x,y]=>match tl c.argTypes with
           | [t,_]=>PW E.cx s o.dst t x y K
           | _=>False
         | _=>False
       | _ :: _=>False
     | .builtin .min=>match G with
       | []=>match tl c.args with
         | [x,y]=>abn E.cx s o.dst x y K
         | _=>False
       | _ :: _=>False
     | .builtin .max=>match G with
       | []=>match tl c.args with
         | [x,y]=>Nj E.cx s o.dst x y K
         | _=>False
       | _ :: _=>False
     | _=>mG E.cx s G o λe=>K (s.put o.dst G e)
   | _=>mG E.cx s G o λe=>K (s.put o.dst G e)
abbrev iI(E:Env) (ops:List Oper) (o:Oper) (s:St) (K:St->Prop):Prop:=match apP E.cx s o K with
 | some p=>match kU E.n o.dst with
   | false=>False
   | true=>p
 | none=>H9 E ops o s K
structure fU (P:Program) (E:Env):Prop where
 prog:∀P',E.P=some P'->P'=P
 hc:∀f g c,E.hc f g=some c->CTX P E.cx.gd f [.func (.func g) #[] #[]] c/\EH P f
 Wq:∀g m,E.Wq g=some m->∀d h lb,m.pre d->aI E.cx.gd h->capD h m.ss d lb->(m.f d).rel h (.func (.func g) #[] lb.toArray)
 mixed:P.follows .mixedOrders=true
 ti:bJ P E.cx.ti
 ct:∀f c,E.ct f=some c->JC P E.cx.gd f c/\∃fn,P.funcs[f]?=some fn/\fn.body.isSome=true/\(fn.name == "runtime.NumGoroutine")=false
 ip:∀f c,E.ip f=some c->SE P E.cx.gd f c/\∃fn,P.funcs[f]?=some fn/\fn.body.isSome=true/\(fn.name == "runtime.NumGoroutine")=false
 sq:∀f q,E.sq f=some q->(∀L,CTS P E.cx.gd f [.c (.abs (.seq P q.ss L))] (q.ct L))/\EH P f
 sf:∀f q,E.sf f=some q->(∀pre g,CTS P E.cx.gd f [.c (.abs (.clo P q.ss q.r pre g))] (q.ct pre g))/\EH P f
theorem fO.cast{b b':Bool} (e:b=b') (h':fO P N B h0 h w a o b' K):fO P N B h0 h w a o b K:=by rw[e];exact h'
theorem abv(s:St) (i:Nat):(JG s i).gl=s.gl:=by
 unfold JG;split<;>rfl
theorem qm:∀{l:List Nat}{s:St},(l9 s l).gl=s.gl
 | [],_=>rfl
 | i :: l,s=>by
   show(l9 (JG s i) l).gl=s.gl;rw[qm,abv]
theorem fO.le{P:Program}{N:Nat}{B:Base}{h0 h h':FH}{w:World}{a:Act}{o:Oper}{b:Bool}{K:St->Prop} (le:h.le h') (k:fO P N B h0 h' w a o b K):fO P N B h0 h w a o b K:=
 λNx Q next=>k Nx Q λs' h2 β' w' v k' le' q aj=>next s' h2 β' w' v k' (le.trans le') q aj
theorem Tz(ok:fU P E) (aj:Sat E.n B h0 s h β w a) (hg:aI E.cx.gd h)
 (k:H9 E (tl ops) o s K):fO P E.n B h0 h w a o (Region.wanted o (yielded ops a.tmps)) K:=by
 unfold H9 at k;split at k
 .cases k
 rename_i hd;obtain⟨G,s',k,aP,hw,hG⟩:=uP aj k;refine fO.cast hw ?_;split at k
 .rename_i t ho;exact MS ok.ti aP hG hd ho k
 .rename_i t x ho;exact Vo ok.ti aP hg hG hd ho k
 .rename_i t n ps ho;obtain⟨h',le,bC⟩:=aP.Ey (l:=agj E s' G (tl ps));have:=rQ ok.ti bC (hg.mono le) (by rw[qm];exact hG) hd ho k
  rw[qm]at this;exact fO.le le this
 .rename_i t l c ho;exact SA ok.ti aP hg hG hd ho k
 .rename_i t p x ho;split at k
  .split at k
   .rename_i q hq;exact VQ ok.ti aP hg hd ho hq k
   .obtain⟨h',le,bC⟩:=aP.Ey (l:=Wu E s' p x);have:=MV ok.ti bC (hg.mono le) hd ho k;rw[qm]at this;exact fO.le le this
  .cases k
 .rename_i c ho;split at k
  .rename_i f bU;split at k
   .rename_i ct xs hl;unfold hcL at hl;split at hl
    .rename_i xs' g hlf;split at hl
     .rename_i ct' hct;cases hl;obtain⟨hc,hf⟩:=ok.hc f g ct hct;have k':iP E.cx (λf'=>if f'=f then some ct else none) s' G o.dst f xs K:=by
       unfold iP at k ⊢;simpa using k
      exact qW (suf:=[.func (.func g) #[] #[]]) (λf' c' e=>by
       split at e
       .rename_i hff;cases e;rw[hff];exact hc
       .cases e) aP hg hG hd ho bU (λ_=>rfl) (by
       have:=Dn (a:=a) hlf;rw[<-this];cases c.args;simp) hf k'
     .cases hl
    .cases hl
   .obtain⟨h',le,bC⟩:=aP.Ey (l:=Ws E s' G f (tl c.args));refine fO.le le ?_;rw[<-qm (l:=Ws E s' G f (tl c.args)) (s:=s')]at hG ⊢;generalize l9 s' (Ws E s' G f (tl c.args))=s' at k bC hG ⊢;unfold iP at k;cases hct:E.ct f with
    | none=>rw[hct]at k;cases k
    | some cc=>exact SB (λf c e=>(ok.ct f c e).1) bC (hg.mono le) hG hd ho bU (ok.ct f cc hct).2 k
  .rename_i bU;split at k
   .split at k
    .rename_i x y ha;split at k
     .rename_i t t' ht;split at k
      .rename_i htt;have htt:t=t':=gJ htt;subst htt;split at k
       .rename_i q hq;obtain⟨s2,β2,k2,bC,egl⟩:=abl aP hq k;have:=Ae ok.ti bC hg hd ho bU (gW ha) (gW ht) k2;rw[egl]at this;exact this
       .exact Ae ok.ti aP hg hd ho bU (gW ha) (gW ht) k
      .cases k
     .cases k
    .cases k
   .cases k
  .rename_i bU;split at k
   .split at k
    .rename_i x y ha;split at k
     .rename_i t t' ht;exact S9 ok.ti aP hg hd ho bU (gW ha) (gW ht) k
     .cases k
    .cases k
   .cases k
  .rename_i bU;split at k
   .split at k
    .rename_i x y ha;exact VU aP hg hd ho bU (gW ha) k
    .cases k
   .cases k
  .rename_i bU;split at k
   .split at k
    .rename_i x y ha;exact SY aP hg hd ho bU (gW ha) k
    .cases k
   .cases k
  .exact Fv ok.ti aP hg hG hd k
 .exact Fv ok.ti aP hg hG hd k
theorem qo(ok:fU P E) (aj:Sat E.n B h0 s h β w a) (hg:aI E.cx.gd h)
 (k:iI E (tl ops) o s K):fO P E.n B h0 h w a o (Region.wanted o (yielded ops a.tmps)) K:=by
 unfold iI at k;split at k
 .rename_i p hp;split at k
  .cases k
  .rename_i hd;exact VZ ok.ti aj hg hd hp k
 .exact Tz ok aj hg k
abbrev Wy(E:Env) (ops:List Oper):List Oper->St->(St->Prop)->Prop
 | [],s,K=>K s
 | o :: r,s,K=>iI E ops o s λs=>Wy E ops r s K
abbrev iD(k:Nat):List Nat->Bool
 | []=>false
 | j :: l=>match Nat.beq k j with
   | true=>true
   | false=>iD k l
theorem iW{k j:Nat}{l:List Nat}:iD k (j :: l)=(Nat.beq k j || iD k l):=by
 simp only[iD];cases Nat.beq k j<;>rfl
theorem kK{k:Nat}{m:List Nat}:∀{l:List Nat},iD k (dS l m)=(iD k l || iD k m)
 | []=>rfl
 | j :: l=>by rw[show dS (j :: l) m=j :: dS l m from rfl,iW,iW,kK,Bool.or_assoc]
abbrev jq:List Oper->List Nat
 | []=>[]
 | o :: l=>match o.dst with
   | some d=>d :: jq l
   | none=>jq l
def Same(ws:List Nat) (a a':Act):Prop:=∀t,iD t ws=false->a'.tmps[t]?=a.tmps[t]?
theorem Same.refl(ws:List Nat) (a:Act):Same ws a a:=λ_ _=>rfl
theorem Same.trans{ws:List Nat}{a b c:Act} (x:Same ws a b) (y:Same ws b c):Same ws a c:=λt h=>(y t h).trans (x t h)
theorem Same.left{l m:List Nat} (x:Same l a b):Same (dS l m) a b:=λt h=>x t (by rw[kK,rM]at h;exact h.1)
theorem Same.right{l m:List Nat} (x:Same m a b):Same (dS l m) a b:=λt h=>x t (by rw[kK,rM]at h;exact h.2)
theorem Same.put{o:Oper}{l:List Oper}{a:Act}{v:Value}{b:Act} (x:Same (jq l) (a.put o.dst v) b):Same (jq (o :: l)) a b:=by
 intro t h;cases hd:o.dst with
 | none=>
   have e:jq (o :: l)=jq l:=by simp only[jq,hd]
   rw[e]at h;rw[x t h,hd];rfl
 | some d=>
   have e:jq (o :: l)=d :: jq l:=by simp only[jq,hd]
   rw[e,iW,rM]at h;rw[x t h.2,hd];have hne:d≠t:=λhh=>UL h.1 hh.symm
   simp[Act.put,afu hne]
abbrev agk(E:Env) (s:St) (o:Oper):Option IP:=match o.guard with
 | some _=>none
 | none=>match o.op with
   | .call c=>match c.callee with
     | .value (.func f)=>match E.ip f with
       | none=>none
       | some ip=>match tl c.args with
         | []=>none
         | x :: _=>match bH E.cx s [] x with
           | some (.one (.c (.row _)))=>some ip
           | _=>none
     | _=>none
   | _=>none
abbrev WA(E:Env) (s:St) (o:Oper):Option IP:=match o.guard with
 | some _=>none
 | none=>match o.op with
   | .call c=>match c.callee with
     | .value (.func f)=>match E.ip f with
       | none=>none
       | some ip=>match tl c.args with
         | []=>none
         | x :: _=>match bH E.cx s [] x with
           | some (.one (.c (.sub _ _)))=>some ip
           | _=>none
     | _=>none
   | _=>none
abbrev mD:Op->List Operand
 | .call c=>tl c.args
 | _=>[]
abbrev agl:Value->Option Nat
 | .func (.func f) a b=>match tl a with
   | []=>match tl b with
     | []=>some f
     | _ :: _=>none
   | _ :: _=>none
 | _=>none
abbrev Aw(sh:Sh):ak->Option SV
 | .obj _ s d=>match dA sh.isAgg s.isAgg with
   | true=>some (.dat s d)
   | false=>none
 | .blk _ xs=>match sh.isAgg with
   | true=>some (.agg xs)
   | false=>match xs with
     | [x]=>some (.c x)
     | _=>none
 | _=>none
abbrev NJ(s:St):(ss:List Sh)->List Operand->Option (St×bK ss)
 | [],[]=>some (s,())
 | sh :: ss,x :: l=>match x with
   | .tmp t=>match gX s.env t with
     | some ([],.one (.c (.own i 0)))=>match dU s.T i with
       | some ([],r)=>match Aw sh r with
         | some v=>match toDat sh v with
           | some d=>match NJ { s with T:=dh s.T i ([],.gone) } ss l with
             | some (s',ds)=>some (s',(d,ds))
             | none=>none
           | none=>none
         | none=>none
       | _=>none
     | _=>none
   | _=>none
 | _,_=>none
inductive HO where
 | hc (c:CT) (xs:List Operand)
 | cc (f:Nat) (xs:List Operand)
 | mk (g:Nat) (cap:List Operand)
 | sq (P:Program) (c:CT) (xs:List Operand)
 | sf (P:Program) (ss:List Sh) (r:Sh) (pre:bK ss->Prop) (g:bK ss->r.den) (q:SF) (xs:List Operand)
abbrev aj6(E:Env) (s:St) (f:Nat) (args:List Operand):Option HO:=match E.sf f with
 | none=>none
 | some q=>match Dp args with
   | none=>none
   | some (xs,x)=>match bH E.cx s [] x with
     | some (.one (.c (.abs (.clo P ss r pre g))))=>some (.sf P ss r pre g q xs)
     | _=>none
abbrev aj7(E:Env) (s:St) (f:Nat) (args:List Operand):Option HO:=match E.sq f with
 | none=>aj6 E s f args
 | some q=>match Dp args with
   | none=>none
   | some (xs,x)=>match bH E.cx s [] x with
     | some (.one (.c (.abs (.seq P ss L))))=>match Wv ss q.ss L with
       | some L=>some (.sq P (q.ct L) xs)
       | none=>none
     | _=>none
abbrev agm(E:Env) (s:St) (o:Oper):Option HO:=match o.guard with
 | some _=>none
 | none=>match o.op with
   | .call c=>match c.callee with
     | .value (.func f)=>match Dl (tl c.args) with
       | some (xs,g)=>match E.hc f g with
         | some ct=>some (.hc ct xs)
         | none=>none
       | none=>aj7 E s f (tl c.args)
     | .value (.tmp t)=>match gX s.env t with
       | some ([],.one (.c (.v v)))=>match agl v with
         | some f=>some (.cc f (tl c.args))
         | none=>none
       | some ([],.one (.c (.abs (.clo P ss r pre g))))=>some (.sq P { ps:=ss,pre:=pre,res:=λd=>([],.one (gV r (g d))) } (tl c.args))
       | _=>none
     | _=>none
   | .makeFunc (.func g) fst cap=>match tl fst with
     | []=>some (.mk g (tl cap))
     | _ :: _=>none
   | _=>none
abbrev hoK(E:Env) (s:St) (d:Option Nat) (x:HO) (K:St->Prop):Prop:=match x with
 | .hc c xs=>iP E.cx (λ_=>some c) s [] d 0 xs K
 | .cc f xs=>iP E.cx E.ct s [] d f xs K
 | .sq P c xs=>E.P=some P/\iP E.cx (λ_=>some c) s [] d 0 xs K
 | .sf P ss r pre g q xs=>E.P=some P/\∃pre' g',Ew.clo P ss r pre g=Ew.clo P q.ss q.r pre' g'/\iP E.cx (λ_=>some (q.ct pre' g')) s [] d 0 xs K
 | .mk g cap=>match E.Wq g with
   | none=>False
   | some m=>match NJ s m.ss cap with
     | none=>False
     | some (s',ds)=>m.pre ds/\K (s'.put d [] (.one (.c (.abs (m.f ds)))))
abbrev JW(E:Env) (ops:List Oper) (o:Oper) (s:St) (K:St->Prop):Prop:=match rtP E.cx s o K with
 | some p=>match kU E.n o.dst with
   | false=>False
   | true=>p
 | none=>match agf E.cx s o K with
 | some p=>match kU E.n o.dst with
   | false=>False
   | true=>p
 | none=>match agm E s o with
 | some x=>match kU E.n o.dst with
   | false=>False
   | true=>hoK E s o.dst x K
 | none=>match WA E s o with
 | some ip=>match kU E.n o.dst with
   | false=>False
   | true=>af6 E.cx ip s o.dst (mD o.op) K
 | none=>match agk E s o with
 | none=>match agc E.cx s o K with
   | none=>iI E ops o s K
   | some p=>match kU E.n o.dst with
     | false=>False
     | true=>p
 | some ip=>match kU E.n o.dst with
   | false=>False
   | true=>ipK E.cx ip s o.dst (mD o.op) K
abbrev abw(E:Env) (ops:List Oper):List Oper->St->(St->Prop)->Prop
 | [],s,K=>K s
 | o :: r,s,K=>JW E ops o s λs=>abw E ops r s K
theorem TA{ip:IP} (e:agk E s o=some ip):o.guard=none/\∃c f,o.op=.call c/\c.callee=.value (.func f)/\E.ip f=some ip:=by
 unfold agk at e;split at e
 .cases e
 .rename_i hgd;split at e
  .rename_i c ho;split at e
   .rename_i f bU;split at e
    .cases e
    .rename_i ip' PG;split at e
     .cases e
     .split at e
      .cases e;exact⟨hgd,c,f,ho,bU,PG⟩
      .cases e
   .cases e
  .cases e
theorem NK{ip:IP} (e:WA E s o=some ip):o.guard=none/\∃c f,o.op=.call c/\c.callee=.value (.func f)/\E.ip f=some ip:=by
 unfold WA at e;split at e
 .cases e
 .rename_i hgd;split at e
  .rename_i c ho;split at e
   .rename_i f bU;split at e
    .cases e
    .rename_i ip' PG;split at e
     .cases e
     .split at e
      .cases e;exact⟨hgd,c,f,ho,bU,PG⟩
      .cases e
   .cases e
  .cases e
theorem abx{v:Value}{f:Nat} (h:agl v=some f):v=.func (.func f) #[] #[]:=by
 unfold agl at h;split at h
 .rename_i f' x y;split at h
  .rename_i hx;split at h
   .rename_i hy;cases h;rw[gW hx,gW hy]
   .cases h
  .cases h
 .cases h
theorem agn{s:Sh} (h:s.isAgg=false):s.size=1:=by cases s<;>simp_all[Sh.isAgg,Sh.size]
theorem P7{N:Nat}{B:Base}{h0:FH}{w:World}{a:Act}{β:List RV}:∀{ss:List Sh}{l:List Operand}{s s':St}{h:FH}{ds:bK ss},Sat N B h0 s h β w a->NJ s ss l=some (s',ds) ->
 ∃h',h.le h'/\Sat N B h0 s' h' β w a/\capD h' ss ds (l.map a.eval)
 | [],[],s,s',h,ds,aj,e=>by simp[NJ]at e;subst e;exact⟨h,FH.le.refl h,aj,trivial⟩
 | [],_ :: _,s,s',h,ds,aj,e=>by simp[NJ]at e
 | _ :: _,[],s,s',h,ds,aj,e=>by simp[NJ]at e
 | sh :: ss,x :: l,s,s',h,ds,aj,e=>by
   unfold NJ at e;split at e
   .rename_i t;split at e
    .rename_i i hlk;split at e
     .rename_i r hT;split at e
      .rename_i v hv;split at e
       .rename_i d hd;split at e
        .rename_i s2 ds2 hc;cases e;obtain⟨z,z1,z2,_⟩:=aj.env t [] _ hlk;obtain⟨b,hb,ez⟩:∃b,β[i]?=some (.blk b)/\z=.pointer (some ⟨b,0,none⟩):=(z2 rfl:cZ h β (.c (.own i 0)) z).1;have fG:=bg hT (show gv s.gl []=true from rfl)
         have hold:=aj.ok.holds i r _ fG hb;have hlive:r.live=true:=by cases r<;>first | rfl | (simp[Aw]at hv)
         obtain⟨le1,ok1⟩:=aj.ok.RP fG hlive hb (kE.2 rfl);have iQ:Sat N B h0 { s with T:=dh s.T i ([],.gone) } (h.plus w b) β w a:=aj.mem (by rw[fC];exact ok1) le1 (Ext.refl _) (by
          intro q hq;rw[fM]at hq;rcases GH hq with hq | hq
          .exact aj.gT q hq
          .subst hq;rfl)
         obtain⟨h',gK,bC,cap⟩:=P7 (l:=l) iQ hc;refine⟨h',le1.trans gK,bC,⟨?_,cap⟩⟩;have ev:a.eval (.tmp t)=z:=by simp[Act.eval,z1]
         rw[ev,ez];have at_:∀(ys:List Value) (tt:TypeId),w.heap[b]?=some (.cells ys.toArray tt (0,0))->(∀u∈ys,dD u)->At h' b 0 ys:=by
          intro ys tt hw h1 j u hj;refine gK _ _ _ ?_;unfold FH.plus;rw[if_pos rfl,Eu];exact ny hw (by simpa using hj) (h1 u (iJ hj)).2
         have key:∀(ys:List Value) (tt:TypeId),w.heap[b]?=some (.cells ys.toArray tt (0,0))->(sh.isAgg=true->cZ h β v (.agg ys.toArray))->(sh.isAgg=false->∃y,ys=[y]/\cZ h β v y) ->
          ∃b' cs,(Value.pointer (some ⟨b,0,none⟩))=.pointer (some ⟨b',0,none⟩)/\Rd h' sh cs d/\At h' b' 0 cs:=by
          intro ys tt hw k1 k2;cases hag:sh.isAgg with
          | true=>
            obtain⟨cs,e1,rd⟩:=toDat_ok hd (k1 hag);unfold mkV at e1;rw[if_pos hag]at e1;injection e1 with e1
            have e1:ys=cs:=by simpa using e1
            subst e1;exact⟨b,ys,rfl,(rd.mono le1 _).mono gK _,at_ ys tt hw (Rd.one _ rd)⟩
          | false=>
            obtain⟨y,rfl,c⟩:=k2 hag;obtain⟨cs,e1,rd⟩:=toDat_ok hd c;unfold mkV at e1;rw[if_neg (by rw[hag];simp)]at e1
            have hs:=Rd.size sh rd;rw[agn hag]at hs;obtain⟨u,rfl⟩:=List.length_eq_one_iff.1 hs;have e1:y=u:=e1;subst e1;exact⟨b,[y],rfl,(rd.mono le1 _).mono gK _,at_ [y] tt hw (Rd.one _ rd)⟩
         cases r with
         | obj tt s0 d0=>
           simp only[Aw]at hv;split at hv
           .rename_i hag;rw[ay,A8]at hag;cases hv;obtain⟨ys,e1,rd⟩:=hold;exact key ys tt e1 (λ_=>⟨hag.2,ys,rfl,rd⟩) (λhh=>by rw[hag.1]at hh;cases hh)
           .cases hv
         | blk tt cs=>
           obtain⟨ys,e1,al⟩:=hold;simp only[Aw]at hv;split at hv
           .rename_i hag;cases hv;exact key ys tt e1 (λ_=>⟨ys,rfl,al⟩) (λhh=>by rw[hag]at hh;cases hh)
           .rename_i hag;split at hv
            .rename_i x;cases hv;cases ys with
             | nil=>exact al.elim
             | cons y ys=>
               cases ys with
               | cons _ _=>exact al.2.elim
               | nil=>exact key [y] tt e1 (λhh=>by rw[hag]at hh;cases hh) (λ_=>⟨y,rfl,al.1⟩)
            .cases hv
         | row _ _ _=>simp[Aw]at hv
         | deep _ _ _ _ _ _ _ _=>simp[Aw]at hv
         | mp _ _ _=>simp[Aw]at hv
         | LQ _ _ _ _=>simp[Aw]at hv
         | it _ _ _ _=>simp[Aw]at hv
         | Jj _ _ _ _=>simp[Aw]at hv
         | Fe _ _ _ _=>simp[Aw]at hv
         | gone=>simp[Aw]at hv
        .cases e
       .cases e
      .cases e
     .cases e
    .cases e
   .cases e
theorem agp(ok:fU P E) (aj:Sat E.n B h0 s h β w a) (hg:aI E.cx.gd h){x:HO} (hx:agm E s o=some x) (hd:kU E.n o.dst=true)
 (k:hoK E s o.dst x K):fO P E.n B h0 h w a o (Region.wanted o (yielded ops a.tmps)) K:=by
 unfold agm at hx;split at hx
 .cases hx
 rename_i hgd;rw[show Region.wanted o (yielded ops a.tmps)=gv s.gl [] by simp[Region.wanted,hgd,gv]]
 split at hx
 .rename_i c ho;split at hx
  .rename_i f bU;split at hx
   .rename_i xs g hl;split at hx
    .rename_i ct hct;cases hx;obtain⟨hc,hf⟩:=ok.hc f g ct hct;simp only[hoK]at k;have k':iP E.cx (λf'=>if f'=f then some ct else none) s [] o.dst f xs K:=by
      unfold iP at k ⊢;simpa using k
     exact qW (suf:=[.func (.func g) #[] #[]]) (λf' c' e=>by
      split at e
      .rename_i hff;cases e;rw[hff];exact hc
      .cases e) aj hg rfl hd ho bU (λ_=>rfl) (by
      have:=Dn (a:=a) hl;rw[<-this];cases c.args;simp) hf k'
    .cases hx
   .unfold aj7 at hx;split at hx
    .unfold aj6 at hx;split at hx
     .cases hx
     rename_i q hq;split at hx
     .cases hx
     rename_i xs x hl;split at hx
     .rename_i P' ss r pre g hxe;cases hx;simp only[hoK]at k;obtain⟨eP,pre',g',eA,k⟩:=k;have:=ok.prog _ eP;subst this;obtain⟨hc,hf⟩:=ok.sf f q hq;have k':iP E.cx (λf'=>if f'=f then some (q.ct pre' g') else none) s [] o.dst f xs K:=by
       unfold iP at k ⊢;simpa using k
      rw[eA]at hxe;have Fz:cZ h β (.c (.abs (.clo P' q.ss q.r pre' g'))) (a.eval x):=aK aj hg (show gv s.gl []=true from rfl) hxe
      exact wH (suf:=[a.eval x]) (λc' e d vs h' le hw hg' ha hp=>by
       have e':q.ct pre' g'=c':=by simpa using e
       subst e';exact hc pre' g' d vs [a.eval x] h' w hw hg' ha ⟨⟨(show Ew.rel h' (.clo P' q.ss q.r pre' g') (a.eval x) from Ew.xA le (show Ew.rel h (.clo P' q.ss q.r pre' g') (a.eval x) from Fz.1)),Fz.2⟩,trivial⟩ hp) aj hg rfl hd ho bU (λ_=>rfl) (by
       have:=Dq (a:=a) hl;rw[<-this];cases c.args;simp) hf k'
     .cases hx
    rename_i q hq;split at hx
    .cases hx
    rename_i xs x hl;split at hx
    .rename_i P' ss L hxe;split at hx
     .rename_i L' hL;cases hx;obtain⟨e1,e2⟩:=Wx hL;simp only[hoK]at k;obtain⟨eP,k⟩:=k;have:=ok.prog _ eP;subst this;subst e1;simp only at e2;subst e2;obtain⟨hc,hf⟩:=ok.sq f q hq;have k':iP E.cx (λf'=>if f'=f then some (q.ct L) else none) s [] o.dst f xs K:=by
       unfold iP at k ⊢;simpa using k
      have Fz:cZ h β (.c (.abs (.seq P' q.ss L))) (a.eval x):=aK aj hg (show gv s.gl []=true from rfl) hxe
      exact wH (suf:=[a.eval x]) (λc' e d vs h' le hw hg' ha hp=>by
       have e':q.ct L=c':=by simpa using e
       subst e';exact hc L d vs [a.eval x] h' w hw hg' ha ⟨⟨(show Ew.rel h' (.seq P' q.ss L) (a.eval x) from Ew.xA le (show Ew.rel h (.seq P' q.ss L) (a.eval x) from Fz.1)),Fz.2⟩,trivial⟩ hp) aj hg rfl hd ho bU (λ_=>rfl) (by
       have:=Dq (a:=a) hl;rw[<-this];cases c.args;simp) hf k'
     .cases hx
    .cases hx
  .rename_i t bU;split at hx
   .rename_i v hlk;split at hx
    .rename_i f hfn;cases hx;simp only[hoK]at k;obtain⟨z,z1,z2,_⟩:=aj.env t [] _ hlk;have ez:z=.func (.func f) #[] #[]:=((z2 rfl:cZ h β (.c (.v v)) z).1.1).trans (abx hfn);have hct:∃cc,E.ct f=some cc:=by
      unfold iP at k;cases hh:E.ct f with
      | none=>rw[hh]at k;cases k
      | some cc=>exact⟨cc,rfl⟩
     obtain⟨cc,hct⟩:=hct;exact qW (suf:=[]) (λf' c' e=>(ok.ct f' c' e).1.x) aj hg rfl hd ho bU (λ_=>by simp[Act.eval,z1,ez]) (by cases c.args;simp) (ok.ct f cc hct).2 k
    .cases hx
   .rename_i P' ss r pre g hlk;cases hx;simp only[hoK]at k;obtain⟨eP,k⟩:=k;have:=ok.prog _ eP;subst this;obtain⟨z,z1,z2,_⟩:=aj.env t [] _ hlk;obtain⟨gn,lb,ez,hf,kk⟩:U3 P' h ss r pre g z:=(z2 rfl:cZ h β (.c (.abs (.clo P' ss r pre g))) z).1;have k':iP E.cx (λf'=>if f'=gn then some { ps:=ss,pre:=pre,res:=λd=>([],.one (gV r (g d))) } else none) s [] o.dst gn (tl c.args) K:=by
     unfold iP at k ⊢;simpa using k
    exact CU (lb:=lb) (suf:=lb.toList) (λc' e d vs h' le hw hg' ha hp=>by
     have e':({ ps:=ss,pre:=pre,res:=λd=>([],.one (gV r (g d))) }:CT)=c':=by simpa using e
     subst e';rw[show(vs++lb.toList).toArray=vs.toArray++lb by simp]
     refine(kk d vs h' w le hw (CQ ha) hp).mono ?_;rintro en w' ⟨v,rfl,⟨cs,rfl,rd⟩,bel,dr⟩;refine⟨h',[],_,rfl,⟨⟨bel.os,bel.tape,bel.output,bel.size,λk hk ha=>bel.block k hk⟩,dr,rfl,λi r v e _=>by simp at e,λi r v b e _ _ _=>by simp at e,λi j r r' u v b e _ _ _ _ _ _ _=>by simp at e,FH.le.refl h',λb o v hh=>(jy (bel.block b (nD (hw b o v hh)))).trans (hw b o v hh),λb o v hh=>.inl hh,λk o hh=>hh.elim⟩,jm r (rd.mono (λ_ _ _ e=>by cases e) r)⟩) aj hg rfl hd ho bU (λ_=>by simp[Act.eval,z1,ez]) (by cases c.args;simp) hf k'
   .cases hx
  .cases hx
 .rename_i g fst cap ho;split at hx
  .rename_i amc;cases hx;simp only[hoK]at k;split at k
   .cases k
   rename_i m hm;split at k
   .cases k
   rename_i s' ds hcap;obtain⟨h',le,aP,jo⟩:=P7 aj hcap;obtain⟨hmp,k⟩:=k;have rel:=ok.Wq g m hm ds h' _ hmp (hg.mono le) jo;intro Nx Q next
   rw[if_pos rfl];refine jI (v:=.func (.func g) #[] ((tl cap).map a.eval).toArray) ?_ (next _ _ _ _ _ k le (λ_=>lX.refl w) (aP.put (dI hd) rfl (λ_=>⟨rel,Ew.aaT rel⟩) λhh=>by cases hh))
   simp only[execOp,ho,Instr.makeFunc,Sem.run_bind,Sem.run_pure,Result.andThen_ok];rw[gW amc];have:cap.map a.eval=((tl cap).map a.eval).toArray:=by cases cap;simp
   rw[this];simp
  .cases hx
 .cases hx
theorem Dt(ok:fU P E) (aj:Sat E.n B h0 s h β w a) (hg:aI E.cx.gd h)
 (k:JW E (tl ops) o s K):Af P E.n B h0 h w a o (Region.wanted o (yielded ops a.tmps)) K:=by
 unfold JW at k;split at k
 .rename_i p hp;split at k
  .cases k
  .rename_i hd;exact(V7 ok.ti aj hg hd hp k).weak
 split at k
 .rename_i p hp;split at k
  .cases k
  .rename_i hd;obtain⟨hgd,st⟩:=abu ok.ti aj hg hd hp k;rw[show Region.wanted o (yielded ops a.tmps)=true by simp[Region.wanted,hgd]]
   exact st
 split at k
 .rename_i x hx;split at k
  .cases k
  .rename_i hd;exact(agp ok aj hg hx hd k).weak
 split at k
 .rename_i ip PG;obtain⟨hgd,c,f,ho,bU,hf⟩:=NK PG;split at k
  .cases k
  .rename_i hd;rw[show Region.wanted o (yielded ops a.tmps)=true by simp[Region.wanted,hgd]]
   rw[show mD o.op=tl c.args by simp only[mD,ho]]at k
   exact VT (ok.ip f ip hf).1 (ok.ip f ip hf).2 aj hg hd ho bU k
 split at k
 .split at k
  .exact(qo ok aj hg k).weak
  .rename_i p hp;split at k
   .cases k
   .rename_i hd;exact abo ok.ti aj hg hd hp k
 .rename_i ip PG;obtain⟨hgd,c,f,ho,bU,hf⟩:=TA PG;split at k
  .cases k
  .rename_i hd;rw[show Region.wanted o (yielded ops a.tmps)=true by simp[Region.wanted,hgd]]
   rw[show mD o.op=tl c.args by simp only[mD,ho]]at k
   exact abd (ok.ip f ip hf).1 (ok.ip f ip hf).2 aj hg hd ho bU k
theorem Ia{P:Program}{E:Env} (ok:fU P E){B:Base}{h0:FH} (hg:aI E.cx.gd h0){ops:Array Oper}{R:Act->World->Prop}{K:St->Prop}:∀(l:List Oper){s:St}{h:FH}{β:List RV}{w:World}{a:Act},Sat E.n B h0 s h β w a ->
 abw E (tl ops) l s K->(∀s' h' β' w' a',K s'->h.le h'->Sat E.n B h0 s' h' β' w' a'->Same (jq l) a a'->R a' w')->wpL P ops R l a w
 | [],s,h,β,w,a,aj,k,next=>next _ _ _ _ _ k (FH.le.refl h) aj (Same.refl _ _)
 | o :: r,s,h,β,w,a,aj,k,next=>by
   have:=Dt ok aj (hg.mono aj.ok.hle) k (wpL P ops R r) Hf λs' h' β' w' v k' le aP=>Ia ok hg r aP k' λs2 h2 β2 w2 a2 k2 gK bC sm=>next s2 h2 β2 w2 a2 k2 (le.trans gK) bC sm.put
   unfold wpL;split
   .rename_i hw;rw[if_pos hw]at this;exact this
   .rename_i hw;rw[if_neg hw]at this;exact this
def WB(ops:Array Oper) (listed:Array Bool) (i:Nat):List Nat:=
 (List.range ops.size).foldl (λacc j=>if j != i && !listed.getD j true && (match ops[j]? with | some o=>o.after.any (λe=>Region.binds .any e && (e.on == i || acc.contains e.on)) | none=>false) then j :: acc else acc) []
def NM(ops:Array Oper) (listed:Array Bool) (i:Nat) (bl:List Nat):Bool:=
 (bl.all λj=>!listed.getD j true && (match ops[j]? with | some o=>o.after.any (λe=>Region.binds .any e && (e.on == i || bl.contains e.on)) | none=>false)) &&
 ((List.range ops.size).all λj=>j == i || listed.getD j true || wJ ops j || bl.contains j)
theorem Ag{listed:Array Bool}{bl:List Nat} (h:NM ops listed i bl=true):
 Waits .any ops listed i bl/\∀j,j≠i->listed.getD j true=false->wJ ops j=false->j∈bl:=by
 simp only[NM,A8,UH]at h;refine⟨λj hj=>?_,λj hji hun hs=>?_⟩
 .have h1:=h.1 j hj;simp only[UF]at h1;refine⟨h1.1,?_⟩;cases ho:ops[j]? with
  | none=>rw[ho]at h1;exact absurd h1.2 (by simp)
  | some o=>
    rw[ho]at h1;obtain⟨e,he,hb⟩:=Array.any_eq_true'.1 h1.2;simp only[A8,Fb,Aa,aaK]at hb;exact⟨o,rfl,e,he,hb.1,hb.2⟩
 .rcases UU j ops.size with iV | hge
  .have h2:=h.2 j (aaR.2 iV);simp only[Fb,Aa,hji,hun,hs,aaK,aaN,false_or]at h2;exact h2
  .have:ops[j]?=none:=aaI hge;simp[wJ,this]at hs
inductive DT where
 | done
 | fl (i:Nat) (t:DT)
 | op (i:Nat) (t:DT)
 | alt (i:Nat) (t m:DT)
inductive OT where
 | done
 | op (o:Oper) (t:OT)
 | alt (o:Oper) (t m:OT)
def DT.alts:DT->List Nat
 | .op i _=>[i]
 | .alt i _ m=>i :: m.alts
 | _=>[]
def Bj(ops:Array Oper) (listed:Array Bool) (i:Nat):Bool:=match ops[i]? with
 | some o=>jB o.op && Region.free .any ops listed i && (Region.ready .any ops listed).contains i && (!isLoad o.op || NM ops listed i (WB ops listed i))
 | none=>false
def jK(ops:Array Oper):DT->Bool->Nat->Array Bool->Bool
 | .done,top,n,listed=>top && n == 0 && (Region.ready .any ops listed).isEmpty
 | .fl i t,top,n,listed=>top && n != 0 && Bj ops listed i && jK ops t true (n - 1) (listed.setIfInBounds i true)
 | .op i t,top,n,listed=>(!top || Region.ready .any ops listed == [i]) && n != 0 && (ops[i]?).isSome && jK ops t true (n - 1) (listed.setIfInBounds i true)
 | .alt i t m,top,n,listed=>(!top || Region.ready .any ops listed == i :: m.alts) && n != 0 && (ops[i]?).isSome && jK ops t true (n - 1) (listed.setIfInBounds i true) && jK ops m false n listed
def goT(g:Nat->DT):List Nat->DT
 | []=>.done
 | [i]=>.op i (g i)
 | i :: r=>.alt i (g i) (goT g r)
def TB(ops:Array Oper):Nat->Array Bool->DT
 | 0,_=>.done
 | f+1,listed=>
   let rs:=Region.ready .any ops listed
   match rs.find? (λi=>Bj ops listed i) with
   | some i=>.fl i (TB ops f (listed.setIfInBounds i true))
   | none=>goT (λi=>TB ops f (listed.setIfInBounds i true)) rs
def Bl(ops:Array Oper):DT->OT
 | .done=>.done
 | .fl i t=>match ops[i]? with
   | some o=>.op o (Bl ops t)
   | none=>.done
 | .op i t=>match ops[i]? with
   | some o=>.op o (Bl ops t)
   | none=>.done
 | .alt i t m=>match ops[i]? with
   | some o=>.alt o (Bl ops t) (Bl ops m)
   | none=>.done
def ofL:List Oper->OT
 | []=>.done
 | o :: l=>.op o (ofL l)
abbrev qp(E:Env) (ops:List Oper):OT->St->(St->Prop)->Prop
 | .done,s,K=>K s
 | .op o t,s,K=>iI E ops o s λs=>qp E ops t s K
 | .alt o t m,s,K=>(iI E ops o s λs=>qp E ops t s K)/\qp E ops m s K
theorem JX{E:Env}{ops:List Oper}{K:St->Prop}:∀(l:List Oper),(λs=>qp E ops (ofL l) s K)=λs=>Wy E ops l s K
 | []=>rfl
 | o :: l=>by
   funext s
   show iI E ops o s (λs=>qp E ops (ofL l) s K)=iI E ops o s λs=>Wy E ops l s K
   rw[JX l]
theorem TF{ops:List Oper} (l:List Oper) (h:qp E ops (ofL l) s K):Wy E ops l s K:=by
 have:=congrFun (JX (E:=E) (ops:=ops) (K:=K) l) s;rw[<-this];exact h
def isPure(o:Oper):Bool:=match o.op with
 | .alloc _ | .box .. | .buildSlice .. | .makeSlice .. | .store ..=>false
 | .call c=>(match c.callee with | .value (.func _)=>false | .builtin .append=>false | .builtin .copy=>false | .builtin .min=>false | .builtin .max=>false | _=>true)
 | _=>true
def uY(ops:Array Oper):Option OT:=
 if ops.all isPure && Region.lexB .any ops then some (ofL ops.toList)
 else
  let t:=TB ops ops.size (Array.replicate ops.size false)
  if Region.noSelect ops && jK ops t true ops.size (Array.replicate ops.size false) then some (Bl ops t) else none
section
variable {P:Program}{E:Env}{B:Base}{h0:FH}{s:St}{h:FH}{β:List RV}{w:World}{a:Act}{o:Oper}{ops:Array Oper}{K:St->Prop}
theorem JY{L:List Nat}{l:List Oper}{g:Option (Nat×Bool)}{K K':Gd->St->Prop} (hk:∀G s,K G s->K' G s) (h:sV L s l g K):sV L s l g K':=by
 unfold sV at *;split at h
 .exact hk _ _ h
 .split at h
  .cases h
  .split at h
   .split at h
    .split at h
     .split at h
      .exact hk _ _ h
      .cases h
     .split at h
      .cases h
      .exact hk _ _ h
    .cases h
   .split at h
    .split at h
     .exact hk _ _ h
     .exact hk _ _ h
    .cases h
theorem Du(hp:isPure o=true) (k:iI E (tl ops) o s K):kU E.n o.dst=true/\sV E.lits s (tl ops) o.guard λG s=>mG E.cx s G o λe=>K (s.put o.dst G e):=by
 unfold iI at k;rw[V3 (λt n ps ho=>by simp[isPure,ho]at hp) (λc ho bU=>by simp[isPure,ho,bU]at hp)]at k
 simp only at k;unfold H9 at k;split at k
 .cases k
 rename_i hd;refine⟨hd,?_⟩;have key:∀G s,(match o.op with
  | .alloc t=>G6 E.cx s G o.dst t K
  | .box t x=>aa3 E.cx s G o.dst t x K
  | .buildSlice t n ps=>lT E.cx (l9 s (agj E s G (tl ps))) G o.dst t n (tl ps) K
  | .makeSlice t l c=>Pq E.cx s G o.dst t l c K
  | .store t p x=>match G with
    | []=>match abk E.cx s o.dst t p x K with
      | some q=>q
      | none=>G7 E.cx (l9 s (Wu E s p x)) o.dst t p x K
    | _ :: _=>False
  | .call c=>match c.callee with
    | .value (.func f)=>match hcL E f (tl c.args) with
      | some (ct,xs)=>iP E.cx (λ_=>some ct) s G o.dst f xs K
      | none=>iP E.cx E.ct (l9 s (Ws E s G f (tl c.args))) G o.dst f (tl c.args) K
    | .builtin .append=>match G with
      | []=>match tl c.args with
        | [x,y]=>match tl c.argTypes with
          | [t,t']=>match Nat.beq t t' with
            | true=>match PV s x λs=>uQ E.cx s o.dst t x y K with
              | some q=>q
              | none=>uQ E.cx s o.dst t x y K
            | false=>False
          | _=>False
        | _=>False
      | _ :: _=>False
    | .builtin .copy=>match G with
      | []=>match tl c.args with
        | [x,y]=>match tl c.argTypes with
          | [t,_]=>PW E.cx s o.dst t x y K
          | _=>False
        | _=>False
      | _ :: _=>False
    | .builtin .min=>match G with
      | []=>match tl c.args with
        | [x,y]=>abn E.cx s o.dst x y K
        | _=>False
      | _ :: _=>False
    | .builtin .max=>match G with
      | []=>match tl c.args with
        | [x,y]=>Nj E.cx s o.dst x y K
        | _=>False
      | _ :: _=>False
    | _=>mG E.cx s G o λe=>K (s.put o.dst G e)
  | _=>mG E.cx s G o λe=>K (s.put o.dst G e))->mG E.cx s G o λe=>K (s.put o.dst G e):=by
  intro G s k;split at k
  .rename_i ho;simp[isPure,ho]at hp
  .rename_i ho;simp[isPure,ho]at hp
  .rename_i ho;simp[isPure,ho]at hp
  .rename_i ho;simp[isPure,ho]at hp
  .rename_i ho;simp[isPure,ho]at hp
  .rename_i c ho;split at k
   .rename_i hc;simp[isPure,ho,hc]at hp
   .rename_i hc;simp[isPure,ho,hc]at hp
   .rename_i hc;simp[isPure,ho,hc]at hp
   .rename_i hc;simp[isPure,ho,hc]at hp
   .rename_i hc;simp[isPure,ho,hc]at hp
   .exact k
  .exact k
 exact JY key k
theorem WC{x:Callee} (h:(match x with | .builtin .len=>true | _=>false)=true):x=.builtin .len:=by
 split at h
 .rfl
 .cases h
theorem NP(hf:jB o.op=true):isPure o=true:=by
 cases ho:o.op with
 | call c=>
   rw[ho]at hf;have:c.callee=.builtin .len:=WC hf;simp[isPure,ho,this]
 | _=>
   rw[ho]at hf
   first
    | (simp[isPure,ho];done)
    | (simp[jB,lN]at hf;done)
theorem tK{x:Op} (hf:jB x=true):quietly x=true:=by
 cases x with
 | call c=>
   have:c.callee=.builtin .len:=WC hf;simp[quietly,this]
 | _=>
   first
    | rfl
    | (simp[jB,lN]at hf;done)
theorem wM(ok:fU P E) (aj:Sat E.n B h0 s h β w a) (hg:aI E.cx.gd h) (hf:jB o.op=true) (k:iI E (tl ops) o s K):
 ∃v s',YI P ops (isLoad o.op) w o v a/\K s'/\Sat E.n B h0 s' h β w (a.put o.dst v):=by
 obtain⟨hd,k⟩:=Du (NP hf) k;obtain⟨G,s',k,aP,hw,hG⟩:=uP aj k;obtain⟨e,k1,k2⟩:=Sr ok.ti aP hg hf k;cases hgv:gv s'.gl G with
 | true=>
   obtain⟨v,r,c⟩:=k2 hgv;refine⟨v,_,.inl ⟨by rw[hw];exact hgv,λw' hg'=>?_⟩,k1,aP.put (dI hd) hG (λ_=>c) λhh=>by rw[hgv]at hh;cases hh⟩
   exact r w' hg'
 | false=>
   exact⟨undef,_,.inr ⟨by rw[hw];exact hgv,rfl⟩,k1,aP.put (dI hd) hG (λhh=>by rw[hgv]at hh;cases hh) λ_=>rfl⟩
theorem still_step(ok:fU P E) (aj:Sat E.n B h0 s h β w a) (hg:aI E.cx.gd h) (hp:isPure o=true) (k:iI E (tl ops) o s K){Nx:Act->Prop}
 (next:∀v s',K s'->Sat E.n B h0 s' h β w (a.put o.dst v)->Nx (a.put o.dst v)):if Region.wanted o (yielded ops a.tmps) then o.still P a w Nx else Nx (a.put o.dst undef):=by
 obtain⟨hd,k⟩:=Du hp k;obtain⟨G,s',k,aP,hw,hG⟩:=uP aj k;obtain⟨e,k1,k2⟩:=CB ok.ti aP hg k;rw[hw];cases hgv:gv s'.gl G with
 | true=>
   obtain⟨v,r,c⟩:=k2 hgv;rw[if_pos rfl];unfold Oper.still;rw[r,Oper.stillUpon_value];exact next _ _ k1 (aP.put (dI hd) hG (λ_=>c) λhh=>by rw[hgv]at hh;cases hh)
 | false=>
   rw[if_neg (by simp)]
   exact next _ _ k1 (aP.put (dI hd) hG (λhh=>by rw[hgv]at hh;cases hh) λ_=>rfl)
theorem JZ(ok:fU P E) (hg:aI E.cx.gd h0){R:Act->Prop}:∀(l:List Oper){s:St}{a:Act},l.all isPure=true->Sat E.n B h0 s h β w a->Wy E (tl ops) l s K ->
 (∀s' a',K s'->Sat E.n B h0 s' h β w a'->Same (jq l) a a'->R a')->wpStill P ops w R l a
 | [],s,a,_,aj,k,next=>next _ _ k aj (Same.refl _ _)
 | o :: r,s,a,hp,aj,k,next=>by
   simp only[List.all_cons,A8]at hp;exact still_step ok aj (hg.mono aj.ok.hle) hp.1 k λv s' k' aP=>JZ ok hg r hp.2 aP k' λs2 a2 k2 bC sm=>next s2 a2 k2 bC sm.put
abbrev zB(cx:Cx):List Oper->Bool
 | []=>false
 | o :: l=>match o.op with
   | .call c=>match c.callee with
     | .builtin .len=>match tl c.argTypes with
       | [t]=>match V9 cx t with
         | true=>true
         | false=>zB cx l
       | _=>zB cx l
     | _=>zB cx l
   | .lookup _ _ _ _=>true
   | _=>zB cx l
abbrev stepM(E:Env) (ops:List Oper) (o:Oper) (s:St) (K:St->Prop):Prop:=match o.guard with
 | some _=>iI E ops o s K
 | none=>match H7 E.cx s o.op λe=>K (s.put o.dst [] e) with
   | some p=>match kU E.n o.dst with
     | false=>False
     | true=>p
   | none=>iI E ops o s K
abbrev TG(E:Env) (ops:List Oper):List Oper->St->(St->Prop)->Prop
 | [],s,K=>K s
 | o :: r,s,K=>stepM E ops o s λs=>TG E ops r s K
theorem zC(ok:fU P E) (hg:aI E.cx.gd h0){R:Act->Prop}:∀(l:List Oper){s:St}{a:Act},l.all isPure=true->Sat E.n B h0 s h β w a->TG E (tl ops) l s K ->
 (∀s' a',K s'->Sat E.n B h0 s' h β w a'->Same (jq l) a a'->R a')->wpStill P ops w R l a
 | [],s,a,_,aj,k,next=>next _ _ k aj (Same.refl _ _)
 | o :: r,s,a,hp,aj,k,next=>by
   simp only[List.all_cons,A8]at hp;have old:iI E (tl ops) o s (λs=>TG E (tl ops) r s K)->wpStill P ops w R (o :: r) a:=λk=>
    still_step ok aj (hg.mono aj.ok.hle) hp.1 k λv s' k' aP=>zC ok hg r hp.2 aP k' λs2 a2 k2 bC sm=>next s2 a2 k2 bC sm.put
   simp only[TG,stepM]at k;split at k
   .exact old k
   .rename_i hgd;split at k
    .rename_i p hp';split at k
     .cases k
     .rename_i hd;obtain⟨e,v,k1,run,c⟩:=JU ok.ti aj (hg.mono aj.ok.hle) hp' k;unfold wpStill;rw[if_pos (by simp[Region.wanted,hgd])]
      unfold Oper.still;rw[run,Oper.stillUpon_value];exact zC ok hg r hp.2 (aj.put (dI hd) rfl (λ_=>c) λhh=>by cases hh) k1 λs2 a2 k2 bC sm=>next s2 a2 k2 bC sm.put
    .exact old k
def aby(ops:Array Oper):Bool:=ops.all isPure && Region.lexB .any ops
theorem tN{t:Nat}:∀{l:List Oper},iD t (jq l)=true↔∃o∈l,o.dst=some t
 | []=>by simp[jq,iD]
 | o :: l=>by
   cases hd:o.dst with
   | none=>
     have e:jq (o :: l)=jq l:=by simp only[jq,hd]
     rw[e,tN];simp[hd]
   | some d=>
     have e:jq (o :: l)=d :: jq l:=by simp only[jq,hd]
     rw[e,iW,Fb,tN];constructor
     .rintro(h | ⟨o',h1,h2⟩)
      .exact⟨o,by simp,by rw[hd,gJ h]⟩
      .exact⟨o',by simp[h1],h2⟩
     .rintro⟨o',h1,h2⟩;rcases mF.1 h1 with rfl | h1
      .rw[hd]at h2;cases h2;exact .inl (Nat.beq_refl _)
      .exact .inr ⟨o',h1,h2⟩
theorem Same.sub{l m:List Oper} (hs:∀o∈l,o∈m) (x:Same (jq l) a b):Same (jq m) a b:=λt h=>x t (by
 cases hh:iD t (jq l) with
 | false=>rfl
 | true=>
   obtain⟨o,h1,h2⟩:=tN.1 hh;rw[tN.2 ⟨o,hs o h1,h2⟩]at h;cases h)
theorem Same.put_mem{ol:List Oper} (ho:o∈ol){v:Value} (x:Same (jq ol) (a.put o.dst v) b):Same (jq ol) a b:=by
 intro t h;rw[x t h];cases hd:o.dst with
 | none=>rfl
 | some d=>
   have hne:d≠t:=by
    rintro rfl;rw[tN.2 ⟨o,ho,hd⟩]at h;cases h
   simp[Act.put,afu hne]
theorem yB(ok:fU P E) (hg:aI E.cx.gd h0) (hs:Region.noSelect ops=true){R:Act->World->Prop}:∀(t:DT){n:Nat}{listed:Array Bool}{s:St}{h:FH}{β:List RV}{w:World}{a:Act},
 Sat E.n B h0 s h β w a->qp E (tl ops) (Bl ops t) s K->(∀s' h' β' w' a',K s'->h.le h'->Sat E.n B h0 s' h' β' w' a'->Same (jq ops.toList) a a'->R a' w') ->
 (jK ops t true n listed=true->anyI P .any ops (wJ ops) R n listed a w) /\
 (jK ops t false n listed=true->∀i∈t.alts,y7 P ops i (λa' w'=>(wJ ops i=true->lX w w')/\anyI P .any ops (wJ ops) R (n - 1) (listed.setIfInBounds i true) a' w') a w)
 | .done,n,listed,s,h,β,w,a,aj,k,next=>by
   refine⟨λhc=>?_,λhc=>by simp[jK]at hc⟩
   simp only[jK,OZ,A8,Aa]at hc;obtain⟨rfl,he⟩:=hc;exact⟨by simpa using he,next _ _ _ _ _ k (FH.le.refl h) aj (Same.refl _ _)⟩
 | .fl i t,n,listed,s,h,β,w,a,aj,k,next=>by
   refine⟨λhc=>?_,λhc=>by simp[jK]at hc⟩
   simp only[jK,OZ,A8,Jh,ne_eq]at hc;obtain⟨⟨hn,hb⟩,hc⟩:=hc;obtain⟨n,rfl⟩:∃m,n=m+1:=⟨n - 1,by omega⟩
   unfold Bj at hb;cases hi:ops[i]? with
   | none=>rw[hi]at hb;simp at hb
   | some o=>
     rw[hi]at hb;simp only[A8]at hb;simp only[Bl,hi,qp]at k;have kJ:o∈ops.toList:=iJ (i:=i) (by simpa using hi)
     obtain⟨⟨⟨hf,hfree⟩,hr⟩,hl⟩:=hb;obtain⟨v,s',hy,k',aP⟩:=wM ok aj (hg.mono aj.ok.hle) hf k;have hq:wJ ops i=true:=by
      simp only[wJ,hi];exact tK hf
     refine CV (bl:=WB ops listed i) hi (Region.noSelect_spec hs) hq n listed a w (Region.free_spec hi hfree) (λe=>?_) (by simpa using hr) hy (λ_=>lX.refl w)
      ((yB ok hg hs t aP k' λs2 h2 β2 w2 a2 k2 gK bC sm=>next s2 h2 β2 w2 a2 k2 gK bC (sm.put_mem kJ)).1 hc)
     rw[e]at hl;exact Ag (by simpa using hl)
 | .op i t,n,listed,s,h,β,w,a,aj,k,next=>by
   have key:n≠0->(ops[i]?).isSome=true->jK ops t true (n - 1) (listed.setIfInBounds i true)=true->y7 P ops i (λa' w'=>(wJ ops i=true->lX w w')/\anyI P .any ops (wJ ops) R (n - 1) (listed.setIfInBounds i true) a' w') a w:=by
    intro hn hi hc;obtain⟨o,hi⟩:=A82.1 hi;have kJ:o∈ops.toList:=iJ (i:=i) (by simpa using hi)
    simp only[Bl,hi,qp]at k;unfold y7;simp only[hi];refine qo ok aj (hg.mono aj.ok.hle) k _ Hf λs' h' β' w' v k' le zq aP=>⟨λe=>zq (by simpa[wJ,hi]using e),?_⟩
    exact(yB ok hg hs t aP k' λs2 h2 β2 w2 a2 k2 gK bC sm=>next s2 h2 β2 w2 a2 k2 (le.trans gK) bC (sm.put_mem kJ)).1 hc
   refine⟨λhc=>?_,λhc j hj=>?_⟩
   .simp only[jK,Rz,RD,A8,Jh,ne_eq,Aa]at hc;obtain⟨⟨⟨hr,hn⟩,hi⟩,hc⟩:=hc;obtain⟨m,rfl⟩:∃m,n=m+1:=⟨n - 1,by omega⟩
    refine⟨λh0=>by rw[hr]at h0;simp at h0,λj hj=>?_⟩
    rw[hr]at hj;simp at hj;subst hj;exact key hn hi hc
   .simp only[jK,Ry,RG,OZ,A8,Jh,ne_eq]at hc;simp only[DT.alts,A76]at hj;subst hj;exact key hc.1.1 hc.1.2 hc.2
 | .alt i t m,n,listed,s,h,β,w,a,aj,k,next=>by
   have key:n≠0->(ops[i]?).isSome=true->jK ops t true (n - 1) (listed.setIfInBounds i true)=true->jK ops m false n listed=true ->
    ∀j∈i :: m.alts,y7 P ops j (λa' w'=>(wJ ops j=true->lX w w')/\anyI P .any ops (wJ ops) R (n - 1) (listed.setIfInBounds j true) a' w') a w:=by
    intro hn hi hc hm j hj;obtain⟨o,hi⟩:=A82.1 hi;have kJ:o∈ops.toList:=iJ (i:=i) (by simpa using hi)
    simp only[Bl,hi,qp]at k;rcases mF.1 hj with rfl | hj
    .unfold y7;simp only[hi];refine qo ok aj (hg.mono aj.ok.hle) k.1 _ Hf λs' h' β' w' v k' le zq aP=>⟨λe=>zq (by simpa[wJ,hi]using e),?_⟩
     exact(yB ok hg hs t aP k' λs2 h2 β2 w2 a2 k2 gK bC sm=>next s2 h2 β2 w2 a2 k2 (le.trans gK) bC (sm.put_mem kJ)).1 hc
    .exact(yB ok hg hs m aj k.2 next).2 hm j hj
   refine⟨λhc=>?_,λhc j hj=>?_⟩
   .simp only[jK,Rz,RD,A8,Jh,ne_eq,Aa]at hc;obtain⟨⟨⟨⟨hr,hn⟩,hi⟩,hc⟩,hm⟩:=hc;obtain⟨q,rfl⟩:∃m,n=m+1:=⟨n - 1,by omega⟩
    refine⟨λh0=>by rw[hr]at h0;simp at h0,λj hj=>?_⟩
    rw[hr]at hj;exact key hn hi hc hm j hj
   .simp only[jK,Ry,RG,OZ,A8,Jh,ne_eq]at hc;exact key hc.1.1.1 hc.1.1.2 hc.1.2 hc.2 j hj
theorem Sat.drawn(aj:Sat E.n B h0 s h β w a) (n:Nat) (hn:w.drawn<=n):Sat E.n B h0 s h β { w with drawn:=n } a where
 ok:=⟨⟨aj.ok.below.os,aj.ok.below.tape,aj.ok.below.output,aj.ok.below.size,aj.ok.below.block⟩,pI aj.ok.dr hn,aj.ok.len,λi r v h1 h2=>by
  have:=aj.ok.holds i r v h1 h2;cases r<;>cases v<;>exact this,aj.ok.own,aj.ok.inj,aj.ok.hle,aj.ok.hw,aj.ok.hg,aj.ok.kn⟩
 env:=aj.env
 gs:=aj.gs
 defers:=aj.defers
 sz:=aj.sz
 gb:=aj.gb
 gT:=aj.gT
theorem P8(ok:fU P E) (hg:aI E.cx.gd h0){id:Nat}{ol:OT} (ho:uY ops=some ol) (aj:Sat E.n B h0 s h β w a) (k:qp E (tl ops) ol s K){F:Fence} (hF:Wd F) (hn:Bg ops.toList=true)
 (next:∀s' h' β' w' a',K s'->h.le h'->Sat E.n B h0 s' h' β' w' a'->Same (jq (tl ops)) a a'->Q .normal a' w'):(Code.region id ops true).wpIn F n P Q a w:=by
 unfold uY at ho;have et:tl ops=ops.toList:=by cases ops;rfl
 split at ho
 .rename_i hp;cases ho;simp only[A8]at hp;refine yA hF hn ok.mixed hp.2 (JZ ok hg ops.toList (by simpa using hp.1) (aj.drawn _ (Rq _)) (TF _ k) λs' a' k' aP sm=>next _ _ _ _ _ k' (FH.le.refl h) aP (by rw[et];exact sm))
 .simp only at ho;split at ho
  .rename_i hp;cases ho;simp only[A8,Aa]at hp;refine wpIn_region_any ok.mixed (HY (sf:=wJ ops) (R:=λa w=>Q .normal a w) hF hn (λ_ _ hh=>hh) _ _ _ _ ?_)
   exact(yB ok hg hp.1 (R:=λa w=>Q .normal a w) (TB ops ops.size (Array.replicate ops.size false)) (aj.drawn (w.drawn+1) (Rq _)) k λs' h' β' w' a' k' le aP sm=>next _ _ _ _ _ k' le aP (by rw[et];exact sm)).1 hp.2
  .cases ho
end
section
variable {P:Program}{E:Env}{B:Base}{h0:FH}{s:St}{h:FH}{β:List RV}{w:World}{a:Act}{o:Oper}{ops:Array Oper}{K:St->Prop}
theorem WE(ok:fU P E) (hg:aI E.cx.gd h0){id:Nat} (ho:aby ops=true) (aj:Sat E.n B h0 s h β w a) (k:TG E (tl ops) (tl ops) s K){F:Fence} (hF:Wd F) (hn:Bg ops.toList=true)
 (next:∀s' h' β' w' a',K s'->h.le h'->Sat E.n B h0 s' h' β' w' a'->Same (jq (tl ops)) a a'->Q .normal a' w'):(Code.region id ops true).wpIn F n P Q a w:=by
 unfold aby at ho;have et:tl ops=ops.toList:=by cases ops;rfl
 simp only[A8]at ho;rw[et]at next
 refine yA hF hn ok.mixed ho.2 (zC ok hg ops.toList (by simpa using ho.1) (aj.drawn _ (Rq _)) (by rw[et]at k ⊢;exact k) λs' a' k' aP sm=>next _ _ _ _ _ k' (FH.le.refl h) aP sm)
end
abbrev abz:Op->Bool
 | .call _=>true
 | _=>false
def zD:Op->Bool
 | .call c=>(match c.callee with
   | .builtin .len=>true
   | _=>false)
 | o=>quietly o
def J3(ops:Array Oper) (i:Nat):Bool:=match ops[i]? with
 | some o=>zD o.op
 | none=>true
def NQ(ops:Array Oper) (listed:Array Bool) (i:Nat) (bl:List Nat):Bool:=
 (bl.all λj=>!listed.getD j true && (match ops[j]? with | some o=>o.after.any (λe=>Region.binds .any e && (e.on == i || bl.contains e.on)) | none=>false)) &&
 ((List.range ops.size).all λj=>j == i || listed.getD j true || J3 ops j || bl.contains j)
theorem J4{listed:Array Bool}{bl:List Nat} (h:NQ ops listed i bl=true):
 Waits .any ops listed i bl/\∀j,j≠i->listed.getD j true=false->J3 ops j=false->j∈bl:=by
 simp only[NQ,A8,UH]at h;refine⟨λj hj=>?_,λj hji hun hs=>?_⟩
 .have h1:=h.1 j hj;simp only[UF]at h1;refine⟨h1.1,?_⟩;cases ho:ops[j]? with
  | none=>rw[ho]at h1;exact absurd h1.2 (by simp)
  | some o=>
    rw[ho]at h1;obtain⟨e,he,hb⟩:=Array.any_eq_true'.1 h1.2;simp only[A8,Fb,Aa,aaK]at hb;exact⟨o,rfl,e,he,hb.1,hb.2⟩
 .rcases UU j ops.size with iV | hge
  .have h2:=h.2 j (aaR.2 iV);simp only[Fb,Aa,hji,hun,hs,aaK,aaN,false_or]at h2;exact h2
  .have:ops[j]?=none:=aaI hge;simp[J3,this]at hs
def Ib(ops:Array Oper) (listed:Array Bool) (i:Nat):Bool:=match ops[i]? with
 | some o=>jB o.op && Region.free .any ops listed i && (Region.ready .any ops listed).contains i && (!isLoad o.op || NQ ops listed i (WB ops listed i))
 | none=>false
def sD(ops:Array Oper):DT->Bool->Nat->Array Bool->Bool
 | .done,top,n,listed=>top && n == 0 && (Region.ready .any ops listed).isEmpty
 | .fl i t,top,n,listed=>top && n != 0 && Ib ops listed i && sD ops t true (n - 1) (listed.setIfInBounds i true)
 | .op i t,top,n,listed=>(!top || Region.ready .any ops listed == [i]) && n != 0 && (ops[i]?).isSome && sD ops t true (n - 1) (listed.setIfInBounds i true)
 | .alt i t m,top,n,listed=>(!top || Region.ready .any ops listed == i :: m.alts) && n != 0 && (ops[i]?).isSome && sD ops t true (n - 1) (listed.setIfInBounds i true) && sD ops m false n listed
def P9(ops:Array Oper):Nat->Array Bool->DT
 | 0,_=>.done
 | f+1,listed=>
   let rs:=Region.ready .any ops listed
   match rs.find? (λi=>Ib ops listed i) with
   | some i=>.fl i (P9 ops f (listed.setIfInBounds i true))
   | none=>goT (λi=>P9 ops f (listed.setIfInBounds i true)) rs
def yC(ops:Array Oper):Option OT:=
 let t:=P9 ops ops.size (Array.replicate ops.size false)
 if Region.noSelect ops && sD ops t true ops.size (Array.replicate ops.size false) then some (Bl ops t) else none
abbrev J5(E:Env) (ops:List Oper) (o:Oper) (s:St) (K:St->Prop):Prop:=match jB o.op with
 | true=>iI E ops o s K
 | false=>match rtP E.cx s o K with
 | some p=>match kU E.n o.dst with
   | false=>False
   | true=>p
 | none=>match abz o.op with
   | true=>JW E ops o s K
   | false=>iI E ops o s K
abbrev o9(E:Env) (ops:List Oper):OT->St->(St->Prop)->Prop
 | .done,s,K=>K s
 | .op o t,s,K=>J5 E ops o s λs=>o9 E ops t s K
 | .alt o t m,s,K=>(J5 E ops o s λs=>o9 E ops t s K)/\o9 E ops m s K
abbrev J6(E:Env):List Oper->Bool
 | []=>false
 | o :: l=>match o.op with
   | .call c=>match c.callee with
     | .value (.func f)=>match E.ip f with
       | some _=>true
       | none=>J6 E l
     | _=>J6 E l
   | _=>J6 E l
section
variable {P:Program}{E:Env}{B:Base}{h0:FH}{s:St}{h:FH}{β:List RV}{w:World}{a:Act}{o:Oper}{ops:Array Oper}{K:St->Prop}
theorem J7(ok:fU P E) (aj:Sat E.n B h0 s h β w a) (hg:aI E.cx.gd h) (hi:ops[i]?=some o) (k:J5 E (tl ops) o s K){R:Act->World->Prop}
 (next:∀s' h' β' w' v,K s'->h.le h'->(J3 ops i=true->lX w w')->Sat E.n B h0 s' h' β' w' (a.put o.dst v)->R (a.put o.dst v) w'):y7 P ops i R a w:=by
 unfold y7;simp only[hi];unfold J5 at k;have plain:zD o.op=quietly o.op->iI E (tl ops) o s K->if Region.wanted o (yielded ops a.tmps)=true then o.wp P a w R Hf else R (a.put o.dst undef) w:=λhq k=>
  qo ok aj hg k R Hf λs' h' β' w' v k' le zq aP=>next s' h' β' w' v k' le (λe=>zq (by rw[<-hq];simpa[J3,hi]using e)) aP
 split at k
 .rename_i hf;refine plain ?_ k;cases ho:o.op with
  | call c=>
    rw[ho]at hf;have:c.callee=.builtin .len:=WC hf;simp[zD,quietly,this]
  | _=>rfl
 .rename_i hf;split at k
  .rename_i p hp;split at k
   .cases k
   .rename_i hd;refine V7 ok.ti aj hg hd hp k R Hf λs' h' β' w' v k' le zq aP=>next s' h' β' w' v k' le (λe=>zq ?_) aP
    simp only[J3,hi]at e;revert e;unfold zD;split
    .rename_i c hc;split
     .rename_i h2;intro _;rw[hc];simp[quietly,h2]
     .intro e;cases e
    .exact λe=>e
  split at k
  .rename_i hc;refine Dt ok aj hg k R Hf λs' h' β' w' v k' le aP=>next s' h' β' w' v k' le (λe=>?_) aP
   exfalso;cases ho:o.op with
   | call c=>
     rw[ho]at hf;simp only[J3,hi,ho,zD]at e;have h1:c.callee=.builtin .len:=by
      revert e;split
      .rename_i h2;intro _;exact h2
      .intro e;cases e
     have:jB (Op.call c)=true:=by simp[jB,lN,h1]
     rw[this]at hf;cases hf
   | _=>rw[ho]at hc;cases hc
  .rename_i hc;refine plain ?_ k;cases ho:o.op with
   | call c=>rw[ho]at hc;cases hc
   | _=>rfl
theorem tV(ok:fU P E) (hg:aI E.cx.gd h0) (hs:Region.noSelect ops=true){R:Act->World->Prop}:∀(t:DT){n:Nat}{listed:Array Bool}{s:St}{h:FH}{β:List RV}{w:World}{a:Act},
 Sat E.n B h0 s h β w a->o9 E (tl ops) (Bl ops t) s K->(∀s' h' β' w' a',K s'->h.le h'->Sat E.n B h0 s' h' β' w' a'->Same (jq ops.toList) a a'->R a' w') ->
 (sD ops t true n listed=true->anyI P .any ops (J3 ops) R n listed a w) /\
 (sD ops t false n listed=true->∀i∈t.alts,y7 P ops i (λa' w'=>(J3 ops i=true->lX w w')/\anyI P .any ops (J3 ops) R (n - 1) (listed.setIfInBounds i true) a' w') a w)
 | .done,n,listed,s,h,β,w,a,aj,k,next=>by
   refine⟨λhc=>?_,λhc=>by simp[sD]at hc⟩
   simp only[sD,OZ,A8,Aa]at hc;obtain⟨rfl,hr⟩:=hc;exact⟨by simpa using hr,next _ _ _ _ _ k (FH.le.refl h) aj (Same.refl _ _)⟩
 | .fl i t,n,listed,s,h,β,w,a,aj,k,next=>by
   refine⟨λhc=>?_,λhc=>by simp[sD]at hc⟩
   simp only[sD,OZ,A8,Jh,ne_eq]at hc;obtain⟨⟨hn0,hb⟩,hc⟩:=hc;obtain⟨n,rfl⟩:∃m,n=m+1:=⟨n - 1,by omega⟩
   unfold Ib at hb;cases hi:ops[i]? with
   | none=>rw[hi]at hb;simp at hb
   | some o=>
     rw[hi]at hb;simp only[A8]at hb;simp only[Bl,hi,o9]at k;have kJ:o∈ops.toList:=iJ (i:=i) (by simpa using hi)
     obtain⟨⟨⟨hf,hfree⟩,hr⟩,hl⟩:=hb;have k:iI E (tl ops) o s λs=>o9 E (tl ops) (Bl ops t) s K:=by
      unfold J5 at k;rw[hf]at k;exact k
     obtain⟨v,s',hy,k',aP⟩:=wM ok aj (hg.mono aj.ok.hle) hf k;have hq:J3 ops i=true:=by
      simp only[J3,hi];cases ho:o.op with
      | call c=>
        rw[ho]at hf;have:c.callee=.builtin .len:=WC hf;simp[zD,this]
      | _=>
        have:=tK hf;rw[ho]at this;exact this
     refine CV (bl:=WB ops listed i) hi (Region.noSelect_spec hs) hq n listed a w (Region.free_spec hi hfree) (λe=>?_) (by simpa using hr) hy (λ_=>lX.refl w)
      ((tV ok hg hs t aP k' λs2 h2 β2 w2 a2 k2 gK bC sm=>next s2 h2 β2 w2 a2 k2 gK bC (sm.put_mem kJ)).1 hc)
     rw[e]at hl;exact J4 (by simpa using hl)
 | .op i t,n,listed,s,h,β,w,a,aj,k,next=>by
   have key:n≠0->(ops[i]?).isSome=true->sD ops t true (n - 1) (listed.setIfInBounds i true)=true->y7 P ops i (λa' w'=>(J3 ops i=true->lX w w')/\anyI P .any ops (J3 ops) R (n - 1) (listed.setIfInBounds i true) a' w') a w:=by
    intro hn0 hi hc;obtain⟨o,hi⟩:=A82.1 hi;have kJ:o∈ops.toList:=iJ (i:=i) (by simpa using hi)
    simp only[Bl,hi,o9]at k;exact(J7 ok aj (hg.mono aj.ok.hle) hi k λs' h' β' w' v k' le zq aP=>⟨zq,(tV ok hg hs t aP k' λs2 h2 β2 w2 a2 k2 gK bC sm=>next s2 h2 β2 w2 a2 k2 (le.trans gK) bC (sm.put_mem kJ)).1 hc⟩)
   refine⟨λhc=>?_,λhc j hj=>?_⟩
   .simp only[sD,Rz,RD,A8,Jh,ne_eq,Aa]at hc;obtain⟨⟨⟨hr,hn0⟩,hi⟩,hc⟩:=hc;obtain⟨m,rfl⟩:∃m,n=m+1:=⟨n - 1,by omega⟩
    refine⟨λh0=>by rw[hr]at h0;simp at h0,λj hj=>?_⟩
    rw[hr]at hj;simp at hj;subst hj;exact key hn0 hi hc
   .simp only[sD,Ry,RG,OZ,A8,Jh,ne_eq]at hc;simp only[DT.alts,A76]at hj;subst hj;exact key hc.1.1 hc.1.2 hc.2
 | .alt i t mm,n,listed,s,h,β,w,a,aj,k,next=>by
   have key:n≠0->(ops[i]?).isSome=true->sD ops t true (n - 1) (listed.setIfInBounds i true)=true->sD ops mm false n listed=true ->
    ∀j∈i :: mm.alts,y7 P ops j (λa' w'=>(J3 ops j=true->lX w w')/\anyI P .any ops (J3 ops) R (n - 1) (listed.setIfInBounds j true) a' w') a w:=by
    intro hn0 hi hc hm j hj;obtain⟨o,hi⟩:=A82.1 hi;have kJ:o∈ops.toList:=iJ (i:=i) (by simpa using hi)
    simp only[Bl,hi,o9]at k;rcases mF.1 hj with rfl | hj
    .exact(J7 ok aj (hg.mono aj.ok.hle) hi k.1 λs' h' β' w' v k' le zq aP=>⟨zq,(tV ok hg hs t aP k' λs2 h2 β2 w2 a2 k2 gK bC sm=>next s2 h2 β2 w2 a2 k2 (le.trans gK) bC (sm.put_mem kJ)).1 hc⟩)
    .exact(tV ok hg hs mm aj k.2 next).2 hm j hj
   refine⟨λhc=>?_,λhc j hj=>?_⟩
   .simp only[sD,Rz,RD,A8,Jh,ne_eq,Aa]at hc;obtain⟨⟨⟨⟨hr,hn0⟩,hi⟩,hc⟩,hm⟩:=hc;obtain⟨q,rfl⟩:∃m,n=m+1:=⟨n - 1,by omega⟩
    refine⟨λh0=>by rw[hr]at h0;simp at h0,λj hj=>?_⟩
    rw[hr]at hj;exact key hn0 hi hc hm j hj
   .simp only[sD,Ry,RG,OZ,A8,Jh,ne_eq]at hc;exact key hc.1.1.1 hc.1.1.2 hc.1.2 hc.2 j hj
theorem WG(ok:fU P E) (hg:aI E.cx.gd h0){id:Nat}{ol:OT} (ho:yC ops=some ol) (aj:Sat E.n B h0 s h β w a) (k:o9 E (tl ops) ol s K){F:Fence} (hF:Wd F) (hn:Bg ops.toList=true)
 (next:∀s' h' β' w' a',K s'->h.le h'->Sat E.n B h0 s' h' β' w' a'->Same (jq (tl ops)) a a'->Q .normal a' w'):(Code.region id ops true).wpIn F n P Q a w:=by
 unfold yC at ho;have et:tl ops=ops.toList:=by cases ops;rfl
 simp only at ho;split at ho
 .rename_i hp;cases ho;simp only[A8,Aa]at hp;refine wpIn_region_any ok.mixed (HY (sf:=J3 ops) (R:=λa w=>Q .normal a w) hF hn (λ_ _ hh=>hh) _ _ _ _ ?_)
  exact(tV ok hg hp.1 (R:=λa w=>Q .normal a w) (P9 ops ops.size (Array.replicate ops.size false)) (aj.drawn (w.drawn+1) (Rq _)) k λs' h' β' w' a' k' le aP sm=>next _ _ _ _ _ k' le aP (by rw[et];exact sm)).1 hp.2
 .cases ho
end
abbrev isNil{α:Type}:List α->Bool
 | []=>true
 | _ :: _=>false
abbrev tX(seen:List Nat):List (Nat×Gd×bF)->List (Nat×Gd×bF)
 | []=>[]
 | (k,g,e) :: l=>match iD k seen with
   | true=>tX seen l
   | false=>match isNil g with
     | true=>(k,g,e) :: tX (k :: seen) l
     | false=>tX (k :: seen) l
abbrev lC:List (Gd×ak)->List (Gd×ak)
 | []=>[]
 | (g,r) :: l=>match isNil g with
   | true=>([],r) :: lC l
   | false=>([],.gone) :: lC l
abbrev clean(s:St):St:={ env:=tX [] s.env,T:=lC s.T,gl:=[],gs:=[] }
theorem qY:∀{l:List (Nat×Gd×bF)}{seen:List Nat}{t:Nat}{G:Gd}{e:bF},gX (tX seen l) t=some (G,e)->iD t seen=false/\gX l t=some (G,e)/\G=[]
 | [],_,_,_,_,h=>by simp[tX,gX]at h
 | (k,g,e0) :: l,seen,t,G,e,h=>by
   unfold tX at h;split at h
   .rename_i hm;obtain⟨h1,h2,h3⟩:=qY h;refine⟨h1,?_,h3⟩;rw[aU,if_neg]
    .exact h2
    .rintro rfl;rw[hm]at h1;cases h1
   .rename_i hm;have sub:gX (tX (k :: seen) l) t=some (G,e)->iD t seen=false/\gX ((k,g,e0) :: l) t=some (G,e)/\G=[]:=by
     intro h;obtain⟨h1,h2,h3⟩:=qY h;rw[iW,rM]at h1;refine⟨h1.2,?_,h3⟩;rw[aU,if_neg]
     .exact h2
     .rintro rfl;exact UL h1.1 rfl
    split at h
    .rename_i hn;rw[aU]at h;split at h
     .rename_i hk;subst hk;cases h;refine⟨hm,by rw[aU,if_pos rfl],?_⟩
      cases g with
      | nil=>rfl
      | cons _ _=>cases hn
     .exact sub h
    .exact sub h
theorem Dv(gl:List Bool):∀(T:List (Gd×ak)) (i:Nat) (r:ak),(eff [] (lC T))[i]?=some r->r.live=true->(eff gl T)[i]?=some r
 | [],i,r,h,_=>by simp[lC,eff]at h
 | (g,r0) :: l,i,r,h,hl=>by
   have e1:eff [] (lC ((g,r0) :: l))=(match isNil g with | true=>r0 | false=>ak.gone) :: eff [] (lC l):=by
    simp only[lC];cases isNil g<;>rfl
   rw[e1]at h;cases i with
   | zero=>
     simp only[A96,A97]at h;cases g with
     | nil=>simp only[isNil]at h;subst h;rfl
     | cons _ _=>simp only[isNil]at h;subst h;cases hl
   | succ i=>
     simp only[aaH,eff]at h ⊢
     exact Dv gl l i r h hl
theorem Dw:∀(T:List (Gd×ak)),(lC T).length=T.length
 | []=>rfl
 | (g,r) :: l=>by simp only[lC];split<;>simp[Dw l]
theorem wO:∀{T:List (Gd×ak)}{p:Gd×ak},p∈lC T->p.1=[]
 | [],p,h=>by simp[lC]at h
 | (g,r) :: l,p,h=>by
   simp only[lC]at h;split at h
   .rcases mF.1 h with rfl | h
    .rfl
    .exact wO h
   .rcases mF.1 h with rfl | h
    .rfl
    .exact wO h
theorem OK.weaken{T T':List ak} (ok:OK B h0 T h β w) (hl:T'.length=T.length) (sub:∀(i:Nat) r,T'[i]?=some r->r.live=true->T[i]?=some r):OK B h0 T' h β w where
 below:=ok.below
 dr:=ok.dr
 len:=by rw[hl];exact ok.len
 holds:=by
  intro i r v e e';cases hr:r.live with
  | true=>exact ok.holds i r v (sub i r e hr) e'
  | false=>cases r<;>first | (cases hr;done) | (cases v<;>trivial)
 own:=λi r v b e l e' hb=>ok.own i r v b (sub i r e l) l e' hb
 inj:=λi j r r' u v b e l e' l' f f' hb hb'=>ok.inj i j r r' u v b (sub i r e l) l (sub j r' e' l') l' f f' hb hb'
 hle:=ok.hle
 hw:=ok.hw
 hg:=ok.hg
 kn:=ok.kn
theorem Sat.clean{N:Nat}{B:Base}{h0:FH}{s:St}{h:FH}{β:List RV}{w:World}{a:Act} (aj:Sat N B h0 s h β w a):Sat N B h0 (clean s) h β w a:=by
 refine⟨?_,?_,?_,aj.defers,aj.sz,?_,?_⟩
 .exact aj.ok.weaken (by simp[iK,Dw]) λi r e l=>Dv s.gl s.T i r e l
 .intro t G e ht;obtain⟨_,h1,rfl⟩:=qY ht;exact aj.env t [] e h1
 .intro d i hi;have hi:U7 [] d=some i:=hi;cases hi
 .intro t G e ht;obtain⟨_,h1,rfl⟩:=qY ht;rfl
 .intro p hp;rw[wO hp]
abbrev writes:Code->List Nat
 | .region _ ops _=>jq (tl ops)
 | .seq a b=>dS (writes a) (writes b)
 | .cond _ a b=>dS (writes a) (writes b)
 | .block _ c=>writes c
 | .loop c=>writes c
 | _=>[]
abbrev keyOf:Code->Nat
 | .region id _ _=>id
 | .seq a _=>keyOf a
 | .cond _ a _=>keyOf a
 | .block _ c=>keyOf c
 | .loop c=>keyOf c
 | _=>0
abbrev Bo(n:Nat):SC->Bool
 | .own i _=>Nat.ble (i+1) n
 | .row i=>Nat.ble (i+1) n
 | .jA i _ _ _=>Nat.ble (i+1) n
 | .sub i _=>Nat.ble (i+1) n
 | .kV i _ _ _ _=>Nat.ble (i+1) n
 | _=>true
abbrev yD(n:Nat):SV->Bool
 | .c x=>Bo n x
 | .agg xs=>allL (Bo n) xs
 | _=>true
abbrev kL(n:Nat):ak->Bool
 | .blk _ xs=>allL (Bo n) xs
 | _=>true
abbrev jU:SC->Bool
 | .v _=>true
 | .sl _ _=>true
 | .one _ _=>true
 | .fp _ _=>true
 | .abs _=>true
 | .junk=>true
 | _=>false
abbrev zF:SV->Bool
 | .c x=>jU x
 | .agg xs=>allL jU xs
 | _=>true
abbrev qZ:bF->Bool
 | .one v=>zF v
 | .iO vs=>allL zF vs
abbrev oP(ws seen:List Nat):List (Nat×Gd×bF)->List (Nat×Gd×bF)
 | []=>[]
 | (k,g,e) :: l=>match iD k seen with
   | true=>oP ws seen l
   | false=>match iD k ws with
     | true=>oP ws (k :: seen) l
     | false=>match dA (isNil g) (qZ e) with
       | true=>(k,g,e) :: oP ws (k :: seen) l
       | false=>oP ws (k :: seen) l
abbrev keepR(n:Nat) (ws seen:List Nat):List (Nat×Gd×bF)->List (Nat×SV)
 | []=>[]
 | (k,g,e) :: l=>match iD k seen with
   | true=>keepR n ws seen l
   | false=>match iD k ws with
     | true=>keepR n ws (k :: seen) l
     | false=>match isNil g with
       | true=>match e with
         | .one (.c (.own i off))=>match Nat.ble (i+1) n with
           | true=>(k,.c (.own i off)) :: keepR n ws (k :: seen) l
           | false=>keepR n ws (k :: seen) l
         | .one (.c (.row i))=>match Nat.ble (i+1) n with
           | true=>(k,.c (.row i)) :: keepR n ws (k :: seen) l
           | false=>keepR n ws (k :: seen) l
         | _=>keepR n ws (k :: seen) l
       | false=>keepR n ws (k :: seen) l
abbrev Dx(s:St):List (Nat×SV)->Bool
 | []=>true
 | (k,.c (.own i off)) :: l=>match gX s.env k with
   | some ([],.one (.c (.own i' off')))=>dA (dA (Nat.beq i i') (Nat.beq off off')) (Dx s l)
   | _=>false
 | (k,.c (.row i)) :: l=>match gX s.env k with
   | some ([],.one (.c (.row i')))=>dA (Nat.beq i i') (Dx s l)
   | _=>false
 | _=>false
abbrev Dy:List (Nat×SV)->List (Nat×Gd×bF)
 | []=>[]
 | (k,v) :: l=>(k,[],.one v) :: Dy l
abbrev jE:List (Nat×ak)->List (Gd×ak)->List (Gd×ak)
 | [],T=>T
 | (i,r) :: l,T=>jE l (dh T i ([],r))
abbrev pq(ws:List Nat) (s:St) (sl:List (Nat×SV)) (rs:List (Nat×ak)):St:=
 { env:=dS (Dy sl) (dS (Dy (keepR (aN s.T) ws [] s.env)) (oP ws [] s.env)),T:=jE rs s.T,gl:=[],gs:=[] }
abbrev WH:SV->SV
 | .c x=>match x with
   | .abs (.RJ sh l)=>.c (.sl sh l)
   | x=>.c x
 | v=>v
abbrev EP(s:St):List (Nat×SV)->Prop
 | []=>True
 | (k,v) :: l=>(match gX s.env k with
   | some ([],.one u)=>WH u=v
   | _=>False)/\EP s l
abbrev vO(n:Nat) (T:List (Gd×ak)):Bool:=allL (λp=>dA (isNil p.1) (kL n p.2)) T
abbrev FQ(n:Nat) (ws:List Nat) (sl:List (Nat×SV)):Bool:=allL (λp=>dA (yD n p.2) (iD p.1 ws)) sl
abbrev WI(s:St) (k:Nat) (t:TypeId) (sh:Sh):St:=match gX s.env k with
 | some ([],.one (.c (.v (.slice none 0 0))))=>{ s with T:=snoc s.T ([],.row t sh []),env:=(k,[],.one (.c (.row (aN s.T)))) :: s.env,gs:=rmG s.gs k }
 | some ([],.one (.c (.own i 0)))=>match dU s.T i with
   | some ([],.blk t' [.v (.slice none 0 0)])=>{ s with T:=dh s.T i ([],.blk t' [.sl sh []]) }
   | _=>s
 | _=>s
abbrev Ic(s:St) (k:Nat):St:=match gX s.env k with
 | some ([],.one (.c (.row r)))=>JG s r
 | some ([],.one (.c (.abs (.RJ sh l))))=>{ s with env:=(k,[],.one (.c (.sl sh l))) :: s.env,gs:=rmG s.gs k }
 | _=>s
abbrev qw(s:St):List Nat->St
 | []=>s
 | k :: l=>qw (Ic s k) l
theorem Sat.qw{N:Nat}{B:Base}{h0:FH}{w:World}{a:Act}{β:List RV}:∀(l:List Nat){s:St}{h:FH},Sat N B h0 s h β w a->∃h',h.le h'/\Sat N B h0 (qw s l) h' β w a
 | [],s,h,aj=>⟨h,FH.le.refl h,aj⟩
 | k :: l,s,h,aj=>by
   have h1:∃h',h.le h'/\Sat N B h0 (Ic s k) h' β w a:=by
    unfold Ic;split
    .exact aj.af4 _
    .rename_i sh l hk;refine⟨h,FH.le.refl h,aj.ok,?_,?_,aj.defers,aj.sz,?_,aj.gT⟩
     .intro t' G e ht;rw[aU]at ht;split at ht
      .rename_i hkt;subst hkt;cases ht;obtain⟨z,z1,z2,z3⟩:=aj.env k _ _ hk;have c:cZ h β (.c (.abs (.RJ sh l))) z:=z2 rfl;exact⟨z,z1,λ_=>⟨c.1.1,c.2⟩,λhh=>by cases hh⟩
      .exact aj.env t' G e ht
     .intro d i hi;obtain⟨hne,hi⟩:=zh _ _ _ _ hi;obtain⟨G,b,q1,q2⟩:=aj.gs d i hi;exact⟨G,b,by rw[aU,if_neg (Ne.symm hne)];exact q1,q2⟩
     .intro t' G e ht;rw[aU]at ht;split at ht
      .cases ht;rfl
      .exact aj.gb _ _ _ ht
    .exact⟨h,FH.le.refl h,aj⟩
   obtain⟨h1,le1,iQ⟩:=h1;obtain⟨h2,gK,bC⟩:=Sat.qw l iQ;exact⟨h2,le1.trans gK,bC⟩
abbrev FT(s:St):List (Nat×TypeId×Sh)->St
 | []=>s
 | (k,t,sh) :: l=>FT (WI s k t sh) l
theorem Sat.WI{N:Nat}{B:Base}{h0:FH}{s:St}{h:FH}{β:List RV}{w:World}{a:Act} (aj:Sat N B h0 s h β w a) (k:Nat) (t:TypeId) (sh:Sh):∃β',Sat N B h0 (WI s k t sh) h β' w a:=by
 unfold lH.WI;split
 .rename_i hk;obtain⟨z,z1,z2,_⟩:=aj.env k _ _ hk;have ez:z=.slice none 0 0:=(z2 rfl:cZ h β (.c (.v (.slice none 0 0))) z).1.1;subst ez;have ok:OK B h0 (eff s.gl (snoc s.T ([],.row t sh []))) h (β++[.row (.slice none 0 0)]) w:=by
   rw[iw];exact aj.ok.add (r:=.row t sh []) (v:=.row (.slice none 0 0)) (bW w none) (λb hb=>by rw[aW]at hb;simp[au]at hb) (.inl ⟨rfl,rfl⟩)
  have gT:∀p∈snoc s.T (([]:Gd),ak.row t sh []),uK s.gl.length p.1=true:=by
   intro p hp;rw[gZ,Et]at hp;rcases hp with hp | hp
   .exact aj.gT p hp
   .simp at hp;subst hp;rfl
  have sm:=aj.mem ok (FH.le.refl h) (Ext.append _ _) gT;refine⟨_,ok,?_,?_,aj.defers,aj.sz,?_,gT⟩
  .intro t' G e ht;rw[aU]at ht;split at ht
   .rename_i hkt;subst hkt;cases ht;refine⟨_,z1,λ_=>⟨?_,rfl,rfl⟩,λhh=>by cases hh⟩
    refine⟨.row (.slice none 0 0),?_,rfl⟩;have:aN s.T=β.length:=by rw[aj.ok.len,iK,aZ]
    rw[this];simp
   .exact sm.env t' G e ht
  .intro d i hi;obtain⟨hne,hi⟩:=zh _ _ _ _ hi;obtain⟨G,b,q1,q2⟩:=aj.gs d i hi;exact⟨G,b,by rw[aU,if_neg (Ne.symm hne)];exact q1,q2⟩
  .intro t' G e ht;rw[aU]at ht;split at ht
   .cases ht;rfl
   .exact aj.gb _ _ _ ht
 .rename_i i hk;split
  .rename_i t' hT;refine⟨β,?_,aj.env,aj.gs,aj.defers,aj.sz,aj.gb,?_⟩
   .show OK B h0 (eff s.gl (dh s.T i ([],.blk t' [.sl sh []]))) h β w;rw[fC];refine aj.ok.Ny (bg hT (show gv s.gl []=true from rfl)) rfl λv hv=>?_
    cases v with
    | blk b=>
      obtain⟨ys,e1,al⟩:=hv;refine⟨ys,e1,?_⟩;cases ys with
      | nil=>exact al.elim
      | cons y ys=>
        cases ys with
        | cons _ _=>exact al.2.elim
        | nil=>
          obtain⟨⟨c,o⟩,_⟩:=al;obtain rfl:y=.slice none 0 0:=c.1;exact⟨⟨.inl ⟨rfl,rfl⟩,o⟩,trivial⟩
    | row _=>exact hv.elim
    | deep _ _=>exact hv.elim
    | no=>exact hv.elim
   .intro p hp;rw[fM]at hp;rcases GH hp with hp | hp
    .exact aj.gT p hp
    .subst hp;rfl
  .exact⟨β,aj⟩
 .exact⟨β,aj⟩
theorem Sat.FT{N:Nat}{B:Base}{h0 h:FH}{w:World}{a:Act}:∀(l:List (Nat×TypeId×Sh)){s:St}{β:List RV},Sat N B h0 s h β w a->∃β',Sat N B h0 (FT s l) h β' w a
 | [],s,β,aj=>⟨β,aj⟩
 | (k,t,sh) :: l,s,β,aj=>by
   obtain⟨β1,iQ⟩:=aj.WI k t sh;exact Sat.FT l iQ
abbrev aj9(body:St->(Exit->St->Prop)->Prop) (ws:List Nat) (la:LA) (s:St) (K:Exit->St->Prop):Prop:=
 (∃x,la.inv x/\EP s (la.slots x)/\s.T=jE (la.res x) s.T) /\
 ∀x,la.inv x->match dA (vO (aN s.T) (jE (la.res x) s.T)) (FQ (aN s.T) ws (la.slots x)) with
   | false=>False
   | true=>body (pq ws s (la.slots x) (la.res x)) λe s'=>match e with
     | .normal=>match Dx (rY la.can (mJ la.ren s')) (keepR (aN s.T) ws [] s.env) with
       | true=>∃x',la.inv x'/\EP (rY la.can (mJ la.ren s')) (la.slots x')/\pR (aN s.T) (rY la.can (mJ la.ren s')).T=jE (la.res x') s.T/\la.meas x' < la.meas x
       | false=>False
     | e=>K e s'
abbrev Ie(body:St->(Exit->St->Prop)->Prop):Nat->St->(Exit->St->Prop)->Prop
 | 0,_,_=>False
 | n+1,s,K=>body s λe s'=>match e with
   | .normal=>Ie body n s' K
   | e=>K e s'
abbrev abA(E:Env) (c:Code) (s:St):Option kD:=match E.ann (keyOf c) with
 | some f=>some (f s)
 | none=>none
abbrev akb(s:St) (t:Nat):Int:=match gX s.env t with
 | some (_,.one (.c (.v (.int _ n))))=>n
 | _=>0
abbrev slotL(sh:Sh) (s:St) (t:Nat):List sh.den:=match gX s.env t with
 | some (_,.one v)=>match MX s sh v with
   | some l=>l
   | none=>[]
 | _=>[]
abbrev br(b:Bool) (X Y:Prop):Prop:=match b with
 | true=>X
 | false=>Y
theorem ah{b:Bool}{X Y:Prop}:br b X Y↔(b=true->X)/\(b=false->Y):=by cases b<;>simp[br]
abbrev J8:(ps:List Nat)->(ss:List Sh)->bK ss->List (Nat×Gd×bF)
 | p :: ps,s :: ss,d=>(p,[],.one (gV s d.1)) :: J8 ps ss d.2
 | _,_,_=>[]
abbrev vP(n:Nat):List Nat->List Sh->Bool
 | [],[]=>true
 | p :: ps,_ :: ss=>dA (dA (Nat.ble (p+1) n) (!(iD p ps))) (vP n ps ss)
 | _,_=>false
abbrev rdE(ws dr:List Nat) (s:St):List (Nat×Gd×bF):=dS (Dy (keepR (aN s.T) ws [] s.env)) (oP dr [] s.env)
abbrev NR(n:Nat) (body:St->(Exit->St->Prop)->Prop) (ws:List Nat) (ra:RA) (ps:List Nat) (ss:List Sh) (L:List (bK ss)) (s:St) (K:Exit->St->Prop):Prop:=
 match vP n ps ss with
 | false=>False
 | true=>
 (∃x,ra.inv 0 x/\s.T=jE (ra.res x) s.T) /\
 (∀i x d,ra.inv i x->L[i]?=some d->match vO (aN s.T) (jE (ra.res x) s.T) with
  | false=>False
  | true=>body { env:=dS (J8 ps ss d) (rdE ws (dS ra.drop ps) s),T:=jE (ra.res x) s.T,gl:=[],gs:=[] } λe s'=>match Dx s' (keepR (aN s.T) ws [] s.env) with
    | false=>False
    | true=>match e with
      | .normal=>∃x',ra.inv (i+1) x'/\pR (aN s.T) s'.T=jE (ra.res x') s.T
      | .ret=>K .ret { env:=rdE ws ra.drop s,T:=s'.T,gl:=s'.gl,gs:=[] }
      | .exit j=>K (.exit j) { env:=rdE ws ra.drop s,T:=s'.T,gl:=s'.gl,gs:=[] }
      | _=>False) /\
 ∀x,ra.inv (aN L) x->match vO (aN s.T) (jE (ra.res x) s.T) with
   | false=>False
   | true=>K .normal { env:=rdE ws ra.drop s,T:=jE (ra.res x) s.T,gl:=[],gs:=[] }
abbrev rV(s:St) (Ey tJ:List Nat) (nl:List (Nat×TypeId×Sh)) (oz:List (Nat×Nat×TypeId×Sh)) (dp:List (Nat×TypeId×Sh×Nat)):St:=uX (FK (FT (zy (qw s Ey) tJ) nl) oz) dp
theorem Sat.rV{N:Nat}{B:Base}{h0 h:FH}{w:World}{a:Act}{s:St}{β:List RV} (aj:Sat N B h0 s h β w a) (Ey tJ:List Nat) (nl:List (Nat×TypeId×Sh)) (oz:List (Nat×Nat×TypeId×Sh)) (dp:List (Nat×TypeId×Sh×Nat)):∃h' β',h.le h'/\Sat N B h0 (rV s Ey tJ nl oz dp) h' β' w a:=by
 obtain⟨h1,le1,iQ⟩:=Sat.qw Ey aj;obtain⟨h2,β2,gK,bC⟩:=Sat.zy (l:=tJ) iQ;obtain⟨β3,NS⟩:=Sat.FT nl bC;obtain⟨β4,WJ⟩:=Sat.FK oz NS;obtain⟨β5,amd⟩:=Sat.uX dp WJ;exact⟨h2,β5,le1.trans gK,amd⟩
abbrev wP:Nat->St->St
 | 0,s=>s
 | n+1,s=>wP n { s with T:=snoc s.T ([],.gone) }
theorem Sat.wP{N:Nat}{B:Base}{h0 h:FH}{w:World}{a:Act}:∀(n:Nat){s:St}{β:List RV},Sat N B h0 s h β w a->∃β',Sat N B h0 (wP n s) h β' w a
 | 0,s,β,aj=>⟨β,aj⟩
 | n+1,s,β,aj=>by
   refine Sat.wP n (β:=β++[.no]) (s:={ s with T:=snoc s.T ([],.gone) }) ?_
   refine aj.mem ?_ (FH.le.refl h) (Ext.append _ _) λp hp=>?_
   .rw[iw];exact aj.ok.add (r:=.gone) (v:=.no) (bW w none) (λb hb=>(MF hb).elim) trivial
   .rw[gZ,Et]at hp;rcases hp with hp | hp
    .exact aj.gT p hp
    .simp at hp;subst hp;rfl
abbrev ame(E:Env) (c:Code) (s:St):Option LA:=match abA E c s with
 | some (.cut la)=>some la
 | _=>none
abbrev akc(ws:List Nat) (la:LA) (s s':St):Prop:=match Dx (rY la.can (mJ la.ren (rV s' la.Ey la.tJ la.nil la.oz la.deep))) (keepR (aN s.T) ws [] s.env) with
 | true=>∃v,la.inv v/\EP (rY la.can (mJ la.ren (rV s' la.Ey la.tJ la.nil la.oz la.deep))) (la.slots v)/\pR (aN s.T) (rY la.can (mJ la.ren (rV s' la.Ey la.tJ la.nil la.oz la.deep))).T=jE (la.res v) s.T
 | false=>False
abbrev iT:Env->Code->St->(Exit->St->Prop)->Prop
 | E,.skip,s,K=>K .normal s
 | E,.region _ ops draw,s,K=>match Bg (tl ops) with
   | false=>False
   | true=>match draw with
     | false=>abw E (tl ops) (tl ops) s λs=>K .normal (clean s)
     | true=>match zB E.cx (tl ops) with
       | true=>match aby ops with
         | true=>TG E (tl ops) (tl ops) s λs=>K .normal (clean s)
         | false=>False
       | false=>match orB E.cx.rt (J6 E (tl ops)) with
         | true=>match yC ops with
           | some l=>o9 E (tl ops) l s λs=>K .normal (clean s)
           | none=>False
         | false=>match uY ops with
           | some l=>qp E (tl ops) l s λs=>K .normal (clean s)
           | none=>False
 | E,.seq x y,s,K=>match ame E y s with
   | some la=>(iT E x (wP la.pad s) λe s'=>match e with
    | .normal=>akc (dS la.drop (writes x)) la (wP la.pad s) s'
    | e=>K e s')/\∀v,la.inv v->match dA (vO (aN (wP la.pad s).T) (jE (la.res v) (wP la.pad s).T)) (FQ (aN (wP la.pad s).T) (dS la.drop (writes x)) (la.slots v)) with
      | false=>False
      | true=>iT E y (pq (dS la.drop (writes x)) (wP la.pad s) (la.slots v) (la.res v)) K
   | none=>iT E x s λe s'=>match e with
     | .normal=>iT E y s' K
     | e=>K e s'
 | E,.cond c x y,s,K=>match bH E.cx s [] c with
   | some (.one (.c (.v (.bool b))))=>br b (iT E x s K) (iT E y s K)
   | _=>False
 | E,.block id c,s,K=>iT E c s λe s'=>match e with
   | .exit i=>match Nat.beq i id with
     | true=>K .normal s'
     | false=>K (.exit i) s'
   | e=>K e s'
 | E,.loop c,s,K=>match abA E c s with
   | some (.inv la)=>aj9 (iT E c) (dS la.drop (writes c)) la (wP la.pad (rV s la.Ey la.tJ la.nil la.oz la.deep)) K
   | some (.Dk n)=>Ie (iT E c) n s K
   | _=>False
 | E,.rangeFunc g ps Ez c,s,K=>match E.rd with
   | true=>False
   | false=>match bH E.cx s [] g with
     | some (.one (.c (.abs (.seq P' ss L))))=>match abA E c s with
       | some (.rng ra)=>E.P=some P'/\NR E.n (λs K=>iT { E with rd:=true } Ez s λe s'=>match e with
         | .normal=>iT { E with rd:=true } c s' K
         | _=>False) (dS ra.drop (dS (tl ps) (dS (writes Ez) (writes c)))) ra (tl ps) ss L (rV s ra.Ey ra.tJ ra.nil ra.oz ra.deep) K
       | _=>False
     | _=>False
 | E,.exit i,s,K=>K (.exit i) s
 | E,.ret,s,K=>K .ret s
 | _,_,_,_=>False
abbrev wQ(D:Nat):Deferred:={ target:=.collected D,args:=#[] }
theorem abC(w:World) (a b:Obj) (G:Nat->Prop):Gs G w ((w.alloc a).alloc b):=
 ⟨rfl,rfl,rfl,by simp;omega,oq _,λk hk _=>by
  rw[Below.heap_alloc _ _ _ (by simp;omega),Below.heap_alloc _ _ _ hk]⟩
def agq(A:World) (l D:Nat) (G:Nat->Prop) (I:World->Prop) (Ix:Code->World->Prop):Exit->Act->World->Prop
 | .normal,_,A'=>(∀b,b=l\/b=D\/G b->A'.heap[b]?=A.heap[b]?)/\I A'
 | .ret,_,A'=>(∀b,b=l\/b=D\/G b->A'.heap[b]?=A.heap[b]?)/\Ix .ret A'
 | .exit id,_,A'=>(∀b,b=l\/b=D\/G b->A'.heap[b]?=A.heap[b]?)/\Ix (.exit id) A'
 | .goto t,_,_=>False
 | .panic _,_,_=>False
 | .outgrown,_,_=>False
theorem TJ{ss:List Sh}{L:List (bK ss)}{g:Operand}{ps:Array Tmp}{Ez:Code}
 (gv:Gives P h ss L (a.eval g)) (hps:ps.size=ss.length)
 (I:Nat->(Nat->Prop)->World->Prop) (Ix:Code->(Nat->Prop)->World->Prop) (hI:∀i G A,I i G A->HW h A) (hX:∀c G A,Ix c G A->HW h A)
 (hIg:∀i G G' A A',I i G A->Gs G A A'->Own' G G' A A'->I i G' A') (hXg:∀c G G' A A',Ix c G A->Gs G A A'->Own' G G' A A'->Ix c G' A')
 (hIp:∀i G A l o o',I i G A->w.heap.size<=l->A.heap[l]?=some o->ours o=false->I i G (A.putObj l o'))
 (hXp:∀c G A l o o',Ix c G A->w.heap.size<=l->A.heap[l]?=some o->ours o=false->Ix c G (A.putObj l o'))
 (h0:I 0 (λ_=>False) w)
 (hbody:∀(i:Nat) (d:bK ss) (vs:List Value) (G:Nat->Prop) (A:World) (l:Nat) (o1 TK o2:Obj),L[i]?=some d->Ac h ss d vs->I i G A->w.heap.size < l->A.heap[l]?=some o1->ours o1=false->ours TK=false->A.heap[w.heap.size]?=some o2->ours o2=false->¬G l ->
  Ez.wpIn (Fence.wide.inRound l) 0 P (Exit.then (λa1 A1=>(∀b,b=l\/b=w.heap.size\/G b->A1.heap[b]?=A.heap[b]?) /\
   body.wpIn (Fence.wide.inRound l) 0 P (agq (A1.putObj l TK) l w.heap.size G (I (i+1) G) (λc=>Ix c G)) a1 (A1.putObj l TK)) (λ_ _ _=>False)) { tmps:=(ps.zip vs.toArray).foldl (λt (p,v)=>t.setIfInBounds p v) a.tmps,defers:=[] } A)
 (hdone:∀G A,I L.length G A->A.heap[w.heap.size]?=some (.deferred (some []))->Q .normal { a with defers:=wQ w.heap.size :: a.defers } A)
 (hret:∀G A,Ix .ret G A->A.heap[w.heap.size]?=some (.deferred (some []))->Q .ret { a with defers:=wQ w.heap.size :: a.defers } A)
 (akd:∀j G A,Ix (.exit j) G A->A.heap[w.heap.size]?=some (.deferred (some []))->Q (.exit j) { a with defers:=wQ w.heap.size :: a.defers } A):
 (Code.rangeFunc g ps Ez body).wpIn Fence.wide n P Q a w:=by
 refine wpIn_rangeFunc λfn hfn=>?_
 obtain⟨gf,lb,hg,⟨fng,hfg,hbg,hng⟩,gives⟩:=gv;obtain⟨rec,hrec⟩:∃rec:LoopState->Option Code->Loop,rec=λst pe=>{ state:=st,pending:=pe,fn,tmps:=a.tmps,params:=ps,assign:=Ez,body,defers:=w.heap.size }:=⟨_,rfl⟩
 obtain⟨W1,hW1⟩:∃W1,(w.alloc (.deferred (some []))).alloc (.loop (rec .ready none))=W1:=⟨_,rfl⟩;have hL1:W1.heap[w.heap.size+1]?=some (.loop (rec .ready none)):=by
  rw[<-hW1];have:=World.alloc_heap_new (w.alloc (.deferred (some []))) (.loop (rec .ready none));rwa [World.size_alloc]at this
 have hD1:W1.heap[w.heap.size]?=some (.deferred (some [])):=by
  rw[<-hW1];exact(Below.heap_alloc _ _ _ (by simp)).trans (World.alloc_heap_new w _)
 have hI1:I 0 (λ_=>False) W1:=hIg 0 _ _ _ _ h0 (by rw[<-hW1];exact abC w _ _ _) (λb hb=>hb.elim)
 have kd:∀{G G':Nat->Prop}{A A':World}{k:Nat}{o:Obj},A.heap[k]?=some o->¬G k->Gs G A A'->Own' G G' A A'->A'.heap[k]?=some o/\¬G' k:=λhk hn hgs ho=>
  ⟨(hgs.block _ (BI.1 hk).1 hn).trans hk,λhh=>by
    have h1:=(BI.1 hk).1;rcases(ho _ hh).2 with h2 | h2
    .exact hn h2
    .omega⟩
 refine⟨w.heap.size+1,[wQ w.heap.size],W1,{ target:=.fn (.func gf) lb,args:=#[.func (.yield (w.heap.size+1)) #[] #[]] },W1,gf,
  #[.func (.yield (w.heap.size+1)) #[] #[]]++lb,W1,?_,?_,?_,?_,λhh=>(by cases hh),?_⟩
 .rw[<-hW1,hrec];exact run_enterLoop_outer _ _ _ _ _
 .simp only[resolve,hg];simp[go_sem]
 .intro f' hf';trivial
 .have e:(callFunc gf (#[.func (.yield (w.heap.size+1)) #[] #[]]++lb)).run P W1=.ok (.enter gf (#[.func (.yield (w.heap.size+1)) #[] #[]]++lb)) W1:=by
   simp only[callFunc,Sem.run_bind,run_program,Result.andThen_ok,hfg,hng];simp[hbg];cases hb:fng.body with
   | none=>rw[hb]at hbg;cases hbg
   | some _=>simp
  simp[invoke,go_sem,e]
 .have hc:=gives (w.heap.size+1)
   (λi G A=>match i with
    | some i=>I i G A/\(A.heap[w.heap.size+1]?=some (.loop (rec .ready none))/\¬G (w.heap.size+1))/\(A.heap[w.heap.size]?=some (.deferred (some []))/\¬G w.heap.size)
    | none=>∃c,(c=.ret\/∃j,c=.exit j)/\Ix c G A/\(A.heap[w.heap.size+1]?=some (.loop (rec .done (some c)))/\¬G (w.heap.size+1))/\(A.heap[w.heap.size]?=some (.deferred (some []))/\¬G w.heap.size)) W1
   (λi G A x=>by
    cases i with
    | some i=>exact hI i G A x.1
    | none=>obtain⟨c,_,x1,_⟩:=x;exact hX c G A x1)
   (λi G G' A A' x hgs ho=>by
    cases i with
    | some i=>exact⟨hIg i _ _ _ _ x.1 hgs ho,kd x.2.1.1 x.2.1.2 hgs ho,kd x.2.2.1 x.2.2.2 hgs ho⟩
    | none=>
      obtain⟨c,hc,x1,x2,x3⟩:=x;exact⟨c,hc,hXg c _ _ _ _ x1 hgs ho,kd x2.1 x2.2 hgs ho,kd x3.1 x3.2 hgs ho⟩)
   (λi d vs G A hd hv x=>by
    obtain⟨x1,⟨x2,y2n⟩,x3,y3n⟩:=x;have iV:w.heap.size+1 < A.heap.size:=(BI.1 x2).1;have hvl:vs.length=ss.length:=by
     have:∀{ss:List Sh}{d:bK ss}{vs:List Value},Ac h ss d vs->vs.length=ss.length:=by
      intro ss
      induction ss with
      | nil=>intro d vs x;cases vs with | nil=>rfl | cons _ _=>exact x.elim
      | cons s l ih=>intro d vs x;cases vs with | nil=>exact x.elim | cons v vs=>simp[ih x.2]
     exact this hv
    have hy:=run_yield (P:=P) (args:=vs.toArray) x2 (by rw[hrec];simp[hps,hvl])
    rw[hrec]at hy;refine⟨fn,_,Ez,body,hy,(roundIn_of_wpIn (F:=Fence.wide) (n:=0) trivial ?_:RoundIn Fence.wide _ P _ _ _ _ _ _ _)⟩;refine wpIn_mono (hbody i d vs G A (w.heap.size+1) _ (.loop { rec .ready none with state:=.busy }) _ hd hv x1 (by omega) x2 rfl rfl x3 rfl y2n) ?_
    intro e0 a1 A1 h1;cases e0 with
    | exit j=>exact h1
    | goto j=>exact h1
    | ret=>exact h1
    | panic c=>exact h1
    | outgrown=>exact h1
    | normal=>
    obtain⟨k1,h1⟩:=h1;have z2:A1.heap[w.heap.size+1]?=some (.loop (rec .ready none)):=(k1 _ (.inl rfl)).trans x2;have z3:A1.heap[w.heap.size]?=some (.deferred (some [])):=(k1 _ (.inr (.inl rfl))).trans x3;have hlt1:w.heap.size+1 < A1.heap.size:=(BI.1 z2).1;refine⟨_,run_beginRound z2 (by rw[hrec]),?_⟩
    have y2:(A1.putObj (w.heap.size+1) (.loop { rec .ready none with state:=.busy })).heap[w.heap.size+1]?=some (.loop { rec .ready none with state:=.busy }):=World.putObj_heap_same hlt1
    have y3:(A1.putObj (w.heap.size+1) (.loop { rec .ready none with state:=.busy })).heap[w.heap.size]?=some (.deferred (some [])):=(World.putObj_heap_other (by omega)).trans z3
    have fin:∀(jump:Option Code) (A3:World),A3.heap[w.heap.size+1]?=some (.loop { rec .ready none with state:=.busy })->A3.heap[w.heap.size]?=some (.deferred (some [])) ->
     (Instr.endRound (w.heap.size+1) jump).run P A3=.ok (.bool jump.isNone) (A3.putObj (w.heap.size+1) (.loop (rec (if jump.isNone then .ready else .done) jump))) /\
     (A3.putObj (w.heap.size+1) (.loop (rec (if jump.isNone then .ready else .done) jump))).heap[w.heap.size+1]?=some (.loop (rec (if jump.isNone then .ready else .done) jump)) /\
     (A3.putObj (w.heap.size+1) (.loop (rec (if jump.isNone then .ready else .done) jump))).heap[w.heap.size]?=some (.deferred (some [])):=λjump A3 h3 h4=>by
     have:=run_endRound (P:=P) jump h3;rw[hrec]at this ⊢;exact⟨this,World.putObj_heap_same (BI.1 h3).1,(World.putObj_heap_other (by omega)).trans h4⟩
    have kg:∀(A3:World) (o':Obj),(∀b,b=w.heap.size+1\/b=w.heap.size\/G b->A3.heap[b]?=(A1.putObj (w.heap.size+1) (.loop { rec .ready none with state:=.busy })).heap[b]?)->∀b,G b->(A3.putObj (w.heap.size+1) o').heap[b]?=A.heap[b]?:=by
     intro A3 o' hk b hb;have hne:b≠w.heap.size+1:=by rintro rfl;exact y2n hb
     rw[World.putObj_heap_other hne,hk b (.inr (.inr hb)),World.putObj_heap_other hne,k1 b (.inr (.inr hb))]
    refine wpIn_mono h1 ?_;rintro e a3 A3 hp;cases e with
    | normal=>
      obtain⟨p0,p3⟩:=hp;have p1:=p0 _ (.inl rfl);have p2:=p0 _ (.inr (.inl rfl));rw[y2]at p1;rw[y3]at p2;obtain⟨q1,q2,q3⟩:=fin none A3 p1 p2;exact⟨_,_,q1,kg A3 _ p0,.inl ⟨rfl,hIp _ _ _ _ _ _ p3 (by omega) p1 rfl,⟨q2,y2n⟩,q3,y3n⟩⟩
    | ret=>
      obtain⟨p0,p3⟩:=hp;have p1:=p0 _ (.inl rfl);have p2:=p0 _ (.inr (.inl rfl));rw[y2]at p1;rw[y3]at p2;obtain⟨q1,q2,q3⟩:=fin (some .ret) A3 p1 p2;exact⟨_,_,q1,kg A3 _ p0,.inr ⟨rfl,.ret,.inl rfl,hXp _ _ _ _ _ _ p3 (by omega) p1 rfl,⟨q2,y2n⟩,q3,y3n⟩⟩
    | exit id=>
      obtain⟨p0,p3⟩:=hp;have p1:=p0 _ (.inl rfl);have p2:=p0 _ (.inr (.inl rfl));rw[y2]at p1;rw[y3]at p2;obtain⟨q1,q2,q3⟩:=fin (some (.exit id)) A3 p1 p2;exact⟨_,_,q1,kg A3 _ p0,.inr ⟨rfl,.exit id,.inr ⟨id,rfl⟩,hXp _ _ _ _ _ _ p3 (by omega) p1 rfl,⟨q2,y2n⟩,q3,y3n⟩⟩
    | goto t=>exact hp.elim
    | panic ch=>exact hp.elim
    | outgrown=>exact hp.elim)
   ⟨hI1,⟨hL1,λhh=>hh⟩,hD1,λhh=>hh⟩
  refine CallsIn.mono (F:=Fence.wide) (n:=n - 1) (callsIn_wide.2 (callsIn_wide.1 hc)) ?_;rintro e W2 ⟨⟨v,rfl⟩,G,hJ⟩;rcases hJ with⟨x1,⟨x2,_⟩,x3,_⟩ | ⟨c,hc,x1,⟨x2,_⟩,x3,_⟩
  .refine⟨none,_,by have:=run_endLoop (P:=P) x2 (by rw[hrec];simp);rw[hrec]at this;exact this,?_⟩
   exact hdone G _ (hIp _ _ _ _ _ _ x1 (by omega) x2 rfl) ((World.putObj_heap_other (by omega)).trans x3)
  .refine⟨some c,_,by have:=run_endLoop (P:=P) x2 (by rw[hrec];simp);rw[hrec]at this;exact this,?_⟩
   have y1:=hXp _ _ _ _ _ (.loop { rec .done (some c) with state:=.exhausted }) x1 (show w.heap.size<=w.heap.size+1 by omega) x2 rfl
   have y3:(W2.putObj (w.heap.size+1) (.loop { rec .done (some c) with state:=.exhausted })).heap[w.heap.size]?=some (.deferred (some [])):=(World.putObj_heap_other (by omega)).trans x3
   rw[hrec]at y1 y3;rcases hc with rfl | ⟨j,rfl⟩
   .exact wpIn_ret (hret G _ y1 y3)
   .exact wpIn_exit (akd _ G _ y1 y3)
theorem oQ:∀{l m:List (Nat×Gd×bF)}{t:Nat},gX (dS l m) t=match gX l t with | some x=>some x | none=>gX m t
 | [],m,t=>rfl
 | (k,x) :: l,m,t=>by
   rw[show dS ((k,x) :: l) m=(k,x) :: dS l m from rfl,aU,aU]
   split
   .rfl
   .exact oQ
theorem nC:∀{l:List (Nat×SV)}{t:Nat}{G:Gd}{e:bF},gX (Dy l) t=some (G,e)->∃v,e=.one v/\G=[]/\(t,v)∈l
 | [],_,_,_,h=>by simp[Dy,gX]at h
 | (k,v) :: l,t,G,e,h=>by
   simp only[Dy]at h;rw[aU]at h;split at h
   .rename_i hk;subst hk;cases h;exact⟨v,rfl,rfl,by simp⟩
   .obtain⟨u,h1,h2,h3⟩:=nC h;exact⟨u,h1,h2,by simp[h3]⟩
theorem jV{ws:List Nat}:∀{l:List (Nat×Gd×bF)}{seen:List Nat}{t:Nat}{G:Gd}{e:bF},gX (oP ws seen l) t=some (G,e) ->
 iD t seen=false/\iD t ws=false/\gX l t=some (G,e)/\G=[]/\qZ e=true
 | [],_,_,_,_,h=>by simp[oP,gX]at h
 | (k,g,e0) :: l,seen,t,G,e,h=>by
   have skip:gX (oP ws (k :: seen) l) t=some (G,e)->iD t seen=false/\iD t ws=false/\gX ((k,g,e0) :: l) t=some (G,e)/\G=[]/\qZ e=true:=by
    intro h;obtain⟨h1,h2,h3,h4⟩:=jV h;rw[iW,rM]at h1;refine⟨h1.2,h2,?_,h4⟩;rw[aU,if_neg]
    .exact h3
    .rintro rfl;exact UL h1.1 rfl
   unfold oP at h;split at h
   .rename_i hm;obtain⟨h1,h2,h3,h4⟩:=jV h;refine⟨h1,h2,?_,h4⟩;rw[aU,if_neg]
    .exact h3
    .rintro rfl;rw[hm]at h1;cases h1
   .rename_i hm;split at h
    .exact skip h
    .rename_i hw;split at h
     .rename_i hc;rw[ay,A8]at hc;rw[aU]at h;split at h
      .rename_i hk;subst hk;cases h;refine⟨hm,hw,by rw[aU,if_pos rfl],?_,hc.2⟩
       cases g with
       | nil=>rfl
       | cons _ _=>have:=hc.1;cases this
      .exact skip h
     .exact skip h
theorem J9{s:St}:∀{l:List (Nat×SV)},EP s l->∀p∈l,∃u,gX s.env p.1=some ([],.one u)/\WH u=p.2
 | [],_,p,hp=>by simp at hp
 | (k,v) :: l,⟨h1,h2⟩,p,hp=>by
   rcases mF.1 hp with rfl | hp
   .split at h1
    .rename_i u hu;exact⟨u,hu,h1⟩
    .cases h1
   .exact J9 h2 p hp
theorem abD{u v:SV}{z:Value} (e:WH u=v) (hv:cZ h β' v z\/cZ h β u z) (hb:u=v->cZ h β u z->cZ h β' v z):cZ h β' v z:=by
 rcases hv with hv | hu
 .exact hv
 .unfold WH at e;split at e
  .split at e
   .subst e;exact⟨hu.1.1,hu.2⟩
   .exact hb e hu
  .exact hb e hu
theorem qx{s:St}:∀{l:List (Nat×SV)},Dx s l=true->∀p∈l,gX s.env p.1=some ([],.one p.2)
 | [],_,p,hp=>by simp at hp
 | (k,.c (.own i off)) :: l,h,p,hp=>by
   simp only[Dx]at h;split at h
   .rename_i i' off' hu;rw[ay,ay,A8,A8]at h;rcases mF.1 hp with rfl | hp
    .have e1:=gJ h.1.1;have e2:=gJ h.1.2;rw[hu,e1,e2]
    .exact qx h.2 p hp
   .cases h
 | (k,.c (.row i)) :: l,h,p,hp=>by
   simp only[Dx]at h;split at h
   .rename_i i' hu;rw[ay,A8]at h;rcases mF.1 hp with rfl | hp
    .have e1:=gJ h.1;rw[hu,e1]
    .exact qx h.2 p hp
   .cases h
 | (k,.c (.v _)) :: l,h,p,hp=>by cases h
 | (k,.c (.sl _ _)) :: l,h,p,hp=>by cases h
 | (k,.c (.fp _ _)) :: l,h,p,hp=>by cases h
 | (k,.c (.jA _ _ _ _)) :: l,h,p,hp=>by cases h
 | (k,.c (.abs _)) :: l,h,p,hp=>by cases h
 | (k,.c .junk) :: l,h,p,hp=>by cases h
 | (k,.agg _) :: l,h,p,hp=>by cases h
 | (k,.dat _ _) :: l,h,p,hp=>by cases h
 | (k,.und) :: l,h,p,hp=>by cases h
theorem oU{n:Nat}{ws:List Nat}:∀{l:List (Nat×Gd×bF)}{seen:List Nat},∀p∈keepR n ws seen l,yD n p.2=true
 | [],_,p,hp=>by simp[keepR]at hp
 | (k,g,e) :: l,seen,p,hp=>by
   unfold keepR at hp
   repeat' (split at hp)
   all_goals first
    | exact oU p hp
    | (
     rcases mF.1 hp with rfl | hp
     .assumption
     .exact oU p hp)
theorem qy{n:Nat}{ws:List Nat}:∀{l:List (Nat×Gd×bF)}{seen:List Nat},∀p∈keepR n ws seen l,iD p.1 seen=false/\gX l p.1=some ([],.one p.2)
 | [],_,p,hp=>by simp[keepR]at hp
 | (k,g,e) :: l,seen,p,hp=>by
   have akf:iD k seen=true->p∈keepR n ws seen l->iD p.1 seen=false/\gX ((k,g,e) :: l) p.1=some ([],.one p.2):=by
    intro hm hp;obtain⟨h1,h2⟩:=qy p hp;refine⟨h1,?_⟩;rw[aU,if_neg]
    .exact h2
    .rintro rfl;rw[hm]at h1;cases h1
   have Dz:p∈keepR n ws (k :: seen) l->iD p.1 seen=false/\gX ((k,g,e) :: l) p.1=some ([],.one p.2):=by
    intro hp;obtain⟨h1,h2⟩:=qy p hp;rw[iW,rM]at h1;refine⟨h1.2,?_⟩;rw[aU,if_neg]
    .exact h2
    .rintro rfl;exact UL h1.1 rfl
   unfold keepR at hp;split at hp
   .rename_i hm;exact akf hm hp
   .rename_i hm;split at hp
    .exact Dz hp
    .split at hp
     .rename_i hn;have hg:g=[]:=by cases g with | nil=>rfl | cons _ _=>simp[isNil]at hn
      subst hg;split at hp
      .split at hp
       .rcases mF.1 hp with rfl | hp
        .exact⟨hm,by rw[aU,if_pos rfl]⟩
        .exact Dz hp
       .exact Dz hp
      .split at hp
       .rcases mF.1 hp with rfl | hp
        .exact⟨hm,by rw[aU,if_pos rfl]⟩
        .exact Dz hp
       .exact Dz hp
      .exact Dz hp
     .exact Dz hp
theorem jL{α:Type}{l:List α} (h:i < n):(l.take n)[i]?=l[i]?:=by
 rw[uH,if_pos h]
theorem dN.below:∀{x:SC}{y:Value},Bo n x=true->dN h β x y->dN h (β.take n) x y
 | .v _,_,_,c=>c
 | .sl _ _,_,_,c=>c
 | .fp _ _,_,_,c=>c
 | .one _ _,_,_,c=>c
 | .own i _,_,f,⟨b,e,e'⟩=>⟨b,by rw[jL (by have:=oZ f;omega)];exact e,e'⟩
 | .row i,_,f,⟨v,e,e'⟩=>⟨v,by rw[jL (by have:=oZ f;omega)];exact e,e'⟩
 | .sub i _,_,f,⟨v,us,e,e'⟩=>⟨v,us,by rw[jL (by have:=oZ f;omega)];exact e,e'⟩
 | .kV i _ _ _ _,_,f,⟨v,us,g,e,e'⟩=>⟨v,us,g,by rw[jL (by have:=oZ f;omega)];exact e,e'⟩
 | .jA i _ _ _,_,f,⟨v,g,e,e'⟩=>⟨v,g,by rw[jL (by have:=oZ f;omega)];exact e,e'⟩
 | .abs _,_,_,c=>c
 | .junk,_,_,_=>trivial
theorem cZ.below{h:FH}{β:List RV}{n:Nat}:∀{x:SV}{y:Value},yD n x=true->cZ h β x y->cZ h (β.take n) x y
 | .c _,_,f,c=>⟨c.1.below f,c.2⟩
 | .agg _,_,f,⟨ys,e,a⟩=>⟨ys,e,a.allL (λ_ _ f ⟨p,q⟩=>⟨p.below f,q⟩) f⟩
 | .dat _ _,_,_,c=>c
 | .und,_,_,c=>c
theorem Holds.below{h:FH}{β:List RV}{w:World}{n:Nat}:∀{r:ak}{v:RV},kL n r=true->Holds h β w r v->Holds h (β.take n) w r v
 | .blk _ _,.blk _,f,⟨ys,e,a⟩=>⟨ys,e,a.allL (λ_ _ f ⟨p,q⟩=>⟨p.below f,q⟩) f⟩
 | .row _ _ _,.row _,_,c=>c
 | .obj _ _ _,.blk _,_,c=>c
 | .deep _ _ _ _ _ _ _ _,.deep _ _,_,c=>c
 | .mp _ _ _,.row _,_,c=>c
 | .LQ _ _ _ _,.deep _ _,_,c=>c
 | .it _ _ _ _,.blk _,_,c=>c
 | .Jj _ _ _ _,.row _,_,c=>c
 | .Fe _ _ _ _,.deep _ _,_,c=>c
 | .gone,_,_,_=>trivial
theorem dN.kM:∀{x:SC}{y:Value},jU x=true->dN h β x y->∀β',dN h β' x y
 | .v _,_,_,c=>λ_=>c
 | .sl _ _,_,_,c=>λ_=>c
 | .fp _ _,_,_,c=>λ_=>c
 | .abs _,_,_,c=>λ_=>c
 | .junk,_,_,_=>λ_=>trivial
 | .one _ _,_,_,c=>λ_=>c
 | .own _ _,_,f,_=>by simp[jU]at f
 | .row _,_,f,_=>by simp[jU]at f
 | .jA _ _ _ _,_,f,_=>by simp[jU]at f
 | .sub _ _,_,f,_=>by simp[jU]at f
 | .kV _ _ _ _ _,_,f,_=>by simp[jU]at f
theorem cZ.kM{h:FH}{β:List RV} (β':List RV):∀{x:SV}{y:Value},zF x=true->cZ h β x y->cZ h β' x y
 | .c _,_,f,c=>⟨c.1.kM f β',c.2⟩
 | .agg _,_,f,⟨ys,e,a⟩=>⟨ys,e,a.allL (λ_ _ f ⟨p,q⟩=>⟨p.kM f β',q⟩) f⟩
 | .dat _ _,_,_,c=>c
 | .und,_,_,c=>c
theorem jw.kM{h:FH}{β:List RV} (β':List RV):∀{x:bF}{y:Value},qZ x=true->jw h β x y->jw h β' x y
 | .one _,_,f,c=>cZ.kM β' f c
 | .iO _,_,f,⟨ys,e,a⟩=>⟨ys,e,a.allL (R':=cZ h β') (λ_ _ f c=>cZ.kM β' f c) f⟩
theorem OK.take{B:Base}{h0:FH}{T:List ak}{h:FH}{β:List RV}{w:World} (ok:OK B h0 T h β w){n:Nat} (hn:n<=T.length) (below:∀r∈T.take n,kL n r=true):OK B h0 (T.take n) h (β.take n) w where
 below:=ok.below
 dr:=ok.dr
 len:=by simp[ok.len]
 holds:=by
  intro i r v e e';have hi:i < n:=by have:=(fH.1 e).1;simp at this;omega
  have hm:=below r (iJ e);rw[jL hi]at e e';exact(ok.holds i r v e e').below hm
 own:=by
  intro i r v b e l e' hb;have hi:i < n:=by have:=(fH.1 e).1;simp at this;omega
  rw[jL hi]at e e';exact ok.own i r v b e l e' hb
 inj:=by
  intro i j r r' u v b e l e' l' f f' hb hb';have hi:i < n:=by have:=(fH.1 e).1;simp at this;omega
  have hj:j < n:=by have:=(fH.1 e').1;simp at this;omega
  rw[jL hi]at e f;rw[jL hj]at e' f';exact ok.inj i j r r' u v b e l e' l' f f' hb hb'
 hle:=ok.hle
 hw:=ok.hw
 hg:=ok.hg
 kn:=ok.kn
theorem yE{α:Type}{p:α->Bool}:∀{l:List α},allL p l=true->∀x∈l,p x=true
 | [],_,x,hx=>by simp at hx
 | y :: l,h,x,hx=>by
   simp only[allL,ay,A8]at h;rcases mF.1 hx with rfl | hx
   .exact h.1
   .exact yE h.2 x hx
theorem mZ{gl:List Bool}:∀{T:List (Gd×ak)}{n:Nat},(∀p∈T.take n,p.1=[])->eff [] (T.take n)=(eff gl T).take n
 | [],n,_=>by simp[eff]
 | (g,r) :: l,0,_=>by simp[eff]
 | (g,r) :: l,n+1,h=>by
   have hg:g=[]:=h (g,r) (by simp)
   subst hg;simp only[afA,eff];rw[mZ (gl:=gl) (T:=l) λp hp=>h p (by simp[hp])]
theorem yF:∀(rs:List (Nat×ak)) (T:List (Gd×ak)),(jE rs T).length=T.length
 | [],_=>rfl
 | (i,r) :: l,T=>by simp only[jE];rw[yF,fM,qN]
theorem yG{s':St} (aj:Sat N B h0 s' h β w a){ws:List Nat}{sl:List (Nat×SV)}{rs:List (Nat×ak)}
 (hT:pR (aN s.T) s'.T=jE rs s.T) (gT:vO (aN s.T) (jE rs s.T)=true) (gS:FQ (aN s.T) ws sl=true) (hE:EP s' sl)
 (hR:∀p∈keepR (aN s.T) ws [] s.env,gX s'.env p.1=some ([],.one p.2))
 (D:∀t e,gX (oP ws [] s.env) t=some ([],e)->∃z,a.tmps[t]?=some z/\jw h [] e z):
 Sat N B h0 (pq ws s sl rs) h (β.take (aN s.T)) w a:=by
 have e1:=hT;rw[jl]at e1;have g1:∀p∈jE rs s.T,p.1=[]/\kL (aN s.T) p.2=true:=by
  intro p hp;have:=yE gT p hp;rw[ay,A8]at this;refine⟨?_,this.2⟩;have h2:=this.1;cases hh:p.1 with
  | nil=>rfl
  | cons _ _=>rw[hh]at h2;simp[isNil]at h2
 have hlen:aN s.T<=s'.T.length:=by
  have:=oh List.length e1;rw[yF,jY,aZ]at this;rw[aZ];omega
 have look:∀{v:SV}{t:Nat},yD (aN s.T) v=true->gX s'.env t=some ([],.one v)->∃z,a.tmps[t]?=some z/\cZ h (β.take (aN s.T)) v z:=by
  intro v t hb hl;obtain⟨z,q1,q2,_⟩:=aj.env t [] _ hl;exact⟨z,q1,cZ.below hb (q2 rfl)⟩
 have akg:∀{v:SV}{t:Nat},yD (aN s.T) v=true->(∃u,gX s'.env t=some ([],.one u)/\WH u=v)->∃z,a.tmps[t]?=some z/\cZ h (β.take (aN s.T)) v z:=by
  rintro v t hb ⟨u,hl,hu⟩;obtain⟨z,q1,q2,_⟩:=aj.env t [] _ hl;exact⟨z,q1,abD hu (.inr (q2 rfl)) λe c=>cZ.below hb (e▸c)⟩
 refine⟨?_,?_,?_,aj.defers,aj.sz,?_,?_⟩
 .show OK B h0 (eff [] (jE rs s.T)) h (β.take (aN s.T)) w;rw[<-e1,mZ (gl:=s'.gl) λp hp=>by rw[e1]at hp;exact(g1 p hp).1]
  refine aj.ok.take (by rw[iK];exact hlen) ?_
  rw[<-mZ (gl:=s'.gl) λp hp=>by rw[e1]at hp;exact(g1 p hp).1]
  rw[e1];have:∀{l:List (Gd×ak)},(∀p∈l,p.1=[]/\kL (aN s.T) p.2=true)->∀r∈eff [] l,kL (aN s.T) r=true:=by
   intro l
   induction l with
   | nil=>intro _ r hr;simp[eff]at hr
   | cons q l ih=>
     obtain⟨g,r0⟩:=q;intro hh r hr;have hg:=hh (g,r0) (by simp)
     have hg1:g=[]:=hg.1;subst hg1;simp only[eff]at hr;rcases mF.1 hr with rfl | hr
     .exact hg.2
     .exact ih (λp hp=>hh p (by simp[hp])) r hr
  exact this g1
 .intro t G e ht;simp only[pq]at ht ⊢;rw[oQ]at ht;split at ht
  .rename_i x hx;cases ht;obtain⟨v,rfl,rfl,hm⟩:=nC hx;have hb:=yE gS _ hm;rw[ay,A8]at hb;obtain⟨z,q1,q2⟩:=akg hb.1 (J9 hE _ hm);exact⟨z,q1,λ_=>q2,λhh=>by cases hh⟩
  .rw[oQ]at ht;split at ht
   .rename_i x hx;cases ht;obtain⟨v,rfl,rfl,hm⟩:=nC hx;obtain⟨z,q1,q2⟩:=look (oU _ hm) (hR _ hm);exact⟨z,q1,λ_=>q2,λhh=>by cases hh⟩
   .obtain⟨_,_,_,rfl,hf⟩:=jV ht;obtain⟨z,q1,q2⟩:=D t e ht;exact⟨z,q1,λ_=>jw.kM _ hf q2,λhh=>by cases hh⟩
 .intro d i hi;cases hi
 .intro t G e ht;simp only[pq]at ht;rw[oQ]at ht;split at ht
  .rename_i x hx;cases ht;obtain⟨_,_,rfl,_⟩:=nC hx;rfl
  .rw[oQ]at ht;split at ht
   .rename_i x hx;cases ht;obtain⟨_,_,rfl,_⟩:=nC hx;rfl
   .obtain⟨_,_,_,rfl,_⟩:=jV ht;rfl
 .intro p hp;rw[(g1 p hp).1]
def Base.leB(B B':Base):Prop:=B'.toWorld=B.toWorld/\B'.al=B.al/\∀k o,B.nc k o->B'.nc k o
theorem Base.leB.refl(B:Base):B.leB B:=⟨rfl,rfl,λ_ _ h=>h⟩
theorem Base.leB.trans{A B C:Base} (x:A.leB B) (y:B.leB C):A.leB C:=⟨y.1.trans x.1,y.2.1.trans x.2.1,λk o h=>y.2.2 k o (x.2.2 k o h)⟩
def Base.WL(r:Bool) (B B':Base):Prop:=B.leB B'/\(r=true->B'=B)
theorem Base.WL.refl{r:Bool} (B:Base):Base.WL r B B:=⟨.refl B,λ_=>rfl⟩
theorem Base.WL.trans{r:Bool}{A B C:Base} (x:Base.WL r A B) (y:Base.WL r B C):Base.WL r A C:=⟨x.1.trans y.1,λh=>(y.2 h).trans (x.2 h)⟩
theorem OK.NT{B':Base}{T:List ak} (ok:OK B h0 T h β w) (e:B'.toWorld=B.toWorld) (ea:B'.al=B.al) (kn:∀k o,B'.nc k o->w.heap[k]?=some o):OK B' h0 T h β w where
 below:=⟨by rw[e];exact ok.below.os,by rw[e];exact ok.below.tape,by rw[e];exact ok.below.output,by rw[e];exact ok.below.size,by rw[e,ea];exact ok.below.block⟩
 dr:=by rw[e];exact ok.dr
 len:=ok.len
 holds:=ok.holds
 own:=by rw[ea];exact ok.own
 inj:=ok.inj
 hle:=ok.hle
 hw:=ok.hw
 hg:=by rw[ea];exact ok.hg
 kn:=kn
def ownB(T:List ak) (β:List RV) (b:Nat):Prop:=∃(i:Nat) (r:ak) (v:RV),T[i]?=some r/\r.live=true/\β[i]?=some v/\v.has b
abbrev Base.rd(B:Base) (T:List ak) (β:List RV) (A:World):Base:=
 { A with nc:=B.nc,cell:=B.cell,al:=λk=>ownB T β k\/A.heap.size<=k,up:=λ_ h=>.inr h }
theorem OK.enter{T:List ak} (ok:OK B h0 T h β A):OK (B.rd T β A) h T h β A where
 below:=⟨rfl,rfl,rfl,oq _,λ_ _ _=>rfl⟩
 dr:=oq _
 len:=ok.len
 holds:=ok.holds
 own:=λi r v b e hl e' hb=>⟨.inl ⟨i,r,v,e,hl,e',hb⟩,(ok.own i r v b e hl e' hb).2⟩
 inj:=ok.inj
 hle:=FH.le.refl h
 hw:=ok.hw
 hg:=λb o v hh=>.inl hh
 kn:=ok.kn
theorem OK.leave{T:List ak} (ok:OK B h0 T h β A){T':List ak}{h':FH}{A':World}{Br:Base} (e:Br.toWorld=A) (ea:Br.al=(B.rd T β A).al) (en:∀k o,B.nc k o->Br.nc k o) (ok':OK Br h T' h' β' A'):OK B h0 T' h' β' A':=by
 have toB:∀k,Br.al k->B.al k:=by
  intro k hk;rw[ea]at hk;rcases hk with⟨i,r,v,h1,h2,h3,h4⟩ | hk
  .exact(ok.own i r v k h1 h2 h3 h4).1
  .exact B.up k (pI ok.below.size hk)
 subst e;have cell:∀k,ownB T β k->∃o,Br.heap[k]?=some o/\ours o=true:=by
  rintro k ⟨i,r,v,h1,h2,h3,h4⟩;exact(ok.holds i r v h1 h3).cells h2 h4
 refine⟨⟨ok'.below.os.trans ok.below.os,ok'.below.tape.trans ok.below.tape,ok'.below.output.trans ok.below.output,pI ok.below.size ok'.below.size,λk hk ha=>?_⟩,pI ok.dr ok'.dr,ok'.len,ok'.holds,
  λi r v b e1 l1 e2 hb=>⟨toB b (ok'.own i r v b e1 l1 e2 hb).1,(ok'.own i r v b e1 l1 e2 hb).2⟩,ok'.inj,ok.hle.trans ok'.hle,ok'.hw,λb o v hh=>?_,λk o hk=>ok'.kn k o (en k o hk)⟩
 .exact(ok'.below.block k (L8 hk ok.below.size) (λhh=>ha (toB k hh))).trans (ok.below.block k hk ha)
 .rcases ok'.hg b o v hh with h1 | h1
  .exact ok.hg b o v h1
  .exact .inr (toB b h1)
theorem OK.gs{B:Base}{h0:FH}{T:List ak}{h:FH}{β:List RV}{A A':World} (ok:OK B h0 T h β A){G:Nat->Prop} (gs:Gs G A A') (hB:∀k,G k->B.heap.size<=k) (hO:∀k,ownB T β k->¬G k) (hF:∀k o v,h k o=some v->¬G k) (hN:∀k o,B.nc k o->¬G k):OK B h0 T h β A':=by
 have cl:∀b o v,h b o=some v->vis A' b o=some v:=by
  intro b o v hh;have h1:=ok.hw b o v hh;exact(jy (gs.block b (nD h1) (hF b o v hh))).trans h1
 exact {
  below:=⟨gs.os.trans ok.below.os,gs.tape.trans ok.below.tape,gs.output.trans ok.below.output,pI ok.below.size gs.size,λk hk ha=>(gs.block k (L8 hk ok.below.size) (λhg=>by have:=hB k hg;omega)).trans (ok.below.block k hk ha)⟩
  dr:=pI ok.dr gs.dr
  len:=ok.len
  holds:=λi r v e e'=>(ok.holds i r v e e').move (FH.le.refl h) (Ext.refl _) λhl b hb=>gs.block b (ok.own i r v b e hl e' hb).2.1 (hO b ⟨i,r,v,e,hl,e',hb⟩)
  own:=λi r v b e hl e' hb=>by
   obtain⟨h1,h2,h3⟩:=ok.own i r v b e hl e' hb;exact⟨h1,L8 h2 gs.size,h3⟩
  inj:=ok.inj
  hle:=ok.hle
  hw:=cl
  hg:=ok.hg
  kn:=λk o hk=>by
   have h1:=ok.kn k o hk;exact(gs.block k (BI.1 h1).1 (hN k o hk)).trans h1 }
theorem OK.turn{T:List ak} (ok:OK B h0 T h β w){l:Nat}{o o':Obj} (hB:B.al l) (hn:∀k u,B.nc k u->k≠l) (hl:w.heap[l]?=some o) (ho:ours o=false):OK B h0 T h β (w.putObj l o'):=by
 have cl:∀{b i:Nat}{v:Value},vis w b i=some v->vis (w.putObj l o') b i=some v:=by
  intro b i v hv;have hne:b≠l:=by
   intro e;unfold vis at hv;rw[e,hl]at hv;cases o<;>simp_all[ours]
  exact(jy (World.putObj_heap_other hne)).trans hv
 exact {
  below:=ok.below.grown (row:=some l) ⟨rfl,rfl,rfl,by simp,λk _ hk=>World.putObj_heap_other (λe=>hk (by rw[e]))⟩ (λk e=>by cases e;exact hB)
  dr:=ok.dr
  len:=ok.len
  holds:=λi r v e e'=>(ok.holds i r v e e').move (FH.le.refl h) (Ext.refl _) λhlv b hb=>World.putObj_heap_other (by
   rintro rfl;obtain⟨o1,h1,h2⟩:=(ok.holds i r v e e').cells hlv hb;rw[hl]at h1;cases h1;rw[ho]at h2;cases h2)
  own:=λi r v b e hlv e' hb=>by
   obtain⟨h1,h2,h3⟩:=ok.own i r v b e hlv e' hb;exact⟨h1,by simpa using h2,h3⟩
  inj:=ok.inj
  hle:=ok.hle
  hw:=λb o v hh=>cl (ok.hw b o v hh)
  hg:=ok.hg
  kn:=λk u hk=>(World.putObj_heap_other (hn k u hk)).trans (ok.kn k u hk) }
theorem yH{n:Nat}{ws:List Nat}:∀{l:List (Nat×Gd×bF)}{seen:List Nat},∀p∈keepR n ws seen l,iD p.1 ws=false
 | [],_,p,hp=>by simp[keepR]at hp
 | (k,g,e) :: l,seen,p,hp=>by
   unfold keepR at hp
   repeat' (split at hp)
   all_goals first
    | exact yH p hp
    | (
     rcases mF.1 hp with rfl | hp
     .assumption
     .exact yH p hp)
theorem tY(h:vO n T=true):∀p∈T,p.1=[]/\kL n p.2=true:=by
 intro p hp;have:=yE h p hp;rw[ay,A8]at this;refine⟨?_,this.2⟩;have h2:=this.1;cases hh:p.1 with
 | nil=>rfl
 | cons _ _=>rw[hh]at h2;simp[isNil]at h2
theorem Qa{gl:List Bool}:∀{T:List (Gd×ak)},(∀p∈T,p.1=[])->eff [] T=eff gl T
 | [],_=>rfl
 | (g,r) :: l,h=>by
   have hg:g=[]:=h (g,r) (by simp)
   subst hg;simp only[eff];rw[Qa (gl:=gl) (T:=l) λp hp=>h p (by simp[hp])]
theorem Ig(aj:Sat N B h0 s h β w a){ws dr:List Nat}{h':FH} (le:h.le h')
 (refs:∀p∈keepR (aN s.T) ws [] s.env,∃z,a.tmps[p.1]?=some z/\cZ h' β' p.2 z):∀t G e,gX (rdE ws dr s) t=some (G,e)->G=[]/\(iD t ws=false\/iD t dr=false)/\∃z,a.tmps[t]?=some z/\jw h' β' e z:=by
 intro t G e ht;simp only[rdE]at ht;rw[oQ]at ht;split at ht
 .rename_i x hx;cases ht;obtain⟨v,rfl,rfl,hm⟩:=nC hx;obtain⟨z,q1,q2⟩:=refs _ hm;exact⟨rfl,.inl (yH _ hm),z,q1,q2⟩
 .obtain⟨_,hd,hl,rfl,hf⟩:=jV ht;obtain⟨z,q1,q2,_⟩:=aj.env t [] e hl;exact⟨rfl,.inr hd,z,q1,(jw.kM β' hf (q2 rfl)).mono le (Ext.refl _)⟩
theorem WM{B':Base} (aj:Sat N B h0 s h β w a){ws dr:List Nat}{h':FH}{a':Act} (le:h.le h')
 (refs:∀p∈keepR (aN s.T) ws [] s.env,∃z,a.tmps[p.1]?=some z/\cZ h' β' p.2 z){gl:List Bool} (ok:OK B' h0 (eff gl T) h' β' A) (gT:∀p∈T,uK gl.length p.1=true) (ht:a'.tmps=a.tmps) (df:MG B' a'):
 Sat N B' h0 { env:=rdE ws dr s,T:=T,gl:=gl,gs:=[] } h' β' A a' where
 ok:=ok
 env:=λt G e h1=>by
  obtain⟨rfl,_,z,q1,q2⟩:=Ig aj le refs t G e h1;exact⟨z,by rw[ht];exact q1,λ_=>q2,λhh=>by cases hh⟩
 gs:=λd i hi=>by cases hi
 defers:=df
 sz:=by rw[ht];exact aj.sz
 gb:=λt G e h1=>by
  obtain⟨rfl,_⟩:=Ig aj le refs t G e h1;rfl
 gT:=gT
theorem fold_size:∀(l:List (Nat×Value)) (t:Array Value),(l.foldl (λt (p:Nat×Value)=>t.setIfInBounds p.1 p.2) t).size=t.size
 | [],_=>rfl
 | _ :: l,t=>by simp only[Ji];rw[fold_size l];simp
theorem wR{k:Nat}:∀(l:List (Nat×Value)) (t:Array Value),(∀p∈l,p.1≠k)->(l.foldl (λt (p:Nat×Value)=>t.setIfInBounds p.1 p.2) t)[k]?=t[k]?
 | [],_,_=>rfl
 | (p,v) :: l,t,h=>by
   simp only[Ji];rw[wR l _ λq hq=>h q (by simp[hq])]
   exact afu (h (p,v) (by simp))
theorem DC(ps:Array Tmp) (vs:List Value) (t:Array Value):(ps.zip vs.toArray).foldl (λt (p,v)=>t.setIfInBounds p v) t=((tl ps).zip vs).foldl (λt (p:Nat×Value)=>t.setIfInBounds p.1 p.2) t:=by
 cases ps with
 | mk l=>simp
theorem WO{h:FH}{n:Nat}:∀{ps:List Nat}{ss:List Sh}{d:bK ss}{vs:List Value}{t:Array Value},t.size=n->vP n ps ss=true->Ac h ss d vs ->
 (∀k G e,gX (J8 ps ss d) k=some (G,e)->G=[]/\∃z,((ps.zip vs).foldl (λt (p:Nat×Value)=>t.setIfInBounds p.1 p.2) t)[k]?=some z/\∀β,jw h β e z) /\
 (∀k,gX (J8 ps ss d) k=none->iD k ps=false)
 | [],[],d,vs,t,_,_,_=>⟨λk G e hh=>by simp[J8,gX]at hh,λk _=>rfl⟩
 | [],_ :: _,d,vs,t,_,hp,_=>by simp[vP]at hp
 | _ :: _,[],d,vs,t,_,hp,_=>by simp[vP]at hp
 | p :: ps,s :: ss,d,vs,t,hn,hp,hv=>by
   cases vs with
   | nil=>exact hv.elim
   | cons v vs=>
     simp only[vP,ay,A8]at hp;obtain⟨⟨hp1,hp2⟩,hp3⟩:=hp;have hp2:iD p ps=false:=by simpa using hp2
     have hp1:=oZ hp1;obtain⟨i1,i2⟩:=WO (t:=t.setIfInBounds p v) (by simp[hn]) hp3 hv.2
     have hnot:∀q∈ps.zip vs,q.1≠p:=by
      intro q hq e;have hm:q.1∈ps:=(List.of_mem_zip hq).1;rw[e]at hm;have:∀{l:List Nat},p∈l->iD p l=true:=by
       intro l
       induction l with
       | nil=>intro h;cases h
       | cons x l ih=>
         intro h;rw[iW];rcases mF.1 h with rfl | h
         .simp
         .rw[ih h];simp
      rw[this hm]at hp2;cases hp2
     refine⟨λk G e hh=>?_,λk hh=>?_⟩
     .simp only[J8]at hh;rw[aU]at hh;split at hh
      .rename_i hk;subst hk;cases hh;refine⟨rfl,v,?_,λβ=>?_⟩
       .simp only[List.zip_cons_cons,Ji];rw[wR _ _ hnot];rw[Array.getElem?_setIfInBounds_self_of_lt (by omega)]
       .obtain⟨cs,rfl,r⟩:=hv.1;exact jm s r
      .simpa only[List.zip_cons_cons,Ji]using i1 k G e hh
     .simp only[J8]at hh;rw[aU]at hh;split at hh
      .cases hh
      .rename_i hk;rw[iW,i2 k hh,Bool.or_false];cases hb:Nat.beq k p with
       | false=>rfl
       | true=>exact absurd (gJ hb).symm hk
def Apt(n:Nat) (T:List ak) (h:FH) (β:List RV) (G:Nat->Prop):Prop:=(∀b,G b->n<=b)/\(∀b,ownB T β b->¬G b)/\∀b o v,h b o=some v->¬G b
theorem FU{T:List ak}{G:Nat->Prop} (ok':OK B h0 T h β A) (ap:Apt n T h β G) (apb:∀b,G b->b < A.heap.size)
 {B2:Base}{s2:St}{h2:FH}{β2:List RV}{A2:World}{a2:Act} (y8:(B.rd T β A).leB B2) (bC:Sat N B2 h s2 h2 β2 A2 a2):
 OK B h0 (eff s2.gl s2.T) h2 β2 A2/\Apt n (eff s2.gl s2.T) h2 β2 G/\A.heap.size<=A2.heap.size/\(∀k,k < A.heap.size->¬ownB T β k->A2.heap[k]?=A.heap[k]?) /\
  (∀k o,A.heap[k]?=some o->ours o=false->¬ownB T β k):=by
 have same:∀k,k < A.heap.size->¬ownB T β k->A2.heap[k]?=A.heap[k]?:=by
  intro k hk hn;have h1:=bC.ok.below;have h2:=y8.1;have h3:B2.al k↔(ownB T β k\/A.heap.size<=k):=by rw[y8.2.1]
  have h4:=h1.block k (by rw[h2];exact hk) (λhh=>by rcases h3.1 hh with hh | hh<;>first | exact hn hh | omega)
  rw[h2]at h4;exact h4
 refine⟨ok'.leave y8.1 y8.2.1 y8.2.2 bC.ok,⟨ap.1,?_,?_⟩,?_,same,?_⟩
 .rintro b ⟨i,r,v,e1,e2,e3,e4⟩ hb;have hh:=(bC.ok.own i r v b e1 e2 e3 e4).1;rw[y8.2.1]at hh;rcases hh with hh | hh
  .exact ap.2.1 b hh hb
  .have:=apb b hb;omega
 .intro b o v hh hb;rcases bC.ok.hg b o v hh with h1 | h1
  .exact ap.2.2 b o v h1 hb
  .rw[y8.2.1]at h1;rcases h1 with h1 | h1
   .exact ap.2.1 b h1 hb
   .have:=apb b hb;omega
 .have:=bC.ok.below.size;rw[y8.1]at this;exact this
 .rintro k o hk ho ⟨i,r,v,e1,e2,e3,e4⟩;obtain⟨o',q1,q2⟩:=(ok'.holds i r v e1 e3).cells e2 e4;rw[hk]at q1;cases q1;rw[ho]at q2;cases q2
theorem WQ{Ez c:Code} (rec:∀(c':Code),c'=Ez\/c'=c->∀(h0:FH) (E:Env) (B:Base) (s:St) (h:FH) (β:List RV) (w:World) (a:Act) (K:Exit->St->Prop) (Q:Exit->Act->World->Prop) (l:Nat),fU P E->aI E.cx.gd h0->E.rd=true->Sat E.n B h0 s h β w a ->
 iT E c' s K->(∀e s' h' β' w' a' B',Base.WL E.rd B B'->K e s'->h.le h'->Sat E.n B' h0 s' h' β' w' a'->Same (writes c') a a'->Q e a' w')->c'.wpIn (Fence.wide.inRound l) 0 P Q a w)
 (ok:fU P E) (hg:aI E.cx.gd h0){K:Exit->St->Prop} (aj:Sat E.n B h0 s h β w a)
 {g:Operand}{ss:List Sh}{L:List (bK ss)} (gv:Gives P h ss L (a.eval g)){ps:Array Tmp}{ra:RA}
 (k:NR E.n (λs K=>iT { E with rd:=true } Ez s λe s'=>match e with
  | .normal=>iT { E with rd:=true } c s' K
  | _=>False) (dS ra.drop (dS (tl ps) (dS (writes Ez) (writes c)))) ra (tl ps) ss L s K)
 (hrd:E.rd=false) (next:∀e s' h' β' w' a' B',Base.WL E.rd B B'->K e s'->h.le h'->Sat E.n B' h0 s' h' β' w' a'->Same [] a a'->Q e a' w'):(Code.rangeFunc g ps Ez c).wpIn Fence.wide n P Q a w:=by
 unfold NR at k;split at k
 .cases k
 rename_i hpar;obtain⟨⟨x0,i0,t0⟩,kr,kd⟩:=k;obtain⟨ws,hws⟩:∃ws,ws=dS ra.drop (dS (tl ps) (dS (writes Ez) (writes c))):=⟨_,rfl⟩;rw[<-hws]at kr kd;have good:∀i x,i<=L.length->ra.inv i x->vO (aN s.T) (jE (ra.res x) s.T)=true:=by
  intro i x hi hx;cases hd:L[i]? with
  | some d=>
    have:=kr i x d hx hd;split at this
    .cases this
    .rename_i hh;exact hh
  | none=>
    have he:i=aN L:=by rw[aZ];have:=List.getElem?_eq_none_iff.1 hd;omega
    subst he;have:=kd x hx;split at this
    .cases this
    .rename_i hh;exact hh
 have ami:∀x,aN s.T=(jE (ra.res x) s.T).length:=λx=>by rw[yF,aZ]
 have hpl:ps.size=ss.length:=by
  have:∀{l:List Nat}{ss:List Sh},vP E.n l ss=true->l.length=ss.length:=by
   intro l
   induction l with
   | nil=>intro ss h;cases ss with | nil=>rfl | cons _ _=>simp[vP]at h
   | cons x l ih=>
     intro ss h;cases ss with
     | nil=>simp[vP]at h
     | cons s ss=>
       simp only[vP,ay,A8]at h;simp[ih h.2]
  have h1:=this hpar;cases ps;simpa using h1
 have psw:∀t,iD t ws=false->iD t (tl ps)=false/\iD t (writes Ez)=false/\iD t (writes c)=false:=by
  intro t ht;rw[hws,kK,kK,kK,rM,rM,rM]at ht;exact⟨ht.2.1,ht.2.2.1,ht.2.2.2⟩
 have Qb:∀(vs:List Value) t,iD t (tl ps)=false->((ps.zip vs.toArray).foldl (λt (p,v)=>t.setIfInBounds p v) a.tmps)[t]?=a.tmps[t]?:=by
  intro vs t ht;rw[DC];refine wR _ _ λq hq e=>?_
  have hm:q.1∈tl ps:=(List.of_mem_zip hq).1;rw[e]at hm;have:∀{l:List Nat},t∈l->iD t l=true:=by
   intro l
   induction l with
   | nil=>intro h;cases h
   | cons x l ih=>
     intro h;rw[iW];rcases mF.1 h with rfl | h
     .simp
     .rw[ih h];simp
  rw[this hm]at ht;cases ht
 have akh:∀p∈keepR (aN s.T) ws [] s.env,∃z,a.tmps[p.1]?=some z/\cZ h β p.2 z:=by
  intro p hp;obtain⟨z,q1,q2,_⟩:=aj.env _ _ _ (qy p hp).2;exact⟨z,q1,q2 rfl⟩
 have WR:∀kk o,B.nc kk o->kk < w.heap.size:=λkk o hk=>(BI.1 (aj.ok.kn kk o hk)).1
 have hBs:B.heap.size<=w.heap.size:=aj.ok.below.size
 -- the iterator's blocks are no one else's
 let Ap:List ak->FH->List RV->(Nat->Prop)->Prop:=λT h' β' G=>Apt w.heap.size T h' β' G
 have apG:∀{T:List ak}{h':FH}{β':List RV}{G G':Nat->Prop}{A A':World},OK B h0 T h' β' A->w.heap.size<=A.heap.size->Ap T h' β' G->Own' G G' A A'->Ap T h' β' G':=by
  intro T h' β' G G' A A' ok' hsz ⟨a1,a2,a3⟩ ho;refine⟨λb hb=>?_,λb hb hg=>?_,λb o v hb hg=>?_⟩
  .rcases(ho b hb).2 with h1 | h1
   .exact a1 b h1
   .omega
  .rcases(ho b hg).2 with h1 | h1
   .exact a2 b hb h1
   .obtain⟨i,r,v,e1,e2,e3,e4⟩:=hb;have:=(ok'.own i r v b e1 e2 e3 e4).2.1;omega
  .rcases(ho b hg).2 with h1 | h1
   .exact a3 b o v hb h1
   .have:=nD (ok'.hw b o v hb);omega
 have gsO:∀{T:List ak}{h':FH}{β':List RV}{G:Nat->Prop}{A A':World},OK B h0 T h' β' A->Ap T h' β' G->Gs G A A'->OK B h0 T h' β' A':=λok' ⟨a1,a2,a3⟩ gs=>
  ok'.gs gs (λk hk=>pI hBs (a1 k hk)) a2 a3 (λk o hk hg=>by have:=WR k o hk;have:=a1 k hg;omega)
 -- what holds between the rounds;what holds where a round has left
 let I:Nat->(Nat->Prop)->World->Prop:=λi G A=>i<=L.length/\(w.heap.size<=A.heap.size/\∀b,G b->b < A.heap.size)/\∃x h' β',Ap (eff [] (jE (ra.res x) s.T)) h' β' G/\ra.inv i x/\h.le h'/\OK B h0 (eff [] (jE (ra.res x) s.T)) h' β' A/\∀p∈keepR (aN s.T) ws [] s.env,∃z,a.tmps[p.1]?=some z/\cZ h' β' p.2 z
 let Ix:Code->(Nat->Prop)->World->Prop:=λcc G A=>w.heap.size<=A.heap.size/\∃e T gl h' β',Ap (eff gl T) h' β' G/\((cc=.ret/\e=Exit.ret)\/∃j,cc=.exit j/\e=Exit.exit j)/\K e { env:=rdE ws ra.drop s,T:=T,gl:=gl,gs:=[] }/\h.le h'/\OK B h0 (eff gl T) h' β' A /\
  (∀p∈T,uK gl.length p.1=true)/\∀p∈keepR (aN s.T) ws [] s.env,∃z,a.tmps[p.1]?=some z/\cZ h' β' p.2 z
 have dfr:∀A,A.heap[w.heap.size]?=some (.deferred (some []))->∃B':Base,B.leB B'/\MG B' { a with defers:=wQ w.heap.size :: a.defers }/\(∀{T h' β'},OK B h0 T h' β' A->OK B' h0 T h' β' A):=by
  intro A hA;refine⟨{ B with nc:=λk o=>B.nc k o\/(k=w.heap.size/\o=.deferred (some [])),cell:=λk o hh=>hh.elim (B.cell k o) λhh=>by rw[hh.2] },⟨rfl,rfl,λk o hh=>.inl hh⟩,?_,λok'=>ok'.NT rfl rfl (λk o hh=>hh.elim (ok'.kn k o) λhh=>by rw[hh.1,hh.2];exact hA)⟩
  obtain⟨X,x1,x2,x3⟩:=aj.defers;refine⟨w.heap.size :: X,by simp[x1,wQ],?_,?_⟩
  .refine UQ.2 ⟨λhm=>?_,x2⟩
   have:=WR _ _ (x3 _ hm).2;omega
  .intro D hD;rcases mF.1 hD with rfl | hD
   .exact⟨B.up _ hBs,.inr ⟨rfl,rfl⟩⟩
   .exact⟨(x3 D hD).1,.inl (x3 D hD).2⟩
 have fin:∀e cc G A,((cc=.ret/\e=Exit.ret)\/∃j,cc=.exit j/\e=Exit.exit j)->Ix cc G A->A.heap[w.heap.size]?=some (.deferred (some []))->Q e { a with defers:=wQ w.heap.size :: a.defers } A:=by
  rintro e cc G A he ⟨_,e',T,gl,h',β',_,he',kk,le,ok',gT,refs⟩ hA;have hee:e'=e:=by
   rcases he with⟨rfl,rfl⟩ | ⟨j,rfl,rfl⟩<;>rcases he' with⟨h1,h2⟩ | ⟨j',h1,h2⟩<;>first | (cases h1;exact h2) | cases h1
  subst hee;obtain⟨B',lb,df,up⟩:=dfr A hA;exact next _ _ h' β' A _ B' ⟨lb,λhh=>(by rw[hrd]at hh;cases hh)⟩ kk le (WM aj le refs (up ok') gT rfl df) λ_ _=>rfl
 refine TJ gv hpl I Ix ?_ ?_ ?_ ?_ ?_ ?_ ?_ ?_ ?_ (λG A hA=>fin .ret .ret G A (.inl ⟨rfl,rfl⟩) hA) (λj G A hA=>fin (.exit j) (.exit j) G A (.inr ⟨j,rfl,rfl⟩) hA)
 .rintro i G A ⟨_,_,x,h',β',_,_,le,ok',_⟩;exact HW.mono le ok'.hw
 .rintro cc G A ⟨_,e,T,gl,h',β',_,he,kk,le,ok',_⟩;exact HW.mono le ok'.hw
 .rintro i G G' A A' ⟨hi,hsz,x,h',β',ap,i1,le,ok',refs⟩ gs ho;exact⟨hi,⟨pI hsz.1 gs.size,λb hb=>(ho b hb).1⟩,x,h',β',apG ok' hsz.1 ap ho,i1,le,gsO ok' ap gs,refs⟩
 .rintro cc G G' A A' ⟨hsz,e,T,gl,h',β',ap,he,kk,le,ok',gT,refs⟩ gs ho;exact⟨pI hsz gs.size,e,T,gl,h',β',apG ok' hsz ap ho,he,kk,le,gsO ok' ap gs,gT,refs⟩
 .rintro i G A l o o' ⟨hi,hsz,x,h',β',ap,i1,le,ok',refs⟩ hl hA ho;exact⟨hi,⟨by simpa using hsz.1,by simpa using hsz.2⟩,x,h',β',ap,i1,le,ok'.turn (B.up _ (pI hBs hl)) (λkk u hk e=>by have:=WR kk u hk;omega) hA ho,refs⟩
 .rintro cc G A l o o' ⟨hsz,e,T,gl,h',β',ap,he,kk,le,ok',gT,refs⟩ hl hA ho;exact⟨by simpa using hsz,e,T,gl,h',β',ap,he,kk,le,ok'.turn (B.up _ (pI hBs hl)) (λkk u hk e=>by have:=WR kk u hk;omega) hA ho,gT,refs⟩
 .refine⟨Ja _,⟨oq _,λb hb=>hb.elim⟩,x0,h,β,⟨λb hb=>hb.elim,λb _ hb=>hb.elim,λb o v _ hb=>hb.elim⟩,i0,FH.le.refl h,?_,akh⟩
  have g0:=good 0 x0 (Ja _) i0;rw[Qa (gl:=s.gl) λp hp=>(tY g0 p hp).1,<-t0]
  exact aj.ok
 .rintro i d vs G A l o1 TK o2 hd hv ⟨hi,⟨hsz,apb⟩,x,h',β',ap,i1,le,ok',refs⟩ hl hA1 ho1 amj hA2 ho2 hGl;have kk:=kr i x d i1 hd;have gx:=good i x hi i1;rw[gx]at kk;simp only at kk;have blen:β'.length=aN s.T:=by rw[ok'.len,iK,<-ami]
  obtain⟨p1,p2⟩:=WO (t:=a.tmps) (n:=E.n) aj.sz hpar hv;have amk:Sat E.n (B.rd (eff [] (jE (ra.res x) s.T)) β' A) h'
   { env:=dS (J8 (tl ps) ss d) (rdE ws (dS ra.drop (tl ps)) s),T:=jE (ra.res x) s.T,gl:=[],gs:=[] } h' β' A { tmps:=(ps.zip vs.toArray).foldl (λt (p,v)=>t.setIfInBounds p v) a.tmps,defers:=[] }:=by
   refine⟨ok'.enter,?_,?_,MG.nil rfl,?_,?_,?_⟩
   .intro t G e ht;simp only at ht ⊢;rw[oQ]at ht;split at ht
    .rename_i y hy;cases ht;obtain⟨rfl,z,z1,z2⟩:=p1 t G e hy;refine⟨z,by rw[DC];exact z1,λ_=>(z2 β').mono le (Ext.refl _),λhh=>by cases hh⟩
    .rename_i hy;obtain⟨rfl,hm,z,z1,z2⟩:=Ig aj le refs t G e ht;have hps:iD t (tl ps)=false:=p2 t hy;exact⟨z,by rw[Qb vs t hps];exact z1,λ_=>z2,λhh=>by cases hh⟩
   .intro dd ii hh;cases hh
   .rw[DC,fold_size];exact aj.sz
   .intro t G e ht;simp only at ht;rw[oQ]at ht;split at ht
    .rename_i y hy;cases ht;obtain⟨rfl,_⟩:=p1 t G e hy;rfl
    .obtain⟨rfl,_⟩:=Ig aj le refs t G e ht;rfl
   .intro p hp;rw[(tY gx p hp).1]
  have okE:fU P { E with rd:=true }:=⟨ok.prog,ok.hc,ok.Wq,ok.mixed,ok.ti,ok.ct,ok.ip,ok.sq,ok.sf⟩
  refine rec Ez (.inl rfl) h' { E with rd:=true } _ _ h' β' A _ _ _ l okE (hg.mono ok'.hle) rfl amk kk ?_
  rintro e1 s1 h1 β1 A1 a1 B1 ⟨lb1,lr1⟩ k1 le1 iQ sm1;cases e1 with
  | exit j=>exact k1.elim
  | goto j=>exact k1.elim
  | ret=>exact k1.elim
  | panic c=>exact k1.elim
  | outgrown=>exact k1.elim
  | normal=>
  obtain⟨q1,q2,q3,q4,q5⟩:=FU ok' ap apb lb1 iQ;have WS:∀b,b=l\/b=w.heap.size\/G b->A1.heap[b]?=A.heap[b]?:=by
   rintro b (rfl | rfl | hb)
   .exact q4 _ (BI.1 hA1).1 (q5 _ _ hA1 ho1)
   .exact q4 _ (BI.1 hA2).1 (q5 _ _ hA2 ho2)
   .exact q4 b (apb b hb) (λhh=>ap.2.1 b hh hb)
  refine⟨WS,?_⟩;have hB1:A1.heap[l]?=some o1:=(WS l (.inl rfl)).trans hA1;have hl1:l < A1.heap.size:=(BI.1 hB1).1
  -- the record is turned;all else stands
  have okt:OK B h0 (eff s1.gl s1.T) h1 β1 (A1.putObj l TK):=q1.turn (B.up _ (pI hBs (by omega))) (λkk u hk e=>by have:=WR kk u hk;omega) hB1 ho1
  have aki:Sat E.n (B.rd (eff s1.gl s1.T) β1 (A1.putObj l TK)) h1 s1 h1 β1 (A1.putObj l TK) a1:=by
   have hd1:a1.defers=[]:=by
    obtain⟨X,x1,x2,x3⟩:=iQ.defers;cases X with
    | nil=>simpa using x1
    | cons D X=>
      exfalso;obtain⟨d1,d2⟩:=x3 D (by simp)
      rw[lr1 rfl]at d1 d2;have hk:=ok'.kn D _ d2;rcases d1 with d1 | d1
      .obtain⟨i,r,v,e1,e2,e3,e4⟩:=d1;obtain⟨o',q1,q2⟩:=(ok'.holds i r v e1 e3).cells e2 e4;rw[hk]at q1;cases q1;cases q2
      .have:=(BI.1 hk).1;omega
   exact⟨okt.enter,iQ.env,iQ.gs,MG.nil hd1,iQ.sz,iQ.gb,iQ.gT⟩
  have hsz1:w.heap.size<=(A1.putObj l TK).heap.size:=by simp;omega
  have agr:∀b,G b->b < (A1.putObj l TK).heap.size:=λb hb=>by have:=apb b hb;simp;omega
  have hT2:(A1.putObj l TK).heap[w.heap.size]?=some o2:=(World.putObj_heap_other (by omega)).trans ((WS _ (.inr (.inl rfl))).trans hA2)
  have hT1:(A1.putObj l TK).heap[l]?=some TK:=World.putObj_heap_same hl1;refine rec c (.inr rfl) h1 { E with rd:=true } _ _ h1 β1 _ _ _ _ l okE (hg.mono (ok'.hle.trans le1)) rfl aki k1 ?_
  rintro e s2 h2 β2 A2 a2 B2 ⟨y8,_⟩ k2 gK bC vT;obtain⟨ok2,ap2,q8,q9,q10⟩:=FU okt q2 agr y8 bC;have keep:∀b,b=l\/b=w.heap.size\/G b->A2.heap[b]?=(A1.putObj l TK).heap[b]?:=by
   rintro b (rfl | rfl | hb)
   .exact q9 _ (BI.1 hT1).1 (q10 _ _ hT1 amj)
   .exact q9 _ (BI.1 hT2).1 (q10 _ _ hT2 ho2)
   .exact q9 b (agr b hb) (λhh=>q2.2.1 b hh hb)
  split at k2
  .cases k2
  rename_i hR;have hsz2:w.heap.size<=A2.heap.size:=pI hsz1 q8;have WT:∀p∈keepR (aN s.T) ws [] s.env,∃z,a.tmps[p.1]?=some z/\cZ h2 β2 p.2 z:=by
   intro p hp;obtain⟨z,q1,q2,_⟩:=bC.env _ _ _ (qx hR p hp);obtain⟨w1,w2,w3⟩:=psw _ (yH p hp);have e1:=vT p.1 w3;have e2:=sm1 p.1 w2;simp only at e2;rw[e1,e2,Qb vs _ w1]at q1;exact⟨z,q1,q2 rfl⟩
  cases e with
  | normal=>
    simp only at k2;obtain⟨x',j1,j2⟩:=k2;have hi1:i+1<=L.length:=(fH.1 hd).1;have gx':=good (i+1) x' hi1 j1;have et:eff [] (jE (ra.res x') s.T)=(eff s2.gl s2.T).take (aN s.T):=by
     rw[jl]at j2;rw[<-j2,mZ (gl:=s2.gl) λp hp=>by rw[j2]at hp;exact(tY gx' p hp).1]
    refine⟨keep,hi1,⟨hsz2,λb hb=>L8 (agr b hb) q8⟩,x',h2,β2.take (aN s.T),?_,j1,(le.trans le1).trans gK,?_,λp hp=>?_⟩
    .refine⟨ap2.1,?_,ap2.2.2⟩;rintro b ⟨i,r,v,e1,e2,e3,e4⟩ hb;rw[et]at e1;have hi:i < aN s.T:=by have:=(fH.1 e1).1;simp at this;omega
     rw[jL hi]at e1 e3;exact ap2.2.1 b ⟨i,r,v,e1,e2,e3,e4⟩ hb
    .rw[et];rw[jl]at j2;have hlen:aN s.T<=s2.T.length:=by
      have:=oh List.length j2;rw[yF,jY,aZ]at this;rw[aZ];omega
     refine ok2.take (by rw[iK];exact hlen) ?_
     rw[<-et];have:∀{l:List (Gd×ak)},(∀p∈l,p.1=[]/\kL (aN s.T) p.2=true)->∀r∈eff [] l,kL (aN s.T) r=true:=by
      intro l
      induction l with
      | nil=>intro _ r hr;simp[eff]at hr
      | cons q l ih=>
        obtain⟨g,r0⟩:=q;intro hh r hr;have hg:=hh (g,r0) (by simp)
        have hg1:g=[]:=hg.1;subst hg1;simp only[eff]at hr;rcases mF.1 hr with rfl | hr
        .exact hg.2
        .exact ih (λp hp=>hh p (by simp[hp])) r hr
     exact this (tY gx')
    .obtain⟨z,q1,q2⟩:=WT p hp;exact⟨z,q1,cZ.below (oU p hp) q2⟩
  | ret=>exact⟨keep,hsz2,.ret,s2.T,s2.gl,h2,β2,ap2,.inl ⟨rfl,rfl⟩,k2,(le.trans le1).trans gK,ok2,bC.gT,WT⟩
  | exit j=>exact⟨keep,hsz2,.exit j,s2.T,s2.gl,h2,β2,ap2,.inr ⟨j,rfl,rfl⟩,k2,(le.trans le1).trans gK,ok2,bC.gT,WT⟩
  | goto t=>exact k2.elim
  | panic ch=>exact k2.elim
  | outgrown=>exact k2.elim
 .rintro G A ⟨_,_,x,h',β',_,i1,le,ok',refs⟩ hA;have kk:=kd x (by rw[aZ];exact i1)
  have gx:=good _ x (oq _) i1;rw[gx]at kk;simp only at kk;obtain⟨B',lb,df,up⟩:=dfr A hA;exact next _ _ h' β' A _ B' ⟨lb,λhh=>(by rw[hrd]at hh;cases hh)⟩ kk le (WM aj le refs (up ok') (λp hp=>by rw[(tY gx p hp).1]) rfl df) λ_ _=>rfl
theorem iE{P:Program}{n:Nat}:∀(c:Code){h0:FH}{E:Env} (ok:fU P E) (hg:aI E.cx.gd h0){F:Fence} (hF:Wd F) (hr:E.rd=false->F=Fence.wide){B:Base}{s:St}{h:FH}{β:List RV}{w:World}{a:Act}{K:Exit->St->Prop}{Q:Exit->Act->World->Prop},Sat E.n B h0 s h β w a ->
 iT E c s K->(∀e s' h' β' w' a' B',Base.WL E.rd B B'->K e s'->h.le h'->Sat E.n B' h0 s' h' β' w' a'->Same (writes c) a a'->Q e a' w')->c.wpIn F n P Q a w
 | .skip,h0,E,ok,hg,F,hF,hr,B,s,h,β,w,a,K,Q,aj,k,next=>wpIn_skip (next _ _ _ _ _ _ _ (.refl _) k (FH.le.refl h) aj (Same.refl _ _))
 | .exit i,h0,E,ok,hg,F,hF,hr,B,s,h,β,w,a,K,Q,aj,k,next=>wpIn_exit (next _ _ _ _ _ _ _ (.refl _) k (FH.le.refl h) aj (Same.refl _ _))
 | .ret,h0,E,ok,hg,F,hF,hr,B,s,h,β,w,a,K,Q,aj,k,next=>wpIn_ret (next _ _ _ _ _ _ _ (.refl _) k (FH.le.refl h) aj (Same.refl _ _))
 | .region id ops false,h0,E,ok,hg,F,hF,hr,B,s,h,β,w,a,K,Q,aj,k,next=>by
   simp only[iT]at k;split at k
   .cases k
   rename_i hnd;have et:tl ops=ops.toList:=by cases ops;rfl
   rw[et]at hnd k;refine NG (R:=λa w=>Q .normal a w) hF (λ_ _ hh=>hh) hnd (Ia ok hg ops.toList aj (by rw[et];exact k) λs' h' β' w' a' k' le aP sm=>next .normal _ _ _ _ _ _ (.refl _) k' le aP.clean ?_)
   simp only[writes];rw[et];exact sm
 | .seq x y,h0,E,ok,hg,F,hF,hr,B,s,h,β,w,a,K,Q,aj,k,next=>by
   simp only[iT]at k;split at k
   .rename_i la _;obtain⟨β0,ags⟩:=aj.wP la.pad;clear aj;generalize wP la.pad s=s at ags k;generalize β0=β at ags;have aj:=ags;obtain⟨k1,k2⟩:=k;have D0:∀h' a',h.le h'->Same (writes x) a a'->∀t e,gX (oP (dS la.drop (writes x)) [] s.env) t=some ([],e)->∃z,a'.tmps[t]?=some z/\jw h' [] e z:=by
     intro h' a' le sm t e ht;obtain⟨_,hw,hl,_,hf⟩:=jV ht;obtain⟨z,q1,q2,_⟩:=aj.env t [] e hl;exact⟨z,by rw[sm t (by rw[kK,rM]at hw;exact hw.2)];exact q1,(jw.kM [] hf (q2 rfl)).mono le (Ext.refl _)⟩
    refine wpIn_seq (iE x ok hg hF hr aj k1 λe s' h' β' w' a' B1 lb k' le aP sm=>?_)
    cases e with
    | normal=>
      simp only at k';unfold akc at k';obtain⟨h1,β1,le1,bC⟩:=Sat.rV aP la.Ey la.tJ la.nil la.oz la.deep;obtain⟨β20,akk⟩:=bC.mJ la.ren;obtain⟨β2,NS⟩:=akk.rY la.can;split at k'
      .rename_i hR;obtain⟨v,j1,j2,j3⟩:=k';have kk:=k2 v j1;split at kk
       .cases kk
       .rename_i hc;rw[ay,A8]at hc;exact iE y ok hg hF hr (yG NS j3 hc.1 hc.2 j2 (qx hR) (D0 h1 a' (le.trans le1) sm)) kk λe s2 h2 β3 w2 a2 B2 y8 k3 gK WJ vT=>next e s2 h2 β3 w2 a2 B2 (lb.trans y8) k3 ((le.trans le1).trans gK) WJ (sm.left.trans vT.right)
      .exact k'.elim
    | exit i=>exact next _ _ _ _ _ _ _ lb k' le aP sm.left
    | goto l=>exact next _ _ _ _ _ _ _ lb k' le aP sm.left
    | ret=>exact next _ _ _ _ _ _ _ lb k' le aP sm.left
    | panic ch=>exact next _ _ _ _ _ _ _ lb k' le aP sm.left
    | outgrown=>exact next _ _ _ _ _ _ _ lb k' le aP sm.left
   .refine wpIn_seq (iE x ok hg hF hr aj k λe s' h' β' w' a' B1 lb k' le aP sm=>?_)
    cases e with
    | normal=>exact iE y ok hg hF hr aP k' λe s2 h2 β2 w2 a2 B2 y8 k2 gK bC vT=>next e s2 h2 β2 w2 a2 B2 (lb.trans y8) k2 (le.trans gK) bC (sm.left.trans vT.right)
    | exit i=>exact next _ _ _ _ _ _ _ lb k' le aP sm.left
    | goto l=>exact next _ _ _ _ _ _ _ lb k' le aP sm.left
    | ret=>exact next _ _ _ _ _ _ _ lb k' le aP sm.left
    | panic ch=>exact next _ _ _ _ _ _ _ lb k' le aP sm.left
    | outgrown=>exact next _ _ _ _ _ _ _ lb k' le aP sm.left
 | .cond c x y,h0,E,ok,hg,F,hF,hr,B,s,h,β,w,a,K,Q,aj,k,next=>by
   simp only[iT]at k;split at k
   .rename_i b hb;have hc:a.eval c=.bool b:=(aK aj (hg.mono aj.ok.hle) (show gv s.gl []=true from rfl) hb).1.1
    refine wpIn_cond_split hc (λht=>iE x ok hg hF hr aj ((ah.1 k).1 ht) λe s' h' β' w' a' B1 lb k' le aP sm=>next _ _ _ _ _ _ _ lb k' le aP sm.left)
     (λhf=>iE y ok hg hF hr aj ((ah.1 k).2 hf) λe s' h' β' w' a' B1 lb k' le aP sm=>next _ _ _ _ _ _ _ lb k' le aP sm.right)
   .cases k
 | .block id c,h0,E,ok,hg,F,hF,hr,B,s,h,β,w,a,K,Q,aj,k,next=>by
   refine wpIn_block (iE c ok hg hF hr aj k λe s' h' β' w' a' B1 lb k' le aP sm=>?_)
   cases e with
   | normal=>exact next _ _ _ _ _ _ _ lb k' le aP sm
   | exit i=>
     simp only at k';simp only[Exit.inBlock];split at k'
     .rename_i hi;have:i=id:=gJ hi;rw[if_pos this];exact next _ _ _ _ _ _ _ lb k' le aP sm
     .rename_i hi;have:¬i=id:=λhh=>by rw[hh]at hi;simp at hi
      rw[if_neg this];exact next _ _ _ _ _ _ _ lb k' le aP sm
   | goto l=>exact next _ _ _ _ _ _ _ lb k' le aP sm
   | ret=>exact next _ _ _ _ _ _ _ lb k' le aP sm
   | panic ch=>exact next _ _ _ _ _ _ _ lb k' le aP sm
   | outgrown=>exact next _ _ _ _ _ _ _ lb k' le aP sm
 | .loop c,h0,E,ok,hg,F,hF,hr,B,s,h,β,w,a,K,Q,aj,k,next=>by
   simp only[iT]at k;split at k
   .rename_i la _;obtain⟨h1,β1,le1,iQ⟩:=Sat.rV aj la.Ey la.tJ la.nil la.oz la.deep
    replace next:=λe s' h' β' w' a' B1 lb k' le aP sm=>next e s' h' β' w' a' B1 lb k' (le1.trans le) aP sm
    clear le1 aj;clear h
    rename FH=>h
    generalize rV s la.Ey la.tJ la.nil la.oz la.deep=s at iQ k;obtain⟨β2,aj⟩:=iQ.wP la.pad;clear iQ;have iQ:=aj;clear aj;generalize wP la.pad s=s at iQ k;have aj:=iQ;clear iQ;obtain⟨⟨x,i1,i2,i3⟩,k2⟩:=k;have good:∀x,la.inv x->vO (aN s.T) (jE (la.res x) s.T)=true/\FQ (aN s.T) (dS la.drop (writes c)) (la.slots x)=true /\
     iT E c (pq (dS la.drop (writes c)) s (la.slots x) (la.res x)) (λe s'=>match e with
      | .normal=>match Dx (rY la.can (mJ la.ren s')) (keepR (aN s.T) (dS la.drop (writes c)) [] s.env) with
        | true=>∃x',la.inv x'/\EP (rY la.can (mJ la.ren s')) (la.slots x')/\pR (aN s.T) (rY la.can (mJ la.ren s')).T=jE (la.res x') s.T/\la.meas x' < la.meas x
        | false=>False
      | e=>K e s'):=by
     intro x hx;have:=k2 x hx;split at this
     .cases this
     .rename_i hc;rw[ay,A8]at hc;exact⟨hc.1,hc.2,this⟩
    have D0:∀h' a',h.le h'->Same (writes c) a a'->∀t e,gX (oP (dS la.drop (writes c)) [] s.env) t=some ([],e)->∃z,a'.tmps[t]?=some z/\jw h' [] e z:=by
     intro h' a' le sm t e ht;obtain⟨_,hw,hl,_,hf⟩:=jV ht;obtain⟨z,q1,q2,_⟩:=aj.env t [] e hl;exact⟨z,by rw[sm t (by rw[kK,rM]at hw;exact hw.2)];exact q1,(jw.kM [] hf (q2 rfl)).mono le (Ext.refl _)⟩
    refine wpIn_loop_ghost (λn a' w'=>∃x h' β' B1,Base.WL E.rd B B1/\la.meas x=n/\la.inv x/\h.le h'/\Sat E.n B1 h0 (pq (dS la.drop (writes c)) s (la.slots x) (la.res x)) h' β' w' a'/\Same (writes c) a a') (la.meas x) ?_ ?_
    .obtain⟨g1,g2,_⟩:=good x i1;refine⟨x,h,_,B,.refl _,rfl,i1,FH.le.refl h,yG aj ?_ g1 g2 i2 (λp hp=>(qy p hp).2) (D0 h a (FH.le.refl h) (Same.refl _ _)),Same.refl _ _⟩
     rw[<-i3,jl,aZ,aaP]
    .rintro n a' w' ⟨x,h',β',B1,lb,rfl,hx,le,aP,sm⟩;obtain⟨g1,g2,kk⟩:=good x hx;refine iE c ok hg hF hr aP kk λe s2 h2 β2 w2 a2 B2 y8 k2 gK bC vT=>?_
     cases e with
     | normal=>
       simp only at k2;split at k2
       .rename_i hR;obtain⟨x',j1,j2,j3,j4⟩:=k2;obtain⟨g1',g2',_⟩:=good x' j1;obtain⟨β30,akl⟩:=bC.mJ la.ren;obtain⟨β3,bC⟩:=akl.rY la.can;refine⟨la.meas x',j4,x',h2,_,B2,lb.trans y8,rfl,j1,le.trans gK,yG bC j3 g1' g2' j2 (qx hR) (D0 h2 a2 (le.trans gK) (sm.trans vT)),sm.trans vT⟩
       .cases k2
     | exit i=>exact next _ _ _ _ _ _ _ (lb.trans y8) k2 (le.trans gK) bC (sm.trans vT)
     | goto l=>exact next _ _ _ _ _ _ _ (lb.trans y8) k2 (le.trans gK) bC (sm.trans vT)
     | ret=>exact next _ _ _ _ _ _ _ (lb.trans y8) k2 (le.trans gK) bC (sm.trans vT)
     | panic ch=>exact next _ _ _ _ _ _ _ (lb.trans y8) k2 (le.trans gK) bC (sm.trans vT)
     | outgrown=>exact next _ _ _ _ _ _ _ (lb.trans y8) k2 (le.trans gK) bC (sm.trans vT)
   .rename_i m _;refine wpIn_loop_rounds m ?_;have key:∀(m:Nat){B:Base}{s:St}{h:FH}{β:List RV}{w:World}{a:Act}{K:Exit->St->Prop}{Q:Exit->Act->World->Prop},Sat E.n B h0 s h β w a->Ie (iT E c) m s K ->
     (∀e s' h' β' w' a' B',Base.WL E.rd B B'->K e s'->h.le h'->Sat E.n B' h0 s' h' β' w' a'->Same (writes c) a a'->Q e a' w')->Code.roundsIn F n P c Q m a w:=by
     intro m
     induction m with
     | zero=>intro B s h β w a K Q aj k next;cases k
     | succ m ih=>
       intro B s h β w a K Q aj k next
       rw[roundsIn_succ];refine iE c ok hg hF hr aj k λe s2 h2 β2 w2 a2 B2 y8 k2 gK bC vT=>?_
       cases e with
       | normal=>exact ih bC k2 λe s3 h3 β3 w3 a3 B3 lb3 k3 le3 NS sm3=>next e s3 h3 β3 w3 a3 B3 (y8.trans lb3) k3 (gK.trans le3) NS (vT.trans sm3)
       | exit i=>exact next _ _ _ _ _ _ _ y8 k2 gK bC vT
       | goto l=>exact next _ _ _ _ _ _ _ y8 k2 gK bC vT
       | ret=>exact next _ _ _ _ _ _ _ y8 k2 gK bC vT
       | panic ch=>exact next _ _ _ _ _ _ _ y8 k2 gK bC vT
       | outgrown=>exact next _ _ _ _ _ _ _ y8 k2 gK bC vT
    exact key m aj k next
   .cases k
 | .region id ops true,h0,E,ok,hg,F,hF,hr,B,s,h,β,w,a,K,Q,aj,k,next=>by
   simp only[iT]at k;split at k
   .cases k
   rename_i hnd;have et:tl ops=ops.toList:=by cases ops;rfl
   cases hma:zB E.cx (tl ops) with
   | true=>
     rw[hma]at k;simp only at k;cases hlx:aby ops with
     | false=>rw[hlx]at k;cases k
     | true=>
       rw[hlx]at k;exact WE ok hg hlx aj k hF (by rw[et]at hnd;exact hnd) λs' h' β' w' a' k' le aP sm=>next .normal _ _ _ _ _ _ (.refl _) k' le aP.clean sm
   | false=>
   rw[hma]at k;simp only at k;cases PG:orB E.cx.rt (J6 E (tl ops)) with
   | true=>
     rw[PG]at k;simp only at k;cases hd:yC ops with
     | none=>rw[hd]at k;cases k
     | some l=>
       rw[hd]at k;exact WG ok hg hd aj k hF (by rw[et]at hnd;exact hnd) λs' h' β' w' a' k' le aP sm=>next .normal _ _ _ _ _ _ (.refl _) k' le aP.clean sm
   | false=>
   rw[PG]at k;simp only at k;cases hd:uY ops with
   | none=>rw[hd]at k;cases k
   | some l=>
     rw[hd]at k;exact P8 ok hg hd aj k hF (by rw[et]at hnd;exact hnd) λs' h' β' w' a' k' le aP sm=>next .normal _ _ _ _ _ _ (.refl _) k' le aP.clean sm
 | .rangeFunc g ps Ez c,h0,E,ok,hg,F,hF,hr,B,s,h,β,w,a,K,Q,aj,k,next=>by
   simp only[iT]at k;split at k
   .cases k
   rename_i hrd;have hF':=hr hrd;subst hF';split at k
   .rename_i P' ss L hgE;split at k
    .rename_i ra _;obtain⟨hP,k⟩:=k;have hP:=ok.prog _ hP;subst hP;have gv0:Gives P' h ss L (a.eval g):=(aK aj (hg.mono aj.ok.hle) (show gv s.gl []=true from rfl) hgE).1
     obtain⟨h1,β1,le1,bC⟩:=Sat.rV aj ra.Ey ra.tJ ra.nil ra.oz ra.deep
     replace next:=λe s' h' β' w' a' B1 lb k' le aP sm=>next e s' h' β' w' a' B1 lb k' (le1.trans le) aP sm
     have gv1:=Ew.xA (x:=.seq P' ss L) le1 gv0;generalize rV s ra.Ey ra.tJ ra.nil ra.oz ra.deep=s2 at bC k;refine WQ (λc' hc' h0' E' B' s' h' β' w' a' K' Q' l ok' hg' he aP k' next'=>?_) ok hg bC gv1 k hrd next
     rcases hc' with rfl | rfl
     .exact iE _ ok' hg' (F:=Fence.wide.inRound l) (.inr ⟨l,rfl⟩) (λhh=>by rw[he]at hh;cases hh) aP k' next'
     .exact iE _ ok' hg' (F:=Fence.wide.inRound l) (.inr ⟨l,rfl⟩) (λhh=>by rw[he]at hh;cases hh) aP k' next'
    .cases k
   .cases k
 | .scope _,h0,E,ok,hg,F,hF,hr,B,s,h,β,w,a,K,Q,aj,k,next=>k.elim
 | .label _,h0,E,ok,hg,F,hF,hr,B,s,h,β,w,a,K,Q,aj,k,next=>k.elim
 | .goto _,h0,E,ok,hg,F,hF,hr,B,s,h,β,w,a,K,Q,aj,k,next=>k.elim
 | .refuse _,h0,E,ok,hg,F,hF,hr,B,s,h,β,w,a,K,Q,aj,k,next=>k.elim
abbrev resV(cx:Cx) (s:St) (r:ResultVar) (K:SV->Prop):Prop:=match r with
 | .tmp t=>match gX s.env t with
   | some ([],.one v)=>K v
   | _=>False
 | .cell p t=>match gX s.env p with
   | some ([],.one (.c q))=>sK cx s [] t q λe=>match e with
     | .one v=>K v
     | _=>False
   | _=>False
abbrev WU(cx:Cx) (s:St):List ResultVar->(List SV->Prop)->Prop
 | [],K=>K []
 | r :: l,K=>resV cx s r λv=>WU cx s l λvs=>K (v :: vs)
abbrev NU(i:Nat):List (Nat×ak)->Bool
 | []=>false
 | (j,_) :: l=>match Nat.beq i j with
   | true=>true
   | false=>NU i l
abbrev selC(T:List (Gd×ak)) (x:SC) (acc:List (Nat×ak)):Option (SC×List (Nat×ak)):=match x with
 | .v u=>some (.v u,acc)
 | .sl sh l=>some (.sl sh l,acc)
 | .fp sh d=>some (.fp sh d,acc)
 | .one sh d=>some (.one sh d,acc)
 | .abs x=>some (.abs x,acc)
 | .row i=>match dU T i with
   | some ([],.row t sh l)=>match NU i acc with
     | true=>none
     | false=>some (.row (aN acc),snoc acc (i,.row t sh l))
   | some ([],.deep t sh l tt e so own hs)=>match NU i acc with
     | true=>none
     | false=>some (.row (aN acc),snoc acc (i,.deep t sh l tt e so own hs))
   | some ([],.mp k sh l)=>match NU i acc with
     | true=>none
     | false=>some (.row (aN acc),snoc acc (i,.mp k sh l))
   | _=>none
 | _=>none
abbrev Ko(T:List (Gd×ak)):List SC->List (Nat×ak)->Option (List SC×List (Nat×ak))
 | [],acc=>some ([],acc)
 | x :: l,acc=>match selC T x acc with
   | some (y,acc)=>match Ko T l acc with
     | some (m,acc)=>some (y :: m,acc)
     | none=>none
   | none=>none
abbrev agt(T:List (Gd×ak)) (v:SV) (acc:List (Nat×ak)):Option (SV×List (Nat×ak)):=match v with
 | .c x=>match selC T x acc with
   | some (y,acc)=>some (.c y,acc)
   | none=>none
 | .agg xs=>match Ko T xs acc with
   | some (ys,acc)=>some (.agg ys,acc)
   | none=>none
 | .dat sh d=>some (.dat sh d,acc)
 | .und=>none
abbrev Kq(T:List (Gd×ak)):List SV->List (Nat×ak)->Option (List SV×List (Nat×ak))
 | [],acc=>some ([],acc)
 | x :: l,acc=>match agt T x acc with
   | some (y,acc)=>match Kq T l acc with
     | some (m,acc)=>some (y :: m,acc)
     | none=>none
   | none=>none
abbrev akm:List SV->bF
 | [v]=>.one v
 | vs=>.iO vs
abbrev TL:List (Nat×ak)->List ak
 | []=>[]
 | (_,r) :: l=>r :: TL l
abbrev abE(T:List (Gd×ak)) (vs:List SV) (R:List ak->bF->Prop):Prop:=match Kq T vs []with
 | some (vs',acc)=>R (TL acc) (akm vs')
 | none=>False
abbrev Az(n:Nat):List SV->List (Nat×Gd×bF)
 | []=>[]
 | v :: l=>(n,[],.one v) :: Az (Nat.succ n) l
abbrev frC(T:List (Gd×ak)) (x:SC):Option (List (Gd×ak)×SC):=match x with
 | .row i=>match dU T i with
   | some ([],.row _ sh l)=>some (dh T i ([],.gone),.sl sh l)
   | some ([],.deep _ sh l _ _ _ _ [])=>some (dh T i ([],.gone),.sl sh l)
   | some ([],.mp k sh l)=>some (dh T i ([],.gone),.one (.mp k sh) l)
   | _=>none
 | x=>some (T,x)
abbrev frL(T:List (Gd×ak)):List SC->Option (List (Gd×ak)×List SC)
 | []=>some (T,[])
 | x :: l=>match frC T x with
   | some (T,y)=>match frL T l with
     | some (T,m)=>some (T,y :: m)
     | none=>none
   | none=>none
abbrev frV(T:List (Gd×ak)) (v:SV):Option (List (Gd×ak)×SV):=match v with
 | .c x=>match frC T x with
   | some (T,y)=>some (T,.c y)
   | none=>none
 | .agg xs=>match frL T xs with
   | some (T,ys)=>some (T,.agg ys)
   | none=>none
 | v=>some (T,v)
abbrev coV(c:RC) (T:List (Gd×ak)) (v:SV) (K:List (Gd×ak)->SV->Prop):Prop:=match c with
 | .keep=>K T v
 | .data sh=>match frV T v with
   | some (T,v)=>match toDat sh v with
     | some d=>K T (gV sh d)
     | none=>False
   | none=>False
 | .row t sh=>match v with
   | .c (.v (.slice none 0 0))=>K (snoc T ([],.row t sh [])) (.c (.row (aN T)))
   | v=>K T v
 | .hd t sh rest=>match v with
   | .agg (x :: xs)=>match frL T xs with
     | some (T',ys)=>match takeD rest ys with
       | some (d,[])=>match flat rest d with
         | some zs=>match x with
           | .v (.slice none 0 0)=>K (snoc T' ([],.row t sh [])) (.agg (.row (aN T') :: zs))
           | x=>K T' (.agg (x :: zs))
         | none=>False
       | _=>False
     | none=>False
   | _=>False
abbrev coK:List RC->List (Gd×ak)->List SV->(List (Gd×ak)->List SV->Prop)->Prop
 | [],T,vs,K=>K T vs
 | _ :: _,T,[],K=>K T []
 | c :: cs,T,v :: vs,K=>coV c T v λT v=>coK cs T vs λT vs=>K T (v :: vs)
section
variable {B:Base}{h0:FH}{gl:List Bool}{w:World}
theorem WV{T':List (Gd×ak)} (ok:OK B h0 (eff gl T) h β w){x x':SC} (e:frC T x=some (T',x')) (c:dN h β x y):
 ∃h',h.le h'/\OK B h0 (eff gl T') h' β w/\dN h' β x' y:=by
 unfold frC at e;split at e
 .rename_i i;split at e
  .rename_i t sh l hT;cases e;have fG:(eff gl T)[i]?=some (.row t sh l):=by rw[jc,<-eU,hT];rfl
   obtain⟨h',le,ok',sl⟩:=ok.freeze fG (ok.row_of fG c);exact⟨h',le,by rw[fC];exact ok',sl⟩
  .rename_i t sh l t2 e2 so own hT;cases e;have fG:(eff gl T)[i]?=some (.deep t sh l t2 e2 so own []):=by rw[jc,<-eU,hT];rfl
   obtain⟨us,hu,hd⟩:=ok.uO fG c;obtain⟨le,ok',vis⟩:=ok.uJ fG rfl hu;exact⟨_,le,by rw[fC];exact ok',hd.data le λb hb o z hz=>vis b hb o z hz⟩
  .rename_i k sh l hT;cases e;have fG:(eff gl T)[i]?=some (.mp k sh l):=by rw[jc,<-eU,hT];rfl
   have hu:=ok.aeY fG c;obtain⟨le,ok',vs⟩:=ok.uJ fG rfl hu;exact⟨_,le,by rw[fC];exact ok',PO (β:=β) (ok.holds i _ _ fG hu) le λb hb o z hz=>vs b hb o z hz⟩
  .cases e
 .cases e;exact⟨h,FH.le.refl h,ok,c⟩
theorem NV:∀{xs xs':List SC}{T T':List (Gd×ak)}{h:FH}{β:List RV}{ys:List Value},OK B h0 (eff gl T) h β w->frL T xs=some (T',xs')->aO (λx y=>dN h β x y/\dD y) xs ys ->
 ∃h',h.le h'/\OK B h0 (eff gl T') h' β w/\aO (λx y=>dN h' β x y/\dD y) xs' ys
 | [],xs',T,T',h,β,[],ok,e,_=>by simp[frL]at e;obtain⟨rfl,rfl⟩:=e;exact⟨h,FH.le.refl h,ok,trivial⟩
 | x :: l,xs',T,T',h,β,y :: ys,ok,e,⟨c,r⟩=>by
   unfold frL at e;split at e
   .rename_i T1 x1 h1;split at e
    .rename_i T2 m h2;cases e;obtain⟨ha,le1,ok1,c1⟩:=WV ok h1 c.1;obtain⟨hb,gK,ok2,c2⟩:=NV ok1 h2 (r.mono λ_ _ q=>⟨q.1.mono le1 (Ext.refl β),q.2⟩)
     exact⟨hb,le1.trans gK,ok2,⟨c1.mono gK (Ext.refl β),c.2⟩,c2⟩
    .cases e
   .cases e
theorem agu{T':List (Gd×ak)} (ok:OK B h0 (eff gl T) h β w){x x':SV} (e:frV T x=some (T',x')) (c:cZ h β x y):
 ∃h',h.le h'/\OK B h0 (eff gl T') h' β w/\cZ h' β x' y:=by
 unfold frV at e;split at e
 .split at e
  .rename_i T1 y1 h1;cases e;obtain⟨h',le,ok',c'⟩:=WV ok h1 c.1;exact⟨h',le,ok',c',c.2⟩
  .cases e
 .split at e
  .rename_i T1 y1 h1;cases e;obtain⟨ys,rfl,a⟩:=c;obtain⟨h',le,ok',c'⟩:=NV ok h1 a;exact⟨h',le,ok',ys,rfl,c'⟩
  .cases e
 .cases e;exact⟨h,FH.le.refl h,ok,c⟩
theorem agv(ok:OK B h0 (eff gl T) h β w){c:RC}{v:SV}{K:List (Gd×ak)->SV->Prop} (k:coV c T v K) (cv:cZ h β v y):
 ∃T' v' h' β',K T' v'/\h.le h'/\Ext β β'/\OK B h0 (eff gl T') h' β' w/\cZ h' β' v' y:=by
 unfold coV at k;split at k
 .exact⟨T,v,h,β,k,FH.le.refl h,Ext.refl β,ok,cv⟩
 .split at k
  .rename_i T1 v1 h1;split at k
   .rename_i d hd;obtain⟨h',le,ok',c'⟩:=agu ok h1 cv;obtain⟨cs,rfl,rd⟩:=toDat_ok hd c';exact⟨T1,_,h',β,k,le,Ext.refl β,ok',jm _ rd⟩
   .cases k
  .cases k
 .rename_i t sh;split at k
  .obtain⟨e,_⟩:=cv;obtain⟨rfl,_⟩:=e;refine⟨_,_,h,β++[.row (.slice none 0 0)],k,FH.le.refl h,Ext.append _ _,?_,?_⟩
   .rw[gZ,nN];exact ok.add (r:=.row t sh []) (v:=.row (.slice none 0 0)) (bW w none) (λb hb=>by rw[aW]at hb;simp[au]at hb) (.inl ⟨rfl,rfl⟩)
   .refine⟨⟨.row (.slice none 0 0),?_,rfl⟩,rfl,rfl⟩;have:aN T=β.length:=by rw[ok.len,iK,aZ]
    rw[this];simp
  .exact⟨T,v,h,β,k,FH.le.refl h,Ext.refl β,ok,cv⟩
 .rename_i t sh rest;split at k
  .rename_i x xs;split at k
   .rename_i T' ys hfr;split at k
    .rename_i d htk;split at k
     .rename_i zs hfl;obtain⟨us,e0,a⟩:=cv;cases us with
      | nil=>exact a.elim
      | cons u us=>
        obtain⟨cu,a⟩:=a;obtain⟨h',le,ok',a'⟩:=NV ok hfr a;obtain⟨c1,c2,e1,rd,a2⟩:=nH rest htk a';have ec:c2=[]:=by cases c2 with | nil=>rfl | cons _ _=>exact a2.elim
        subst ec;rw[Mc]at e1;subst e1;split at k
        .obtain⟨⟨rfl,_⟩,_⟩:=cu;refine⟨_,_,h',β++[.row (.slice none 0 0)],k,le,Ext.append _ _,?_,?_⟩
         .rw[gZ,nN];exact ok'.add (r:=.row t sh []) (v:=.row (.slice none 0 0)) (bW w none) (λb hb=>by rw[aW]at hb;simp[au]at hb) (.inl ⟨rfl,rfl⟩)
         .refine⟨.slice none 0 0 :: us,e0,⟨⟨.row (.slice none 0 0),?_,rfl⟩,rfl,rfl⟩,xC rest hfl rd⟩;have:aN T'=β.length:=by rw[ok'.len,iK,aZ]
          rw[this];simp
        .exact⟨T',_,h',β,k,le,Ext.refl β,ok',u :: us,e0,⟨cu.1.mono le (Ext.refl β),cu.2⟩,xC rest hfl rd⟩
     .cases k
    .cases k
   .cases k
  .cases k
theorem WW:∀{cs:List RC}{vs:List SV}{ys:List Value}{T:List (Gd×ak)}{h:FH}{β:List RV}{K:List (Gd×ak)->List SV->Prop},OK B h0 (eff gl T) h β w->coK cs T vs K->aO (cZ h β) vs ys ->
 ∃T' vs' h' β',K T' vs'/\h.le h'/\Ext β β'/\OK B h0 (eff gl T') h' β' w/\aO (cZ h' β') vs' ys
 | [],vs,ys,T,h,β,K,ok,k,a=>⟨T,vs,h,β,k,FH.le.refl h,Ext.refl β,ok,a⟩
 | _ :: _,[],ys,T,h,β,K,ok,k,a=>⟨T,[],h,β,k,FH.le.refl h,Ext.refl β,ok,a⟩
 | c :: cs,v :: vs,y :: ys,T,h,β,K,ok,k,⟨cv,a⟩=>by
   obtain⟨T1,v1,h1,β1,k1,le1,eb1,ok1,c1⟩:=agv ok k cv;obtain⟨T2,vs2,h2,β2,k2,gK,eb2,ok2,c2⟩:=WW ok1 k1 (a.mono λ_ _ q=>q.mono le1 eb1)
   exact⟨T2,v1 :: vs2,h2,β2,k2,le1.trans gK,λi u e=>eb2 i u (eb1 i u e),ok2,c1.mono gK eb2,c2⟩
end
abbrev tZ(E:Env) (body:Code) (rs:List ResultVar) (args:List SV) (R:List ak->bF->Prop):Prop:=
 iT E body { env:=Az 0 args,T:=[],gl:=[],gs:=[] } λe s=>match e with
  | .normal=>WU E.cx s rs λvs=>coK E.rc s.T vs λT vs=>abE T vs R
  | .ret=>WU E.cx s rs λvs=>coK E.rc s.T vs λT vs=>abE T vs R
  | _=>False
section
variable {B:Base}{h0:FH}{h:FH}{β:List RV}{w:World}{T:List (Gd×ak)}{gl:List Bool}
def ak.isRow:ak->Prop
 | .row _ _ _=>True
 | .deep _ _ _ _ _ _ _ _=>True
 | .mp _ _ _=>True
 | _=>False
structure rW (T:List ak) (acc:List (Nat×ak)):Prop where
 at_:∀p∈acc,T[p.1]?=some p.2/\p.2.isRow
 dup:∀(i j:Nat) p q,acc[i]?=some p->acc[j]?=some q->p.1=q.1->i=j
def kP(β:List RV) (acc:List (Nat×ak)):List RV:=acc.map λp=>β.getD p.1 .no
theorem wS:∀{acc:List (Nat×ak)}{i:Nat},NU i acc=false->∀p∈acc,p.1≠i
 | [],i,_,p,hp=>by simp at hp
 | (j,r) :: l,i,h,p,hp=>by
   simp only[NU]at h;split at h
   .cases h
   .rename_i hij;rcases mF.1 hp with rfl | hp
    .exact λhh=>UL hij hh.symm
    .exact wS h p hp
theorem rW.snoc{T:List ak} (k:rW T acc){r:ak} (hT:T[i]?=some r) (hr:r.isRow) (hm:NU i acc=false):rW T (acc++[(i,r)]) where
 at_:=by
  intro p hp;rw[Et]at hp;rcases hp with hp | hp
  .exact k.at_ p hp
  .simp at hp;subst hp;exact⟨hT,hr⟩
 dup:=by
  intro a b p q ha hb e;rcases aA ha with⟨h1,ha⟩ | ⟨h1,rfl⟩<;>rcases aA hb with⟨h2,hb⟩ | ⟨h2,rfl⟩
  .exact k.dup a b p q ha hb e
  .exact(wS hm p (iJ ha) e).elim
  .exact(wS hm q (iJ hb) e.symm).elim
  .omega
theorem DF(β:List RV) (acc ext:List (Nat×ak)):Ext (kP β acc) (kP β (acc++ext)):=by
 unfold kP;rw[Me];exact Ext.append _ _
theorem Qc(ok:OK B h0 (eff gl T) h β w){x x':SC}{acc':List (Nat×ak)} (e:selC T x acc=some (x',acc')) (k:rW (eff gl T) acc) (c:dN h β x y):
 rW (eff gl T) acc'/\(∃ext,acc'=acc++ext)/\dN h (kP β acc') x' y:=by
 unfold selC at e;split at e
 .cases e;exact⟨k,⟨[],by simp⟩,c⟩
 .cases e;exact⟨k,⟨[],by simp⟩,c⟩
 .cases e;exact⟨k,⟨[],by simp⟩,c⟩
 .cases e;exact⟨k,⟨[],by simp⟩,c⟩
 .cases e;exact⟨k,⟨[],by simp⟩,c⟩
 .rename_i i;split at e
  .rename_i t sh l hT;split at e
   .cases e
   .rename_i hm;cases e;have fG:(eff gl T)[i]?=some (.row t sh l):=by rw[jc,<-eU,hT];rfl
    rw[gZ];refine⟨k.snoc fG trivial hm,⟨_,rfl⟩,?_⟩;obtain⟨u,c,cs⟩:=c;refine⟨u,?_,cs⟩;unfold kP;rw[Me,aZ,L6 (by simp)]
    simp[c]
  .rename_i t sh l t2 e2 so own hs hT;split at e
   .cases e
   .rename_i hm;cases e;have fG:(eff gl T)[i]?=some (.deep t sh l t2 e2 so own hs):=by rw[jc,<-eU,hT];rfl
    rw[gZ];refine⟨k.snoc fG trivial hm,⟨_,rfl⟩,?_⟩;obtain⟨u,c,cs⟩:=c;refine⟨u,?_,cs⟩;unfold kP;rw[Me,aZ,L6 (by simp)]
    simp[c]
  .rename_i k2 sh l hT;split at e
   .cases e
   .rename_i hm;cases e;have fG:(eff gl T)[i]?=some (.mp k2 sh l):=by rw[jc,<-eU,hT];rfl
    rw[gZ];refine⟨k.snoc fG trivial hm,⟨_,rfl⟩,?_⟩;obtain⟨u,c,cs⟩:=c;refine⟨u,?_,cs⟩;unfold kP;rw[Me,aZ,L6 (by simp)]
    simp[c]
  .cases e
 .cases e
theorem Kr(ok:OK B h0 (eff gl T) h β w):∀{xs xs':List SC}{acc acc':List (Nat×ak)}{ys:List Value},Ko T xs acc=some (xs',acc')->rW (eff gl T) acc->aO (λx y=>dN h β x y/\dD y) xs ys ->
 rW (eff gl T) acc'/\(∃ext,acc'=acc++ext)/\aO (λx y=>dN h (kP β acc') x y/\dD y) xs' ys
 | [],xs',acc,acc',[],e,k,_=>by simp[Ko]at e;obtain⟨rfl,rfl⟩:=e;exact⟨k,⟨[],by simp⟩,trivial⟩
 | x :: l,xs',acc,acc',y :: ys,e,k,⟨c,r⟩=>by
   unfold Ko at e;split at e
   .rename_i x1 agw h1;split at e
    .rename_i m amo h2;cases e;obtain⟨k1,⟨ext1,rfl⟩,c1⟩:=Qc ok h1 k c.1;obtain⟨k2,⟨agx,rfl⟩,c2⟩:=Kr ok h2 k1 r;exact⟨k2,⟨ext1++agx,by rw[zY]⟩,⟨c1.mono (FH.le.refl h) (DF _ _ _),c.2⟩,c2⟩
    .cases e
   .cases e
theorem abG(ok:OK B h0 (eff gl T) h β w){x x':SV}{acc':List (Nat×ak)} (e:agt T x acc=some (x',acc')) (k:rW (eff gl T) acc) (c:cZ h β x y):
 rW (eff gl T) acc'/\(∃ext,acc'=acc++ext)/\cZ h (kP β acc') x' y:=by
 unfold agt at e;split at e
 .split at e
  .rename_i y1 agw h1;cases e;obtain⟨k1,e1,c1⟩:=Qc ok h1 k c.1;exact⟨k1,e1,c1,c.2⟩
  .cases e
 .split at e
  .rename_i y1 agw h1;cases e;obtain⟨vs,e0,a⟩:=c;obtain⟨k1,e1,c1⟩:=Kr ok h1 k a;exact⟨k1,e1,vs,e0,c1⟩
  .cases e
 .cases e;exact⟨k,⟨[],by simp⟩,c⟩
 .cases e
theorem Kt(ok:OK B h0 (eff gl T) h β w):∀{xs xs':List SV}{acc acc':List (Nat×ak)}{ys:List Value},Kq T xs acc=some (xs',acc')->rW (eff gl T) acc->aO (cZ h β) xs ys ->
 rW (eff gl T) acc'/\(∃ext,acc'=acc++ext)/\aO (cZ h (kP β acc')) xs' ys
 | [],xs',acc,acc',[],e,k,_=>by simp[Kq]at e;obtain⟨rfl,rfl⟩:=e;exact⟨k,⟨[],by simp⟩,trivial⟩
 | x :: l,xs',acc,acc',y :: ys,e,k,⟨c,r⟩=>by
   unfold Kq at e;split at e
   .rename_i x1 agw h1;split at e
    .rename_i m amo h2;cases e;obtain⟨k1,⟨ext1,rfl⟩,c1⟩:=abG ok h1 k c;obtain⟨k2,⟨agx,rfl⟩,c2⟩:=Kt ok h2 k1 r;exact⟨k2,⟨ext1++agx,by rw[zY]⟩,cZ.mono (FH.le.refl h) (DF _ _ _) c1,c2⟩
    .cases e
   .cases e
theorem Ih:∀(l:List (Nat×ak)),TL l=l.map (·.2)
 | []=>rfl
 | (_,r) :: l=>by simp[TL,Ih l]
theorem OK.pick{T:List ak} (ok:OK B h0 T h β w) (k:rW T acc):OK B h0 (TL acc) h (kP β acc) w:=by
 have get:∀{i:Nat}{r:ak}{v:RV},(TL acc)[i]?=some r->(kP β acc)[i]?=some v->∃p,acc[i]?=some p/\T[p.1]?=some r/\β[p.1]?=some v/\r.isRow:=by
  intro i r v e e';rw[Ih,Es]at e;unfold kP at e';rw[Es]at e';cases hp:acc[i]? with
  | none=>rw[hp]at e;cases e
  | some p=>
    rw[hp]at e e';cases e;cases e';obtain⟨h1,h2⟩:=k.at_ p (iJ hp);have iV:p.1 < β.length:=by rw[ok.len];exact(fH.1 h1).1
    exact⟨p,rfl,h1,by simp[iV],h2⟩
 exact {
  below:=ok.below
  dr:=ok.dr
  len:=by rw[Ih];simp[kP]
  holds:=by
   intro i r v e e';obtain⟨p,_,h1,h2,hr⟩:=get e e';have:=ok.holds _ _ _ h1 h2;cases r with
   | row _ _ _=>
     cases v with
     | row y=>exact this
     | _=>exact this.elim
   | deep _ _ _ _ _ _ _ _=>
     cases v with
     | deep y us=>exact this
     | _=>exact this.elim
   | mp _ _ _=>
     cases v with
     | row y=>exact this
     | _=>exact this.elim
   | LQ _ _ _ _=>exact hr.elim
   | it _ _ _ _=>exact hr.elim
   | Jj _ _ _ _=>exact hr.elim
   | Fe _ _ _ _=>exact hr.elim
   | blk _ _=>exact hr.elim
   | obj _ _ _=>exact hr.elim
   | gone=>exact hr.elim
  own:=by
   intro i r v b e l e' hb;obtain⟨p,_,h1,h2,_⟩:=get e e';exact ok.own _ r v b h1 l h2 hb
  inj:=by
   intro i j r r' u v b e l e' l' f f' hb hb';obtain⟨p,p1,h1,h2,_⟩:=get e f;obtain⟨q,q1,h3,h4,_⟩:=get e' f';exact k.dup i j p q p1 q1 (ok.inj _ _ r r' u v b h1 l h3 l' h2 h4 hb hb')
  hle:=ok.hle
  hw:=ok.hw
  hg:=ok.hg
  kn:=ok.kn }
end
def Ii(a:Act):ResultVar->Sem Value
 | .tmp t=>pure (a.tmps.getD t undef)
 | .cell p t=>do loadVar t (<-asAddr (a.tmps.getD p undef))
theorem abH(hc:bJ P cx.ti) (aj:Sat N B h0 s h β w a){r:ResultVar}{K:SV->Prop} (k:resV cx s r K):
 ∃v y,K v/\(Ii a r).run P w=.ok y w/\cZ h β v y:=by
 unfold resV at k;split at k
 .rename_i t;split at k
  .rename_i v hv;obtain⟨z,q1,q2,_⟩:=aj.env _ _ _ hv;exact⟨v,z,k,by simp[Ii,q1],q2 rfl⟩
  .cases k
 .rename_i p t;split at k
  .rename_i q hq;obtain⟨z,q1,q2,_⟩:=aj.env _ _ _ hq;obtain⟨e,k1,k2⟩:=Cb hc aj k;split at k1
   .rename_i v;obtain⟨y,r1,r2⟩:=k2 rfl z (q2 rfl).1;refine⟨v,y,k1,?_,r2⟩;have hz:∃ad,z=.pointer (some ad):=by
     have c:=(q2 rfl).1;cases q with
     | v x=>
       unfold sK at k;split at k
       .cases k
       .cases k
     | sl _ _=>
       unfold sK at k;split at k
       .cases k
       .cases k
     | fp _ _=>obtain⟨b,o,_,e,_⟩:=c;exact⟨_,e⟩
     | own _ _=>obtain⟨b,_,e⟩:=c;exact⟨_,e⟩
     | row _=>
       unfold sK at k;split at k
       .cases k
       .cases k
     | jA _ _ _ _=>obtain⟨_,g,_,_,e⟩:=c;exact⟨_,e⟩
     | kV _ _ _ _ _=>obtain⟨_,_,g,_,_,e⟩:=c;exact⟨_,e⟩
     | sub _ _=>
       unfold sK at k;split at k
       .cases k
       .cases k
     | one _ _=>
       unfold sK at k;split at k
       .cases k
       .cases k
     | abs _=>
       unfold sK at k;split at k
       .cases k
       .cases k
     | junk=>
       unfold sK at k;split at k
       .cases k
       .cases k
    obtain⟨ad,rfl⟩:=hz;have hg:a.tmps.getD p undef=.pointer (some ad):=by simp[q1]
    simp only[Ii];rw[hg];simpa[Instr.loadAt,Instr.sureAddr,asAddr]using r1 w (lX.refl w)
   .cases k1
  .cases k
theorem Qd{cx:Cx}{P:Program} (hc:bJ P cx.ti){N:Nat}{B:Base}{h0:FH}{s:St}{h:FH}{β:List RV}{w:World}{a:Act} (aj:Sat N B h0 s h β w a):∀{rs:List ResultVar}{K:List SV->Prop},WU cx s rs K ->
 ∃vs ys,K vs/\(rs.mapM (Ii a)).run P w=.ok ys w/\aO (cZ h β) vs ys
 | [],K,k=>⟨[],[],k,rfl,trivial⟩
 | r :: l,K,k=>by
   obtain⟨v,y,k1,r1,c1⟩:=abH hc aj k;obtain⟨vs,ys,k2,r2,c2⟩:=Qd hc aj k1;refine⟨v :: vs,y :: ys,k2,?_,c1,c2⟩;rw[List.mapM_cons];simp only[Sem.run_bind,Sem.run_pure];rw[r1];simp only[Result.andThen_ok];rw[r2];rfl
theorem NW(fn:Func) (a:Act):results fn a.tmps=(do let vs <-fn.results.mapM (Ii a);pure (if h:vs.size=1 then vs[0] else .tuple vs):Sem Value):=by
 unfold results
 congr 1
theorem Ah{fn:Func}{ys:List Value}
 (h:((tl fn.results).mapM (Ii a)).run P w=.ok ys w):
 (results fn a.tmps).run P w=.ok (match ys with | [y]=>y | _=>.tuple ys.toArray) w:=by
 rw[NW];have e:(fn.results.mapM (Ii a)).run P w=.ok ys.toArray w:=by
  cases hr:fn.results with
  | mk l=>
    rw[hr]at h;have e2:=List.mapM_toArray (m:=Sem) (f:=(Ii a)) (l:=l);refine(oh (λx=>Sem.run P x w) e2).trans ?_
    simp only[Sem.run_map];rw[show Sem.run P (List.mapM (Ii a) l) w=_ from h];rfl
 simp only[Sem.run_bind];rw[e];simp only[Result.andThen_ok,Sem.run_pure]
 congr 1
 match ys with
 | []=>rfl
 | [y]=>rfl
 | _ :: _ :: _=>simp
abbrev jr(fn:Func):Code:=match fn.body with
 | some c=>c
 | none=>.skip
theorem Ai{P:Program}{fn:Func}{tmps:Array Value}{R:Ending->World->Prop}{N:Nat}{B:World}{h0:FH}{s:St}{h:FH}{β:List RV}:∀(X:List Nat){w:World},X.Nodup->(∀D∈X,B.heap.size<=D/\w.heap[D]?=some (.deferred (some []))) ->
 Sat N (Base.of B) h0 s h β w { tmps:=tmps,defers:=[] }->(∀w',Sat N (Base.of B) h0 s h β w' { tmps:=tmps,defers:=[] }->∃v,(results fn tmps).run P w'=.ok v w'/\R (.returned v) w') ->
 LeavesInM Fence.wide 0 P fn tmps R (X.map (λD=>({ target:=.collected D,args:=#[] }:Deferred))) .returning w
 | [],w,_,_,aj,fin=>fin w aj
 | D :: X,w,hn,hx,aj,fin=>by
   obtain⟨h1,h2⟩:=hx D (by simp)
   have hn:=UQ.1 hn;refine⟨λhh=>(by cases hh),.inl ⟨D,w.putObj D (.deferred none),rfl,run_takeDeferred h2,?_⟩⟩
   refine Ai X hn.2 (λD' hD'=>?_) ⟨aj.ok.turn h1 (λk u hk=>hk.elim) h2 rfl,aj.env,aj.gs,MG.nil rfl,aj.sz,aj.gb,aj.gT⟩ fin
   obtain⟨g1,g2⟩:=hx D' (by simp[hD'])
   refine⟨g1,(World.putObj_heap_other ?_).trans g2⟩;rintro rfl;exact hn.1 hD'
abbrev Ij:List Value->List SV
 | []=>[]
 | v :: l=>.c (.v v) :: Ij l
theorem Qe{h:FH}{β:List RV}:∀{l:List Value},(∀v∈l,BO v=true)->aO (cZ h β) (Ij l) l
 | [],_=>trivial
 | v :: l,hh=>⟨⟨⟨rfl,pW (hh v (by simp))⟩,pW (hh v (by simp))⟩,Qe λu hu=>hh u (by simp[hu])⟩
theorem aO.append{α β:Type}{R:α->β->Prop}:∀{l l':List α}{m m':List β},aO R l m->aO R l' m'->aO R (l++l') (m++m')
 | [],_,[],_,_,h=>h
 | _ :: _,_,_ :: _,_,⟨a,b⟩,h=>⟨a,aO.append b h⟩
theorem NY(ok:fU P E){fn:Func}{sv:List SV} (hf:P.funcs[f]?=some fn) (hb:fn.body=some body) (hn:fn.ntmps=E.n) (hle:Nat.ble (aN ct.ps+aN sv) E.n=true)
 (k:∀d,ct.pre d->∃ann,tZ { E with ann:=ann } body (tl fn.results) (dS (dY ct.ps d) sv) λT e=>(ct.res d).1=T/\(ct.res d).2=e):CTS P E.cx.gd f sv ct:=by
 intro d vs suf h B hw hg hargs hys aF;obtain⟨ann,kk⟩:=k d aF;have ok:fU P { E with ann:=ann }:=⟨ok.prog,ok.hc,ok.Wq,ok.mixed,ok.ti,ok.ct,ok.ip,ok.sq,ok.sf⟩
 have hlen:∀{ss:List Sh}{d:bK ss},(dY ss d).length=aN ss:=by
  intro ss
  induction ss with
  | nil=>intro d;rfl
  | cons s l ih=>intro d;simp[dY,aN,ih]
 have hvl:vs.length=aN ct.ps:=by rw[<-hargs.length,hlen]
 have hvn:(vs++suf).length<=E.n:=by rw[jR,hvl,<-hys.length,<-aZ sv];exact oZ hle
 replace hargs:aO (cZ h []) (dS (dY ct.ps d) sv) (vs++suf):=by
  rw[fA];exact hargs.append hys
 generalize dS (dY ct.ps d) sv=av at hargs kk;clear hvl hys;generalize vs++suf=vs at hargs hvn ⊢;refine callsIn_wide.1 (callsIn_of_wp_marks (F:=Fence.wide) (n:=0) hf hb trivial ?_);have aj:Sat E.n (Base.of B) h { env:=Az 0 av,T:=[],gl:=[],gs:=[] } h [] B { tmps:=vs.toArray++Array.replicate (fn.ntmps - vs.toArray.size) undef,defers:=[] }:=by
  have look:∀{xs:List SV}{ys:List Value}{n t:Nat}{G:Gd}{e:bF},aO (cZ h []) xs ys->gX (Az n xs) t=some (G,e)->∃y,G=[]/\n<=t/\ys[t - n]?=some y/\jw h [] e y:=by
   intro xs
   induction xs with
   | nil=>intro ys n t G e _ hh;simp[Az,gX]at hh
   | cons x xs ih=>
     intro ys n t G e a hh;cases ys with
     | nil=>exact a.elim
     | cons y ys=>
       simp only[Az]at hh;rw[aU]at hh;split at hh
       .rename_i hk;subst hk;cases hh;exact⟨y,rfl,oq _,by simp,a.1⟩
       .obtain⟨u,h1,h2,h3,h4⟩:=ih a.2 hh;refine⟨u,h1,by omega,?_,h4⟩
        rw[show t - n=(t - (n+1))+1 by omega]
        simpa using h3
  refine⟨⟨Bw.refl (Base.of B),oq _,rfl,λi r v e _=>by simp[eff]at e,λi r v b e _ _ _=>by simp[eff]at e,λi j r r' u v b e _ _ _ _ _ _ _=>by simp[eff]at e,FH.le.refl h,hw,λb o v hh=>.inl hh,λk o hh=>hh.elim⟩,?_,?_,MG.nil rfl,?_,?_,?_⟩
  .intro t G e ht;obtain⟨y,rfl,h2,h3,h4⟩:=look hargs ht;simp only[Nat.sub_zero]at h3;refine⟨y,?_,λ_=>h4,λhh=>by cases hh⟩
   rw[Array.getElem?_append_left (by have:=(fH.1 h3).1;simpa using this)]
   simpa using h3
  .intro d i hi;cases hi
  .simp only[A80,EC,Array.size_replicate];omega
  .intro t G e ht;obtain⟨y,rfl,_⟩:=look hargs ht;rfl
  .intro p hp;cases hp
 refine iE body ok hg (.inl rfl) (λ_=>rfl) aj kk λe s' h' β' w' a' B' lb k' le aP sm=>?_
 have fin:WU E.cx s' (tl fn.results) (λvs=>coK E.rc s'.T vs λT vs=>abE T vs λT e=>(ct.res d).1=T/\(ct.res d).2=e) ->
  LeavesInM Fence.wide 0 P fn a'.tmps (λen w'=>∃h' β y,en=.returned y/\OK (Base.of B) h (ct.res d).1 h' β w'/\jw h' β (ct.res d).2 y) a'.defers .returning w':=by
  intro kr;obtain⟨X,x1,x2,x3⟩:=aP.defers;rw[x1];have e0:B'.toWorld=B:=lb.1.1;have ea:B'.al=(Base.of B).al:=lb.1.2.1;have nd:∀D∈X,B.heap.size<=D/\w'.heap[D]?=some (.deferred (some [])):=λD hD=>⟨by have:=(x3 D hD).1;rw[ea]at this;exact this,aP.ok.kn D _ (x3 D hD).2⟩
  have iQ:Sat E.n (Base.of B) h s' h' β' w' { tmps:=a'.tmps,defers:=[] }:=
   ⟨aP.ok.NT (B':=Base.of B) (by rw[e0]) (by rw[ea]) (λk o hh=>hh.elim),aP.env,aP.gs,MG.nil rfl,aP.sz,aP.gb,aP.gT⟩
  refine Ai X x2 nd iQ λw' aP=>?_
  replace kr:=kr
  obtain⟨vs,ys,k1,r1,c1⟩:=Qd ok.ti aP kr;obtain⟨T1,vs1,h1,β1,k1,le1,eb1,ok1,c1⟩:=WW aP.ok k1 c1;unfold abE at k1;split at k1
  .rename_i vs' acc hsel;obtain⟨e1,e2⟩:=k1;obtain⟨ka,_,c2⟩:=Kt ok1 hsel ⟨λp hp=>by simp at hp,λi j p q hp=>by simp at hp⟩ c1
   refine⟨_,Ah r1,h1,_,_,rfl,by rw[e1];exact ok1.pick ka,?_⟩
   rw[e2]
   match vs',ys,c2 with
   | [],[],c2=>exact⟨[],rfl,c2⟩
   | [v],[y],c2=>exact c2.1
   | _ :: _ :: _,y :: z :: ys,c2=>exact⟨_,rfl,c2⟩
  .cases k1
 cases e with
 | normal=>exact fin k'
 | ret=>exact fin k'
 | exit i=>exact k'.elim
 | goto l=>exact k'.elim
 | panic ch=>exact k'.elim
 | outgrown=>exact k'.elim
theorem WX(ok:fU P E){fn:Func}{suf:List Value} (abI:∀v∈suf,BO v=true) (hf:P.funcs[f]?=some fn) (hb:fn.body=some body) (hn:fn.ntmps=E.n) (hle:Nat.ble (aN ct.ps+aN suf) E.n=true)
 (k:∀d,ct.pre d->∃ann,tZ { E with ann:=ann } body (tl fn.results) (dS (dY ct.ps d) (Ij suf)) λT e=>(ct.res d).1=T/\(ct.res d).2=e):CTX P E.cx.gd f suf ct:=by
 intro d vs h B hw hg hargs aF;have hl:aN (Ij suf)=aN suf:=by
  clear hle k abI
  induction suf with
  | nil=>rfl
  | cons v l ih=>simp[Ij,aN,ih]
 exact NY ok hf hb hn (by rw[hl];exact hle) k d vs suf h B hw hg hargs (Qe abI) aF
theorem WY(ok:fU P E){fn:Func} (hf:P.funcs[f]?=some fn) (hb:fn.body=some body) (hn:fn.ntmps=E.n) (hle:Nat.ble (aN ct.ps) E.n=true)
 (k:∀d,ct.pre d->∃ann,tZ { E with ann:=ann } body (tl fn.results) (dY ct.ps d) λT e=>(ct.res d).1=T/\(ct.res d).2=e):JC P E.cx.gd f ct:=
 (WX (suf:=[]) ok (λv hv=>by cases hv) hf hb hn (by simpa[aN]using hle) (λd hd=>by
  obtain⟨ann,kk⟩:=k d hd;exact⟨ann,by rw[show dS (dY ct.ps d) (Ij [])=dY ct.ps d by rw[fA];simp[Ij]];exact kk⟩)).ok
abbrev WZ:List (Nat×CT)->Nat->Option CT
 | [],_=>none
 | (k,e) :: l,n=>cnd (Nat.beq k n) (some e) (WZ l n)
def Met(P:Program) (gd:Nat->Option (Sigma Sh.den)) (f:FuncId) (c:CT):Prop:=JC P gd f c/\EH P f
def kQ(P:Program) (gd:Nat->Option (Sigma Sh.den)):List (Nat×CT)->Prop
 | []=>True
 | (k,c) :: l=>Met P gd k c/\kQ P gd l
theorem kQ.get{P:Program}{gd:Nat->Option (Sigma Sh.den)}:∀{l:List (Nat×CT)}{f:Nat}{c:CT},kQ P gd l->WZ l f=some c->Met P gd f c
 | [],_,_,_,e=>by simp[WZ]at e
 | (k,x) :: l,t,i,⟨h1,h2⟩,e=>by
   simp only[WZ,jD]at e;split at e
   .rename_i hk;have:k=t:=by simpa using hk
    subst this;cases e;exact h1
   .exact kQ.get h2 e
abbrev lkI:List (Nat×IP)->Nat->Option IP
 | [],_=>none
 | (k,e) :: l,n=>cnd (Nat.beq k n) (some e) (lkI l n)
def Qg(P:Program) (gd:Nat->Option (Sigma Sh.den)) (f:FuncId) (c:IP):Prop:=SE P gd f c/\EH P f
def DI(P:Program) (gd:Nat->Option (Sigma Sh.den)):List (Nat×IP)->Prop
 | []=>True
 | (k,c) :: l=>Qg P gd k c/\DI P gd l
theorem DI.get{P:Program}{gd:Nat->Option (Sigma Sh.den)}:∀{l:List (Nat×IP)}{f:Nat}{c:IP},DI P gd l->lkI l f=some c->Qg P gd f c
 | [],_,_,_,e=>by simp[lkI]at e
 | (k,x) :: l,t,i,⟨h1,h2⟩,e=>by
   simp only[lkI,jD]at e;split at e
   .rename_i hk;have:k=t:=by simpa using hk
    subst this;cases e;exact h1
   .exact DI.get h2 e
theorem NZ{il:List (Nat×IP)} (mx:P.follows .mixedOrders=true) (ti:bJ P cx.ti) (cm:kQ P cx.gd cl) (im:DI P cx.gd il){fn:Func} (hf:P.funcs[f]?=some fn) (hb:fn.body=some (jr fn)) (hn:fn.ntmps=n) (hle:Nat.ble (aN ct.ps) n=true)
 (hs:fn.body.isSome=true) (hname:(fn.name == "runtime.NumGoroutine")=false)
 (k:∀d,ct.pre d->∃ann,tZ { cx:=cx,n:=n,ct:=WZ cl,ann:=ann,ip:=lkI il,rc:=rc } (jr fn) (tl fn.results) (dY ct.ps d) λT e=>(ct.res d).1=T/\(ct.res d).2=e):Met P cx.gd f ct:=
 ⟨WY (E:={ cx:=cx,n:=n,ct:=WZ cl,ann:=λ_=>none,ip:=lkI il,rc:=rc }) ⟨λP' e=>(by cases e),λ_ _ _ e=>(by cases e),λ_ _ e=>(by cases e),mx,ti,λf c h=>⟨(cm.get h).1,(cm.get h).2⟩,λf c h=>⟨(im.get h).1,(im.get h).2⟩,λ_ _ e=>(by cases e),λ_ _ e=>(by cases e)⟩ hf hb hn hle k,⟨fn,hf,hs,hname⟩⟩
theorem agz(mx:P.follows .mixedOrders=true) (ti:bJ P cx.ti) (cm:kQ P cx.gd cl){fn:Func} (hf:P.funcs[f]?=some fn) (hb:fn.body=some (jr fn)) (hn:fn.ntmps=n) (hle:Nat.ble (aN ct.ps) n=true)
 (hs:fn.body.isSome=true) (hname:(fn.name == "runtime.NumGoroutine")=false)
 (k:∀d,ct.pre d->∃ann,tZ { cx:=cx,n:=n,ct:=WZ cl,ann:=ann } (jr fn) (tl fn.results) (dY ct.ps d) λT e=>(ct.res d).1=T/\(ct.res d).2=e):Met P cx.gd f ct:=
 ⟨WY (E:={ cx:=cx,n:=n,ct:=WZ cl,ann:=λ_=>none }) ⟨λP' e=>(by cases e),λ_ _ _ e=>(by cases e),λ_ _ e=>(by cases e),mx,ti,λf c h=>⟨(cm.get h).1,(cm.get h).2⟩,λf c h=>(by cases h),λ_ _ e=>(by cases e),λ_ _ e=>(by cases e)⟩ hf hb hn hle k,⟨fn,hf,hs,hname⟩⟩
def W9(P:Program) (gd:Nat->Option (Sigma Sh.den)) (g:Nat) (m:MK):Prop:=
 ∀d h lb,m.pre d->aI gd h->capD h m.ss d lb->(m.f d).rel h (.func (.func g) #[] lb.toArray)
abbrev lkM:List (Nat×MK)->Nat->Option MK
 | [],_=>none
 | (k,e) :: l,n=>cnd (Nat.beq k n) (some e) (lkM l n)
def yI(P:Program) (gd:Nat->Option (Sigma Sh.den)):List (Nat×MK)->Prop
 | []=>True
 | (k,c) :: l=>W9 P gd k c/\yI P gd l
theorem yI.get{P:Program}{gd:Nat->Option (Sigma Sh.den)}:∀{l:List (Nat×MK)}{f:Nat}{c:MK},yI P gd l->lkM l f=some c->W9 P gd f c
 | [],_,_,_,e=>by simp[lkM]at e
 | (k,x) :: l,t,i,⟨h1,h2⟩,e=>by
   simp only[lkM,jD]at e;split at e
   .rename_i hk;have:k=t:=by simpa using hk
    subst this;cases e;exact h1
   .exact yI.get h2 e
def Ik(P:Program) (gd:Nat->Option (Sigma Sh.den)) (f:FuncId) (suf:List Value) (c:CT):Prop:=CTX P gd f suf c/\EH P f
abbrev lkH:List (Nat×Nat×CT)->Nat->Nat->Option CT
 | [],_,_=>none
 | (k,g,e) :: l,n,m=>cnd (dA (Nat.beq k n) (Nat.beq g m)) (some e) (lkH l n m)
def FV(P:Program) (gd:Nat->Option (Sigma Sh.den)):List (Nat×Nat×CT)->Prop
 | []=>True
 | (k,g,c) :: l=>Ik P gd k [.func (.func g) #[] #[]] c/\FV P gd l
theorem FV.get{P:Program}{gd:Nat->Option (Sigma Sh.den)}:∀{l:List (Nat×Nat×CT)}{f g:Nat}{c:CT},FV P gd l->lkH l f g=some c->Ik P gd f [.func (.func g) #[] #[]] c
 | [],_,_,_,_,e=>by simp[lkH]at e
 | (k,g',x) :: l,t,g,i,⟨h1,h2⟩,e=>by
   simp only[lkH,jD,ay]at e;split at e
   .rename_i hk;rw[A8]at hk;have e1:k=t:=gJ hk.1;have e2:g'=g:=gJ hk.2;subst e1;subst e2;cases e;exact h1
   .exact FV.get h2 e
abbrev Xa(P:Program) (cx:Cx) (n:Nat) (cl:List (Nat×CT)) (il:List (Nat×IP)) (hl:List (Nat×Nat×CT)) (ml:List (Nat×MK)) (rc:List RC) (lits:List Nat) (ann:Nat->Option (St->kD)):Env:=
 { cx:=cx,n:=n,ct:=WZ cl,ann:=ann,ip:=lkI il,rc:=rc,lits:=lits,P:=some P,hc:=lkH hl,Wq:=lkM ml }
theorem Qh{il:List (Nat×IP)}{hl:List (Nat×Nat×CT)}{lits:List Nat}{ann:Nat->Option (St->kD)}
 (mx:P.follows .mixedOrders=true) (ti:bJ P cx.ti) (cm:kQ P cx.gd cl) (im:DI P cx.gd il) (hm:FV P cx.gd hl) (mm:yI P cx.gd ml):fU P (Xa P cx n cl il hl ml rc lits ann) where
 prog:=λP' e=>by cases e;rfl
 hc:=λf g c e=>hm.get e
 Wq:=λg fx e=>mm.get e
 mixed:=mx
 ti:=ti
 ct:=λf c h=>cm.get h
 ip:=λf c h=>im.get h
 sq:=λf c h=>by cases h
 sf:=λf c h=>by cases h
theorem ng{il:List (Nat×IP)}{hl:List (Nat×Nat×CT)}{lits:List Nat}{suf:List Value}
 (mx:P.follows .mixedOrders=true) (ti:bJ P cx.ti) (cm:kQ P cx.gd cl) (im:DI P cx.gd il) (hm:FV P cx.gd hl) (mm:yI P cx.gd ml){fn:Func} (hf:P.funcs[f]?=some fn) (hb:fn.body=some (jr fn)) (hn:fn.ntmps=n)
 (hle:Nat.ble (aN ct.ps+aN suf) n=true) (hs:fn.body.isSome=true) (hname:(fn.name == "runtime.NumGoroutine")=false) (abI:∀v∈suf,BO v=true)
 (k:∀d,ct.pre d->∃ann,tZ (Xa P cx n cl il hl ml rc lits ann) (jr fn) (tl fn.results) (dS (dY ct.ps d) (Ij suf)) λT e=>(ct.res d).1=T/\(ct.res d).2=e):Ik P cx.gd f suf ct:=
 ⟨WX (E:=Xa P cx n cl il hl ml rc lits λ_=>none) (Qh mx ti cm im hm mm) abI hf hb hn hle k,⟨fn,hf,hs,hname⟩⟩
def akp(P:Program) (gd:Nat->Option (Sigma Sh.den)) (f:FuncId) (q:SQ):Prop:=(∀L,CTS P gd f [.c (.abs (.seq P q.ss L))] (q.ct L))/\EH P f
abbrev lkQ:List (Nat×SQ)->Nat->Option SQ
 | [],_=>none
 | (k,e) :: l,n=>cnd (Nat.beq k n) (some e) (lkQ l n)
def abJ(P:Program) (gd:Nat->Option (Sigma Sh.den)):List (Nat×SQ)->Prop
 | []=>True
 | (k,c) :: l=>akp P gd k c/\abJ P gd l
theorem abJ.get{P:Program}{gd:Nat->Option (Sigma Sh.den)}:∀{l:List (Nat×SQ)}{f:Nat}{c:SQ},abJ P gd l->lkQ l f=some c->akp P gd f c
 | [],_,_,_,e=>by simp[lkQ]at e
 | (k,x) :: l,t,i,⟨h1,h2⟩,e=>by
   simp only[lkQ,jD]at e;split at e
   .rename_i hk;have:k=t:=by simpa using hk
    subst this;cases e;exact h1
   .exact abJ.get h2 e
def abK(P:Program) (gd:Nat->Option (Sigma Sh.den)) (f:FuncId) (q:SF):Prop:=(∀pre g,CTS P gd f [.c (.abs (.clo P q.ss q.r pre g))] (q.ct pre g))/\EH P f
abbrev lkF:List (Nat×SF)->Nat->Option SF
 | [],_=>none
 | (k,e) :: l,n=>cnd (Nat.beq k n) (some e) (lkF l n)
def N7(P:Program) (gd:Nat->Option (Sigma Sh.den)):List (Nat×SF)->Prop
 | []=>True
 | (k,c) :: l=>abK P gd k c/\N7 P gd l
theorem N7.get{P:Program}{gd:Nat->Option (Sigma Sh.den)}:∀{l:List (Nat×SF)}{f:Nat}{c:SF},N7 P gd l->lkF l f=some c->abK P gd f c
 | [],_,_,_,e=>by simp[lkF]at e
 | (k,x) :: l,t,i,⟨h1,h2⟩,e=>by
   simp only[lkF,jD]at e;split at e
   .rename_i hk;have:k=t:=by simpa using hk
    subst this;cases e;exact h1
   .exact N7.get h2 e
abbrev N8(P:Program) (cx:Cx) (n:Nat) (cl:List (Nat×CT)) (ml:List (Nat×MK)) (fl:List (Nat×SF)) (rc:List RC) (ann:Nat->Option (St->kD)):Env:=
 { cx:=cx,n:=n,ct:=WZ cl,ann:=ann,rc:=rc,P:=some P,Wq:=lkM ml,sf:=lkF fl }
theorem Il{fl:List (Nat×SF)}{ann:Nat->Option (St->kD)}
 (mx:P.follows .mixedOrders=true) (ti:bJ P cx.ti) (cm:kQ P cx.gd cl) (mm:yI P cx.gd ml) (fm:N7 P cx.gd fl):fU P (N8 P cx n cl ml fl rc ann) where
 prog:=λP' e=>by cases e;rfl
 hc:=λf g c e=>by cases e
 Wq:=λg fx e=>mm.get e
 mixed:=mx
 ti:=ti
 ct:=λf c h=>cm.get h
 ip:=λf c h=>by cases h
 sq:=λf c h=>by cases h
 sf:=λf c h=>fm.get h
theorem agA{fl:List (Nat×SF)}{q:SF}
 (mx:P.follows .mixedOrders=true) (ti:bJ P cx.ti) (cm:kQ P cx.gd cl) (mm:yI P cx.gd ml) (fm:N7 P cx.gd fl){fn:Func} (hf:P.funcs[f]?=some fn) (hb:fn.body=some (jr fn)) (hn:fn.ntmps=n)
 (hle:∀pre g,Nat.ble (aN (q.ct pre g).ps+1) n=true) (hs:fn.body.isSome=true) (hname:(fn.name == "runtime.NumGoroutine")=false)
 (k:∀pre g d,(q.ct pre g).pre d->∃ann,tZ (N8 P cx n cl ml fl rc ann) (jr fn) (tl fn.results) (dS (dY (q.ct pre g).ps d) [.c (.abs (.clo P q.ss q.r pre g))]) λT e=>((q.ct pre g).res d).1=T/\((q.ct pre g).res d).2=e):abK P cx.gd f q:=
 ⟨λpre g=>NY (E:=N8 P cx n cl ml fl rc λ_=>none) (Il mx ti cm mm fm) hf hb hn (hle pre g) (k pre g),⟨fn,hf,hs,hname⟩⟩
theorem abL{fl:List (Nat×SF)}
 (mx:P.follows .mixedOrders=true) (ti:bJ P cx.ti) (cm:kQ P cx.gd cl) (mm:yI P cx.gd ml) (fm:N7 P cx.gd fl){fn:Func} (hf:P.funcs[f]?=some fn) (hb:fn.body=some (jr fn)) (hn:fn.ntmps=n)
 (hle:Nat.ble (aN ct.ps) n=true) (hs:fn.body.isSome=true) (hname:(fn.name == "runtime.NumGoroutine")=false)
 (k:∀d,ct.pre d->∃ann,tZ (N8 P cx n cl ml fl rc ann) (jr fn) (tl fn.results) (dY ct.ps d) λT e=>(ct.res d).1=T/\(ct.res d).2=e):Met P cx.gd f ct:=
 ⟨WY (E:=N8 P cx n cl ml fl rc λ_=>none) (Il mx ti cm mm fm) hf hb hn hle k,⟨fn,hf,hs,hname⟩⟩
theorem Ik.met{gd:Nat->Option (Sigma Sh.den)}{c:CT} (h:Ik P gd f [] c):Met P gd f c:=⟨h.1.ok,h.2⟩
theorem dO(ti:bJ P cx.ti) (cm:kQ P cx.gd cl){fn:Func} (hf:P.funcs[f]?=some fn)
 (k:∀d,ct.pre d->∃ann,tZ (Xa P cx n cl [] [] [] rc [] ann) (jr fn) (tl fn.results) (dS (dY ct.ps d) (Ij [])) λT e=>(ct.res d).1=T/\(ct.res d).2=e)
 (mx:P.follows .mixedOrders=true:=by kernel_rfl) (hb:fn.body=some (jr fn):=by kernel_rfl) (hn:fn.ntmps=n:=by rfl) (hle:Nat.ble (aN ct.ps+aN ([]:List Value)) n=true:=by kernel_rfl)
 (hs:fn.body.isSome=true:=by kernel_rfl) (hname:(fn.name == "runtime.NumGoroutine")=false:=by kernel_rfl):Met P cx.gd f ct:=
 (ng (il:=[]) (hl:=[]) (ml:=[]) (lits:=[]) (suf:=[]) mx ti cm trivial trivial trivial hf hb hn hle hs hname (by simp) k).met
theorem pz(ti:bJ P cx.ti) (cm:kQ P cx.gd cl){fn:Func} (hf:P.funcs[f]?=some fn)
 (k:∀d,ct.pre d->∃ann,tZ { cx:=cx,n:=n,ct:=WZ cl,ann:=ann } (jr fn) (tl fn.results) (dY ct.ps d) λT e=>(ct.res d).1=T/\(ct.res d).2=e)
 (mx:P.follows .mixedOrders=true:=by kernel_rfl) (hb:fn.body=some (jr fn):=by kernel_rfl) (hn:fn.ntmps=n:=by rfl) (hle:Nat.ble (aN ct.ps) n=true:=by kernel_rfl)
 (hs:fn.body.isSome=true:=by kernel_rfl) (hname:(fn.name == "runtime.NumGoroutine")=false:=by kernel_rfl):Met P cx.gd f ct:=
 agz mx ti cm hf hb hn hle hs hname k
end Go.lH
