/- Texts of this claim, part 4: EngO, EngRg, EngP, EngQ, EngIp. Conditions: those of the given rows. -/
import Derived.Test.YtjhenjhcbcalpaaGreatDoorB3
import Derived.Deep.LoopGhost
set_option linter.unusedSimpArgs false
set_option linter.unusedVariables false
set_option maxRecDepth 1000000
set_option maxHeartbeats 8000000
namespace Go.mQ
open Go Go.RowKit
variable {P:Program}{N i n:Nat}{B:Base}{h0 h:FH}{w A:World}{a b:Act}{o:Oper}{K:St->Prop}{s:St}{β β':List RV}{ops:Array Oper}{f:FuncId}{Q:Exit->Act->World->Prop}{T:List (Gd×au)}{body:Code}{y:Value}{acc:List (Nat×au)}{cx:Cx}{ct:CT}{cl:List (Nat×CT)}{ml:List (Nat×MK)}
structure LA where
 α:Type
 slots:α->List (Nat×SV)
 res:α->List (Nat×au)
 inv:α->Prop
 meas:α->Nat
 ren:List (Nat×Nat):=[]
 drop:List Nat:=[]
 nil:List (Nat×TypeId×Sh):=[]
 IC:List Nat:=[]
 pad:Nat:=0
 wH:List Nat:=[]
 deep:List (Nat×TypeId×Sh×Nat):=[]
 uJ:List (Nat×Nat×TypeId×Sh):=[]
 can:List (Nat×Loc):=[]
structure RA where
 α:Type
 res:α->List (Nat×au)
 inv:Nat->α->Prop
 drop:List Nat:=[]
 nil:List (Nat×TypeId×Sh):=[]
 IC:List Nat:=[]
 wH:List Nat:=[]
 deep:List (Nat×TypeId×Sh×Nat):=[]
 uJ:List (Nat×Nat×TypeId×Sh):=[]
inductive kH where
 | inv (a:LA)
 | gen (a:LA) (gh:a.α->Nat)
 | Gz (n:Nat)
 | rng (a:RA)
 | cut (a:LA)
inductive RC where
 | keep
 | data (s:Sh)
 | row (t:TypeId) (s:Sh)
 | hd (t:TypeId) (s r:Sh)
variable {rc:List RC}
structure SQ where
 ss:List Sh
 ct:List (bV ss)->CT
structure SF where
 ss:List Sh
 r:Sh
 ct:(bV ss->Prop)->(bV ss->r.den)->CT
structure Env where
 cx:Cx
 n:Nat
 ct:Nat->Option CT
 ann:Nat->Option (St->kH)
 ip:Nat->Option IP:=λ_=>none
 rc:List RC:=[]
 lits:List Nat:=[]
 P:Option Program:=none
 rd:Bool:=false
 hc:Nat->Nat->Option CT:=λ_ _=>none
 ZV:Nat->Option MK:=λ_=>none
 sq:Nat->Option SQ:=λ_=>none
 sf:Nat->Option SF:=λ_=>none
variable {E:Env}
abbrev Oe:List SV->List Nat
 | []=>[]
 | v :: r=>match v with
   | .c (.row i)=>i :: Oe r
   | .agg xs=>Ub xs (Oe r)
   | _=>Oe r
abbrev ZW(E:Env) (s:St) (G:Gd) (f:Nat) (args:List Operand):List Nat:=match G with
 | _ :: _=>[]
 | []=>match E.ct f with
   | none=>[]
   | some cc=>match wF E.cx s [] args with
     | none=>[]
     | some vs=>match allL noRow vs with
       | true=>[]
       | false=>match IZ s [] vs with
         | none=>[]
         | some bs=>match Ae cc.ps bs with
           | none=>[]
           | some dd=>match dD (KI (cc.res dd).2) (allL xG (cc.res dd).1) with
             | true=>[]
             | false=>Oe vs
abbrev akJ(E:Env) (s:St) (G:Gd) (ps:List (Nat×Operand)):List Nat:=match G with
 | _ :: _=>[]
 | []=>rowsOf E.cx s ps
abbrev ZX(E:Env) (s:St) (p x:Operand):List Nat:=match bM E.cx s [] x with
 | some (.one v)=>match Oe [v]with
   | []=>[]
   | i :: r=>match bM E.cx s [] p with
     | some (.one (.c (.own q _)))=>match eX s.T q with
       | some ([],.obj _ _ _)=>i :: r
       | _=>[]
     | some (.one (.c (.kE _ _ _ _)))=>i :: r
     | _=>[]
 | _=>[]
abbrev GH:List Operand->Option (List Operand×Nat)
 | []=>none
 | x :: l=>match l with
   | []=>match x with
     | .func g=>some ([],g)
     | _=>none
   | _ :: _=>match GH l with
     | some (m,g)=>some (x :: m,g)
     | none=>none
theorem GI{a:Act}:∀{l xs:List Operand}{g:Nat},GH l=some (xs,g)->l.map a.eval=xs.map a.eval++[.func (.func g) #[] #[]]
 | [],_,_,h=>by simp[GH]at h
 | [x],xs,g,h=>by
   simp only[GH]at h;split at h
   .cases h;rfl
   .cases h
 | x :: y :: l,xs,g,h=>by
   simp only[GH]at h;split at h
   .rename_i m g' hm;cases h;have:=GI (a:=a) (l:=y :: l) hm;simp only[VT]at this ⊢;rw[this];rfl
   .cases h
abbrev GK:List Operand->Option (List Operand×Operand)
 | []=>none
 | x :: l=>match l with
   | []=>some ([],x)
   | _ :: _=>match GK l with
     | some (m,g)=>some (x :: m,g)
     | none=>none
theorem GL{a:Act}:∀{l xs:List Operand}{g:Operand},GK l=some (xs,g)->l.map a.eval=xs.map a.eval++[a.eval g]
 | [],_,_,h=>by simp[GK]at h
 | [x],xs,g,h=>by
   simp only[GK]at h;cases h;rfl
 | x :: y :: l,xs,g,h=>by
   simp only[GK]at h;split at h
   .rename_i m g' hm;cases h;have:=GL (a:=a) (l:=y :: l) hm;simp only[VT]at this ⊢;rw[this];rfl
   .cases h
abbrev ZY(ss ss':List Sh) (L:List (bV ss)):Option (List (bV ss')):=if h:ss=ss' then some (h▸L) else none
theorem Z4{ss ss':List Sh}{L:List (bV ss)}{M:List (bV ss')} (h:ZY ss ss' L=some M):∃e:ss=ss',e▸L=M:=by
 unfold ZY at h;split at h
 .rename_i e;cases h;exact⟨e,rfl⟩
 .cases h
abbrev hcL(E:Env) (f:Nat) (args:List Operand):Option (CT×List Operand):=match GH args with
 | some (xs,g)=>match E.hc f g with
   | some ct=>some (ct,xs)
   | none=>none
 | none=>none
abbrev Ld(E:Env) (ops:List Oper) (o:Oper) (s:St) (K:St->Prop):Prop:=match mF E.n o.dst with
 | false=>False
 | true=>wz E.lits s ops o.guard λG s=>match o.op with
   | .alloc t=>KE E.cx s G o.dst t K
   | .box t x=>ae5 E.cx s G o.dst t x K
   | .buildSlice t n ps=>nN E.cx (nZ s (akJ E s G (tl ps))) G o.dst t n (tl ps) K
   | .makeSlice t l c=>TS E.cx s G o.dst t l c K
   | .store t p x=>match G with
     | []=>match afi E.cx s o.dst t p x K with
       | some q=>q
       | none=>KF E.cx (nZ s (ZX E s p x)) o.dst t p x K
     | _ :: _=>False
   | .call c=>match c.callee with
     | .value (.func f)=>match hcL E f (tl c.args) with
       | some (ct,xs)=>jy E.cx (λ_=>some ct) s G o.dst f xs K
       | none=>jy E.cx E.ct (nZ s (ZW E s G f (tl c.args))) G o.dst f (tl c.args) K
     | .builtin .append=>match G with
       | []=>match tl c.args with
         | [x,y]=>match tl c.argTypes with
           | [t,t']=>match Nat.beq t t' with
             | true=>match Ui s x λs=>xE E.cx s o.dst t x y K with
               | some q=>q
               | none=>xE E.cx s o.dst t x y K
             | false=>False
           | _=>False
         | _=>False
       | _ :: _=>False
     | .builtin .copy=>match G with
       | []=>match tl c.args with
         | [x,y]=>match tl c.argTypes with
           | [t,_]=>Uj E.cx s o.dst t x y K
           | _=>False
         | _=>False
       | _ :: _=>False
     | .builtin .min=>match G with
       | []=>match tl c.args with
         | [x,y]=>afl E.cx s o.dst x y K
         | _=>False
       | _ :: _=>False
     | .builtin .max=>match G with
       | []=>match tl c.args with
         | [x,y]=>QK E.cx s o.dst x y K
         | _=>False
       | _ :: _=>False
     | _=>oD E.cx s G o λe=>K (s.put o.dst G e)
   | _=>oD E.cx s G o λe=>K (s.put o.dst G e)
abbrev jl(E:Env) (ops:List Oper) (o:Oper) (s:St) (K:St->Prop):Prop:=match apP E.cx s o K with
 | some p=>match mF E.n o.dst with
   | false=>False
   | true=>p
 | none=>Ld E ops o s K
structure gY (P:Program) (E:Env):Prop where
 prog:∀P',E.P=some P'->P'=P
 hc:∀f g c,E.hc f g=some c->CTX P E.cx.gd f [.func (.func g) #[] #[]] c/\IU P f
 ZV:∀g m,E.ZV g=some m->∀d h lb,m.pre d->aK E.cx.gd h->capD h m.ss d lb->(m.f d).rel h (.func (.func g) #[] lb.toArray)
 mixed:P.follows .mixedOrders=true
 ti:bQ P E.cx.ti
 ct:∀f c,E.ct f=some c->NQ P E.cx.gd f c/\∃fn,P.funcs[f]?=some fn/\fn.body.isSome=true/\(fn.name == "runtime.NumGoroutine")=false
 ip:∀f c,E.ip f=some c->WU P E.cx.gd f c/\∃fn,P.funcs[f]?=some fn/\fn.body.isSome=true/\(fn.name == "runtime.NumGoroutine")=false
 sq:∀f q,E.sq f=some q->(∀L,CTS P E.cx.gd f [.c (.abs (.seq P q.ss L))] (q.ct L))/\IU P f
 sf:∀f q,E.sf f=some q->(∀pre g,CTS P E.cx.gd f [.c (.abs (.clo P q.ss q.r pre g))] (q.ct pre g))/\IU P f
theorem gV.cast{b b':Bool} (e:b=b') (h':gV P N B h0 h w a o b' K):gV P N B h0 h w a o b K:=by rw[e];exact h'
theorem afs(s:St) (i:Nat):(NU s i).gl=s.gl:=by
 unfold NU;split<;>rfl
theorem sS:∀{l:List Nat}{s:St},(nZ s l).gl=s.gl
 | [],_=>rfl
 | i :: l,s=>by
   show(nZ (NU s i) l).gl=s.gl;rw[sS,afs]
theorem gV.le{P:Program}{N:Nat}{B:Base}{h0 h h':FH}{w:World}{a:Act}{o:Oper}{b:Bool}{K:St->Prop} (le:h.le h') (k:gV P N B h0 h' w a o b K):gV P N B h0 h w a o b K:=
 λNx Q next=>k Nx Q λs' h2 β' w' v k' le' q aj=>next s' h2 β' w' v k' (le.trans le') q aj
theorem Xn(ok:gY P E) (aj:Sat E.n B h0 s h β w a) (hg:aK E.cx.gd h)
 (k:Ld E (tl ops) o s K):gV P E.n B h0 h w a o (Region.wanted o (yielded ops a.tmps)) K:=by
 unfold Ld at k;split at k
 .cases k
 rename_i hd;obtain⟨G,s',k,aT,hw,hG⟩:=xC aj k;refine gV.cast hw ?_;split at k
 .rename_i t ho;exact QB ok.ti aT hG hd ho k
 .rename_i t x ho;exact Za ok.ti aT hg hG hd ho k
 .rename_i t n ps ho;obtain⟨h',le,bG⟩:=aT.IC (l:=akJ E s' G (tl ps));have:=vw ok.ti bG (hg.mono le) (by rw[sS];exact hG) hd ho k
  rw[sS]at this;exact gV.le le this
 .rename_i t l c ho;exact WS ok.ti aT hg hG hd ho k
 .rename_i t p x ho;split at k
  .split at k
   .rename_i q hq;exact Zz ok.ti aT hg hd ho hq k
   .obtain⟨h',le,bG⟩:=aT.IC (l:=ZX E s' p x);have:=QC ok.ti bG (hg.mono le) hd ho k;rw[sS]at this;exact gV.le le this
  .cases k
 .rename_i c ho;split at k
  .rename_i f bW;split at k
   .rename_i ct xs hl;unfold hcL at hl;split at hl
    .rename_i xs' g hlf;split at hl
     .rename_i ct' hct;cases hl;obtain⟨hc,hf⟩:=ok.hc f g ct hct;have k':jy E.cx (λf'=>if f'=f then some ct else none) s' G o.dst f xs K:=by
       unfold jy at k ⊢;simpa using k
      exact uH (suf:=[.func (.func g) #[] #[]]) (λf' c' e=>by
       split at e
       .rename_i hff;cases e;rw[hff];exact hc
       .cases e) aT hg hG hd ho bW (λ_=>rfl) (by
       have:=GI (a:=a) hlf;rw[<-this];cases c.args;simp) hf k'
     .cases hl
    .cases hl
   .obtain⟨h',le,bG⟩:=aT.IC (l:=ZW E s' G f (tl c.args));refine gV.le le ?_;rw[<-sS (l:=ZW E s' G f (tl c.args)) (s:=s')]at hG ⊢;generalize nZ s' (ZW E s' G f (tl c.args))=s' at k bG hG ⊢;unfold jy at k;cases hct:E.ct f with
    | none=>rw[hct]at k;cases k
    | some cc=>exact WT (λf c e=>(ok.ct f c e).1) bG (hg.mono le) hG hd ho bW (ok.ct f cc hct).2 k
  .rename_i bW;split at k
   .split at k
    .rename_i x y ha;split at k
     .rename_i t t' ht;split at k
      .rename_i htt;have htt:t=t':=iE htt;subst htt;split at k
       .rename_i q hq;obtain⟨s2,β2,k2,bG,egl⟩:=afj aT hq k;have:=DN ok.ti bG hg hd ho bW (iM ha) (iM ht) k2;rw[egl]at this;exact this
       .exact DN ok.ti aT hg hd ho bW (iM ha) (iM ht) k
      .cases k
     .cases k
    .cases k
   .cases k
  .rename_i bW;split at k
   .split at k
    .rename_i x y ha;split at k
     .rename_i t t' ht;exact Xd ok.ti aT hg hd ho bW (iM ha) (iM ht) k
     .cases k
    .cases k
   .cases k
  .rename_i bW;split at k
   .split at k
    .rename_i x y ha;exact ZC aT hg hd ho bW (iM ha) k
    .cases k
   .cases k
  .rename_i bW;split at k
   .split at k
    .rename_i x y ha;exact Xc aT hg hd ho bW (iM ha) k
    .cases k
   .cases k
  .exact Js ok.ti aT hg hG hd k
 .exact Js ok.ti aT hg hG hd k
theorem sU(ok:gY P E) (aj:Sat E.n B h0 s h β w a) (hg:aK E.cx.gd h)
 (k:jl E (tl ops) o s K):gV P E.n B h0 h w a o (Region.wanted o (yielded ops a.tmps)) K:=by
 unfold jl at k;split at k
 .rename_i p hp;split at k
  .cases k
  .rename_i hd;exact ZH ok.ti aj hg hd hp k
 .exact Xn ok aj hg k
abbrev Z5(E:Env) (ops:List Oper):List Oper->St->(St->Prop)->Prop
 | [],s,K=>K s
 | o :: r,s,K=>jl E ops o s λs=>Z5 E ops r s K
abbrev jc(k:Nat):List Nat->Bool
 | []=>false
 | j :: l=>match Nat.beq k j with
   | true=>true
   | false=>jc k l
theorem jF{k j:Nat}{l:List Nat}:jc k (j :: l)=(Nat.beq k j || jc k l):=by
 simp only[jc];cases Nat.beq k j<;>rfl
theorem lW{k:Nat}{m:List Nat}:∀{l:List Nat},jc k (eF l m)=(jc k l || jc k m)
 | []=>rfl
 | j :: l=>by rw[show eF (j :: l) m=j :: eF l m from rfl,jF,jF,lW,Bool.or_assoc]
abbrev jV:List Oper->List Nat
 | []=>[]
 | o :: l=>match o.dst with
   | some d=>d :: jV l
   | none=>jV l
def Same(ws:List Nat) (a a':Act):Prop:=∀t,jc t ws=false->a'.tmps[t]?=a.tmps[t]?
theorem Same.refl(ws:List Nat) (a:Act):Same ws a a:=λ_ _=>rfl
theorem Same.trans{ws:List Nat}{a b c:Act} (x:Same ws a b) (y:Same ws b c):Same ws a c:=λt h=>(y t h).trans (x t h)
theorem Same.left{l m:List Nat} (x:Same l a b):Same (eF l m) a b:=λt h=>x t (by rw[lW,oI]at h;exact h.1)
theorem Same.right{l m:List Nat} (x:Same m a b):Same (eF l m) a b:=λt h=>x t (by rw[lW,oI]at h;exact h.2)
theorem Same.put{o:Oper}{l:List Oper}{a:Act}{v:Value}{b:Act} (x:Same (jV l) (a.put o.dst v) b):Same (jV (o :: l)) a b:=by
 intro t h;cases hd:o.dst with
 | none=>
   have e:jV (o :: l)=jV l:=by simp only[jV,hd]
   rw[e]at h;rw[x t h,hd];rfl
 | some d=>
   have e:jV (o :: l)=d :: jV l:=by simp only[jV,hd]
   rw[e,jF,oI]at h;rw[x t h.2,hd];have hne:d≠t:=λhh=>Yt h.1 hh.symm
   simp[Act.put,ajV hne]
abbrev akK(E:Env) (s:St) (o:Oper):Option IP:=match o.guard with
 | some _=>none
 | none=>match o.op with
   | .call c=>match c.callee with
     | .value (.func f)=>match E.ip f with
       | none=>none
       | some ip=>match tl c.args with
         | []=>none
         | x :: _=>match bM E.cx s [] x with
           | some (.one (.c (.row _)))=>some ip
           | _=>none
     | _=>none
   | _=>none
abbrev Z7(E:Env) (s:St) (o:Oper):Option IP:=match o.guard with
 | some _=>none
 | none=>match o.op with
   | .call c=>match c.callee with
     | .value (.func f)=>match E.ip f with
       | none=>none
       | some ip=>match tl c.args with
         | []=>none
         | x :: _=>match bM E.cx s [] x with
           | some (.one (.c (.sub _ _)))=>some ip
           | _=>none
     | _=>none
   | _=>none
abbrev og:Op->List Operand
 | .call c=>tl c.args
 | _=>[]
abbrev akL:Value->Option Nat
 | .func (.func f) a b=>match tl a with
   | []=>match tl b with
     | []=>some f
     | _ :: _=>none
   | _ :: _=>none
 | _=>none
abbrev Eh(sh:Sh):au->Option SV
 | .obj _ s d=>match dD sh.isAgg s.isAgg with
   | true=>some (.dat s d)
   | false=>none
 | .blk _ xs=>match sh.isAgg with
   | true=>some (.agg xs)
   | false=>match xs with
     | [x]=>some (.c x)
     | _=>none
 | _=>none
abbrev Rf(s:St):(ss:List Sh)->List Operand->Option (St×bV ss)
 | [],[]=>some (s,())
 | sh :: ss,x :: l=>match x with
   | .tmp t=>match iK s.env t with
     | some ([],.one (.c (.own i 0)))=>match eX s.T i with
       | some ([],r)=>match Eh sh r with
         | some v=>match toDat sh v with
           | some d=>match Rf { s with T:=dB s.T i ([],.gone) } ss l with
             | some (s',ds)=>some (s',(d,ds))
             | none=>none
           | none=>none
         | none=>none
       | _=>none
     | _=>none
   | _=>none
 | _,_=>none
inductive HO where
 | hc (c:CT) (xs:List Operand)
 | cc (f:Nat) (xs:List Operand)
 | mk (g:Nat) (cap:List Operand)
 | sq (P:Program) (c:CT) (xs:List Operand)
 | sf (P:Program) (ss:List Sh) (r:Sh) (pre:bV ss->Prop) (g:bV ss->r.den) (q:SF) (xs:List Operand)
abbrev aoU(E:Env) (s:St) (f:Nat) (args:List Operand):Option HO:=match E.sf f with
 | none=>none
 | some q=>match GK args with
   | none=>none
   | some (xs,x)=>match bM E.cx s [] x with
     | some (.one (.c (.abs (.clo P ss r pre g))))=>some (.sf P ss r pre g q xs)
     | _=>none
abbrev aoV(E:Env) (s:St) (f:Nat) (args:List Operand):Option HO:=match E.sq f with
 | none=>aoU E s f args
 | some q=>match GK args with
   | none=>none
   | some (xs,x)=>match bM E.cx s [] x with
     | some (.one (.c (.abs (.seq P ss L))))=>match ZY ss q.ss L with
       | some L=>some (.sq P (q.ct L) xs)
       | none=>none
     | _=>none
abbrev akM(E:Env) (s:St) (o:Oper):Option HO:=match o.guard with
 | some _=>none
 | none=>match o.op with
   | .call c=>match c.callee with
     | .value (.func f)=>match GH (tl c.args) with
       | some (xs,g)=>match E.hc f g with
         | some ct=>some (.hc ct xs)
         | none=>none
       | none=>aoV E s f (tl c.args)
     | .value (.tmp t)=>match iK s.env t with
       | some ([],.one (.c (.v v)))=>match akL v with
         | some f=>some (.cc f (tl c.args))
         | none=>none
       | some ([],.one (.c (.abs (.clo P ss r pre g))))=>some (.sq P { ps:=ss,pre:=pre,res:=λd=>([],.one (iL r (g d))) } (tl c.args))
       | _=>none
     | _=>none
   | .makeFunc (.func g) fst cap=>match tl fst with
     | []=>some (.mk g (tl cap))
     | _ :: _=>none
   | _=>none
abbrev hoK(E:Env) (s:St) (d:Option Nat) (x:HO) (K:St->Prop):Prop:=match x with
 | .hc c xs=>jy E.cx (λ_=>some c) s [] d 0 xs K
 | .cc f xs=>jy E.cx E.ct s [] d f xs K
 | .sq P c xs=>E.P=some P/\jy E.cx (λ_=>some c) s [] d 0 xs K
 | .sf P ss r pre g q xs=>E.P=some P/\∃pre' g',IB.clo P ss r pre g=IB.clo P q.ss q.r pre' g'/\jy E.cx (λ_=>some (q.ct pre' g')) s [] d 0 xs K
 | .mk g cap=>match E.ZV g with
   | none=>False
   | some m=>match Rf s m.ss cap with
     | none=>False
     | some (s',ds)=>m.pre ds/\K (s'.put d [] (.one (.c (.abs (m.f ds)))))
abbrev Og(E:Env) (ops:List Oper) (o:Oper) (s:St) (K:St->Prop):Prop:=match rtP E.cx s o K with
 | some p=>match mF E.n o.dst with
   | false=>False
   | true=>p
 | none=>match akG E.cx s o K with
 | some p=>match mF E.n o.dst with
   | false=>False
   | true=>p
 | none=>match akM E s o with
 | some x=>match mF E.n o.dst with
   | false=>False
   | true=>hoK E s o.dst x K
 | none=>match Z7 E s o with
 | some ip=>match mF E.n o.dst with
   | false=>False
   | true=>aky E.cx ip s o.dst (og o.op) K
 | none=>match akK E s o with
 | none=>match akE E.cx s o K with
   | none=>jl E ops o s K
   | some p=>match mF E.n o.dst with
     | false=>False
     | true=>p
 | some ip=>match mF E.n o.dst with
   | false=>False
   | true=>ipK E.cx ip s o.dst (og o.op) K
abbrev aft(E:Env) (ops:List Oper):List Oper->St->(St->Prop)->Prop
 | [],s,K=>K s
 | o :: r,s,K=>Og E ops o s λs=>aft E ops r s K
theorem Xo{ip:IP} (e:akK E s o=some ip):o.guard=none/\∃c f,o.op=.call c/\c.callee=.value (.func f)/\E.ip f=some ip:=by
 unfold akK at e;split at e
 .cases e
 .rename_i hgd;split at e
  .rename_i c ho;split at e
   .rename_i f bW;split at e
    .cases e
    .rename_i ip' Ua;split at e
     .cases e
     .split at e
      .cases e;exact⟨hgd,c,f,ho,bW,Ua⟩
      .cases e
   .cases e
  .cases e
theorem Rh{ip:IP} (e:Z7 E s o=some ip):o.guard=none/\∃c f,o.op=.call c/\c.callee=.value (.func f)/\E.ip f=some ip:=by
 unfold Z7 at e;split at e
 .cases e
 .rename_i hgd;split at e
  .rename_i c ho;split at e
   .rename_i f bW;split at e
    .cases e
    .rename_i ip' Ua;split at e
     .cases e
     .split at e
      .cases e;exact⟨hgd,c,f,ho,bW,Ua⟩
      .cases e
   .cases e
  .cases e
theorem afu{v:Value}{f:Nat} (h:akL v=some f):v=.func (.func f) #[] #[]:=by
 unfold akL at h;split at h
 .rename_i f' x y;split at h
  .rename_i hx;split at h
   .rename_i hy;cases h;rw[iM hx,iM hy]
   .cases h
  .cases h
 .cases h
theorem akN{s:Sh} (h:s.isAgg=false):s.size=1:=by cases s<;>simp_all[Sh.isAgg,Sh.size]
theorem Ur{N:Nat}{B:Base}{h0:FH}{w:World}{a:Act}{β:List RV}:∀{ss:List Sh}{l:List Operand}{s s':St}{h:FH}{ds:bV ss},Sat N B h0 s h β w a->Rf s ss l=some (s',ds) ->
 ∃h',h.le h'/\Sat N B h0 s' h' β w a/\capD h' ss ds (l.map a.eval)
 | [],[],s,s',h,ds,aj,e=>by simp[Rf]at e;subst e;exact⟨h,FH.le.refl h,aj,trivial⟩
 | [],_ :: _,s,s',h,ds,aj,e=>by simp[Rf]at e
 | _ :: _,[],s,s',h,ds,aj,e=>by simp[Rf]at e
 | sh :: ss,x :: l,s,s',h,ds,aj,e=>by
   unfold Rf at e;split at e
   .rename_i t;split at e
    .rename_i i hlk;split at e
     .rename_i r hT;split at e
      .rename_i v hv;split at e
       .rename_i d hd;split at e
        .rename_i s2 ds2 hc;cases e;obtain⟨z,z1,z2,_⟩:=aj.env t [] _ hlk;obtain⟨b,hb,ez⟩:∃b,β[i]?=some (.blk b)/\z=.pointer (some ⟨b,0,none⟩):=(z2 rfl:dA h β (.c (.own i 0)) z).1;have gu:=bF hT (show gv s.gl []=true from rfl)
         have hold:=aj.ok.holds i r _ gu hb;have hlive:r.live=true:=by cases r<;>first | rfl | (simp[Eh]at hv)
         obtain⟨le1,ok1⟩:=aj.ok.Wy gu hlive hb (lQ.2 rfl);have jA:Sat N B h0 { s with T:=dB s.T i ([],.gone) } (h.plus w b) β w a:=aj.mem (by rw[fZ];exact ok1) le1 (Ext.refl _) (by
          intro q hq;rw[gU]at hq;rcases Ko hq with hq | hq
          .exact aj.gT q hq
          .subst hq;rfl)
         obtain⟨h',iF,bG,cap⟩:=Ur (l:=l) jA hc;refine⟨h',le1.trans iF,bG,⟨?_,cap⟩⟩;have ev:a.eval (.tmp t)=z:=by simp[Act.eval,z1]
         rw[ev,ez];have at_:∀(ys:List Value) (tt:TypeId),w.heap[b]?=some (.cells ys.toArray tt (0,0))->(∀u∈ys,dH u)->At h' b 0 ys:=by
          intro ys tt hw h1 j u hj;refine iF _ _ _ ?_;unfold FH.plus;rw[if_pos rfl,Iy];exact oW hw (by simpa using hj) (h1 u (iJ hj)).2
         have key:∀(ys:List Value) (tt:TypeId),w.heap[b]?=some (.cells ys.toArray tt (0,0))->(sh.isAgg=true->dA h β v (.agg ys.toArray))->(sh.isAgg=false->∃y,ys=[y]/\dA h β v y) ->
          ∃b' cs,(Value.pointer (some ⟨b,0,none⟩))=.pointer (some ⟨b',0,none⟩)/\Rd h' sh cs d/\At h' b' 0 cs:=by
          intro ys tt hw k1 k2;cases hag:sh.isAgg with
          | true=>
            obtain⟨cs,e1,rd⟩:=toDat_ok hd (k1 hag);unfold mkV at e1;rw[if_pos hag]at e1;injection e1 with e1
            have e1:ys=cs:=by simpa using e1
            subst e1;exact⟨b,ys,rfl,(rd.mono le1 _).mono iF _,at_ ys tt hw (Rd.one _ rd)⟩
          | false=>
            obtain⟨y,rfl,c⟩:=k2 hag;obtain⟨cs,e1,rd⟩:=toDat_ok hd c;unfold mkV at e1;rw[if_neg (by rw[hag];simp)]at e1
            have hs:=Rd.size sh rd;rw[akN hag]at hs;obtain⟨u,rfl⟩:=List.length_eq_one_iff.1 hs;have e1:y=u:=e1;subst e1;exact⟨b,[y],rfl,(rd.mono le1 _).mono iF _,at_ [y] tt hw (Rd.one _ rd)⟩
         cases r with
         | obj tt s0 d0=>
           simp only[Eh]at hv;split at hv
           .rename_i hag;rw[aC,A8]at hag;cases hv;obtain⟨ys,e1,rd⟩:=hold;exact key ys tt e1 (λ_=>⟨hag.2,ys,rfl,rd⟩) (λhh=>by rw[hag.1]at hh;cases hh)
           .cases hv
         | blk tt cs=>
           obtain⟨ys,e1,al⟩:=hold;simp only[Eh]at hv;split at hv
           .rename_i hag;cases hv;exact key ys tt e1 (λ_=>⟨ys,rfl,al⟩) (λhh=>by rw[hag]at hh;cases hh)
           .rename_i hag;split at hv
            .rename_i x;cases hv;cases ys with
             | nil=>exact al.elim
             | cons y ys=>
               cases ys with
               | cons _ _=>exact al.2.elim
               | nil=>exact key [y] tt e1 (λhh=>by rw[hag]at hh;cases hh) (λ_=>⟨y,rfl,al.1⟩)
            .cases hv
         | row _ _ _=>simp[Eh]at hv
         | deep _ _ _ _ _ _ _ _=>simp[Eh]at hv
         | mp _ _ _=>simp[Eh]at hv
         | P5 _ _ _ _=>simp[Eh]at hv
         | it _ _ _ _=>simp[Eh]at hv
         | Nl _ _ _ _=>simp[Eh]at hv
         | Jl _ _ _ _=>simp[Eh]at hv
         | gone=>simp[Eh]at hv
        .cases e
       .cases e
      .cases e
     .cases e
    .cases e
   .cases e
theorem akO(ok:gY P E) (aj:Sat E.n B h0 s h β w a) (hg:aK E.cx.gd h){x:HO} (hx:akM E s o=some x) (hd:mF E.n o.dst=true)
 (k:hoK E s o.dst x K):gV P E.n B h0 h w a o (Region.wanted o (yielded ops a.tmps)) K:=by
 unfold akM at hx;split at hx
 .cases hx
 rename_i hgd;rw[show Region.wanted o (yielded ops a.tmps)=gv s.gl [] by simp[Region.wanted,hgd,gv]]
 split at hx
 .rename_i c ho;split at hx
  .rename_i f bW;split at hx
   .rename_i xs g hl;split at hx
    .rename_i ct hct;cases hx;obtain⟨hc,hf⟩:=ok.hc f g ct hct;simp only[hoK]at k;have k':jy E.cx (λf'=>if f'=f then some ct else none) s [] o.dst f xs K:=by
      unfold jy at k ⊢;simpa using k
     exact uH (suf:=[.func (.func g) #[] #[]]) (λf' c' e=>by
      split at e
      .rename_i hff;cases e;rw[hff];exact hc
      .cases e) aj hg rfl hd ho bW (λ_=>rfl) (by
      have:=GI (a:=a) hl;rw[<-this];cases c.args;simp) hf k'
    .cases hx
   .unfold aoV at hx;split at hx
    .unfold aoU at hx;split at hx
     .cases hx
     rename_i q hq;split at hx
     .cases hx
     rename_i xs x hl;split at hx
     .rename_i P' ss r pre g hxe;cases hx;simp only[hoK]at k;obtain⟨eP,pre',g',eA,k⟩:=k;have:=ok.prog _ eP;subst this;obtain⟨hc,hf⟩:=ok.sf f q hq;have k':jy E.cx (λf'=>if f'=f then some (q.ct pre' g') else none) s [] o.dst f xs K:=by
       unfold jy at k ⊢;simpa using k
      rw[eA]at hxe;have Jt:dA h β (.c (.abs (.clo P' q.ss q.r pre' g'))) (a.eval x):=aO aj hg (show gv s.gl []=true from rfl) hxe
      exact yZ (suf:=[a.eval x]) (λc' e d vs h' le hw hg' ha hp=>by
       have e':q.ct pre' g'=c':=by simpa using e
       subst e';exact hc pre' g' d vs [a.eval x] h' w hw hg' ha ⟨⟨(show IB.rel h' (.clo P' q.ss q.r pre' g') (a.eval x) from IB.zJ le (show IB.rel h (.clo P' q.ss q.r pre' g') (a.eval x) from Jt.1)),Jt.2⟩,trivial⟩ hp) aj hg rfl hd ho bW (λ_=>rfl) (by
       have:=GL (a:=a) hl;rw[<-this];cases c.args;simp) hf k'
     .cases hx
    rename_i q hq;split at hx
    .cases hx
    rename_i xs x hl;split at hx
    .rename_i P' ss L hxe;split at hx
     .rename_i L' hL;cases hx;obtain⟨e1,e2⟩:=Z4 hL;simp only[hoK]at k;obtain⟨eP,k⟩:=k;have:=ok.prog _ eP;subst this;subst e1;simp only at e2;subst e2;obtain⟨hc,hf⟩:=ok.sq f q hq;have k':jy E.cx (λf'=>if f'=f then some (q.ct L) else none) s [] o.dst f xs K:=by
       unfold jy at k ⊢;simpa using k
      have Jt:dA h β (.c (.abs (.seq P' q.ss L))) (a.eval x):=aO aj hg (show gv s.gl []=true from rfl) hxe
      exact yZ (suf:=[a.eval x]) (λc' e d vs h' le hw hg' ha hp=>by
       have e':q.ct L=c':=by simpa using e
       subst e';exact hc L d vs [a.eval x] h' w hw hg' ha ⟨⟨(show IB.rel h' (.seq P' q.ss L) (a.eval x) from IB.zJ le (show IB.rel h (.seq P' q.ss L) (a.eval x) from Jt.1)),Jt.2⟩,trivial⟩ hp) aj hg rfl hd ho bW (λ_=>rfl) (by
       have:=GL (a:=a) hl;rw[<-this];cases c.args;simp) hf k'
     .cases hx
    .cases hx
  .rename_i t bW;split at hx
   .rename_i v hlk;split at hx
    .rename_i f hfn;cases hx;simp only[hoK]at k;obtain⟨z,z1,z2,_⟩:=aj.env t [] _ hlk;have ez:z=.func (.func f) #[] #[]:=((z2 rfl:dA h β (.c (.v v)) z).1.1).trans (afu hfn);have hct:∃cc,E.ct f=some cc:=by
      unfold jy at k;cases hh:E.ct f with
      | none=>rw[hh]at k;cases k
      | some cc=>exact⟨cc,rfl⟩
     obtain⟨cc,hct⟩:=hct;exact uH (suf:=[]) (λf' c' e=>(ok.ct f' c' e).1.x) aj hg rfl hd ho bW (λ_=>by simp[Act.eval,z1,ez]) (by cases c.args;simp) (ok.ct f cc hct).2 k
    .cases hx
   .rename_i P' ss r pre g hlk;cases hx;simp only[hoK]at k;obtain⟨eP,k⟩:=k;have:=ok.prog _ eP;subst this;obtain⟨z,z1,z2,_⟩:=aj.env t [] _ hlk;obtain⟨gn,lb,ez,hf,kk⟩:YG P' h ss r pre g z:=(z2 rfl:dA h β (.c (.abs (.clo P' ss r pre g))) z).1;have k':jy E.cx (λf'=>if f'=gn then some { ps:=ss,pre:=pre,res:=λd=>([],.one (iL r (g d))) } else none) s [] o.dst gn (tl c.args) K:=by
     unfold jy at k ⊢;simpa using k
    exact Gg (lb:=lb) (suf:=lb.toList) (λc' e d vs h' le hw hg' ha hp=>by
     have e':({ ps:=ss,pre:=pre,res:=λd=>([],.one (iL r (g d))) }:CT)=c':=by simpa using e
     subst e';rw[show(vs++lb.toList).toArray=vs.toArray++lb by simp]
     refine(kk d vs h' w le hw (F9 ha) hp).mono ?_;rintro en w' ⟨v,rfl,⟨cs,rfl,rd⟩,bel,dr⟩;refine⟨h',[],_,rfl,⟨⟨bel.os,bel.tape,bel.output,bel.size,λk hk ha=>bel.block k hk⟩,dr,rfl,λi r v e _=>by simp at e,λi r v b e _ _ _=>by simp at e,λi j r r' u v b e _ _ _ _ _ _ _=>by simp at e,FH.le.refl h',λb o v hh=>(kD (bel.block b (o9 (hw b o v hh)))).trans (hw b o v hh),λb o v hh=>.inl hh,λk o hh=>hh.elim⟩,jT r (rd.mono (λ_ _ _ e=>by cases e) r)⟩) aj hg rfl hd ho bW (λ_=>by simp[Act.eval,z1,ez]) (by cases c.args;simp) hf k'
   .cases hx
  .cases hx
 .rename_i g fst cap ho;split at hx
  .rename_i arl;cases hx;simp only[hoK]at k;split at k
   .cases k
   rename_i m hm;split at k
   .cases k
   rename_i s' ds hcap;obtain⟨h',le,aT,jU⟩:=Ur aj hcap;obtain⟨hmp,k⟩:=k;have rel:=ok.ZV g m hm ds h' _ hmp (hg.mono le) jU;intro Nx Q next
   rw[if_pos rfl];refine kR (v:=.func (.func g) #[] ((tl cap).map a.eval).toArray) ?_ (next _ _ _ _ _ k le (λ_=>nU.refl w) (aT.put (dS hd) rfl (λ_=>⟨rel,IB.aeW rel⟩) λhh=>by cases hh))
   simp only[execOp,ho,Instr.makeFunc,Sem.run_bind,Sem.run_pure,Result.andThen_ok];rw[iM arl];have:cap.map a.eval=((tl cap).map a.eval).toArray:=by cases cap;simp
   rw[this];simp
  .cases hx
 .cases hx
theorem GN(ok:gY P E) (aj:Sat E.n B h0 s h β w a) (hg:aK E.cx.gd h)
 (k:Og E (tl ops) o s K):DR P E.n B h0 h w a o (Region.wanted o (yielded ops a.tmps)) K:=by
 unfold Og at k;split at k
 .rename_i p hp;split at k
  .cases k
  .rename_i hd;exact(ZM ok.ti aj hg hd hp k).weak
 split at k
 .rename_i p hp;split at k
  .cases k
  .rename_i hd;obtain⟨hgd,st⟩:=afr ok.ti aj hg hd hp k;rw[show Region.wanted o (yielded ops a.tmps)=true by simp[Region.wanted,hgd]]
   exact st
 split at k
 .rename_i x hx;split at k
  .cases k
  .rename_i hd;exact(akO ok aj hg hx hd k).weak
 split at k
 .rename_i ip Ua;obtain⟨hgd,c,f,ho,bW,hf⟩:=Rh Ua;split at k
  .cases k
  .rename_i hd;rw[show Region.wanted o (yielded ops a.tmps)=true by simp[Region.wanted,hgd]]
   rw[show og o.op=tl c.args by simp only[og,ho]]at k
   exact ZB (ok.ip f ip hf).1 (ok.ip f ip hf).2 aj hg hd ho bW k
 split at k
 .split at k
  .exact(sU ok aj hg k).weak
  .rename_i p hp;split at k
   .cases k
   .rename_i hd;exact afm ok.ti aj hg hd hp k
 .rename_i ip Ua;obtain⟨hgd,c,f,ho,bW,hf⟩:=Xo Ua;split at k
  .cases k
  .rename_i hd;rw[show Region.wanted o (yielded ops a.tmps)=true by simp[Region.wanted,hgd]]
   rw[show og o.op=tl c.args by simp only[og,ho]]at k
   exact afd (ok.ip f ip hf).1 (ok.ip f ip hf).2 aj hg hd ho bW k
theorem Le{P:Program}{E:Env} (ok:gY P E){B:Base}{h0:FH} (hg:aK E.cx.gd h0){ops:Array Oper}{R:Act->World->Prop}{K:St->Prop}:∀(l:List Oper){s:St}{h:FH}{β:List RV}{w:World}{a:Act},Sat E.n B h0 s h β w a ->
 aft E (tl ops) l s K->(∀s' h' β' w' a',K s'->h.le h'->Sat E.n B h0 s' h' β' w' a'->Same (jV l) a a'->R a' w')->wpL P ops R l a w
 | [],s,h,β,w,a,aj,k,next=>next _ _ _ _ _ k (FH.le.refl h) aj (Same.refl _ _)
 | o :: r,s,h,β,w,a,aj,k,next=>by
   have:=GN ok aj (hg.mono aj.ok.hle) k (wpL P ops R r) KJ λs' h' β' w' v k' le aT=>Le ok hg r aT k' λs2 h2 β2 w2 a2 k2 iF bG sm=>next s2 h2 β2 w2 a2 k2 (le.trans iF) bG sm.put
   unfold wpL;split
   .rename_i hw;rw[if_pos hw]at this;exact this
   .rename_i hw;rw[if_neg hw]at this;exact this
def Z8(ops:Array Oper) (listed:Array Bool) (i:Nat):List Nat:=
 (List.range ops.size).foldl (λacc j=>if j != i && !listed.getD j true && (match ops[j]? with | some o=>o.after.any (λe=>Region.binds .any e && (e.on == i || acc.contains e.on)) | none=>false) then j :: acc else acc) []
def Ri(ops:Array Oper) (listed:Array Bool) (i:Nat) (bl:List Nat):Bool:=
 (bl.all λj=>!listed.getD j true && (match ops[j]? with | some o=>o.after.any (λe=>Region.binds .any e && (e.on == i || bl.contains e.on)) | none=>false)) &&
 ((List.range ops.size).all λj=>j == i || listed.getD j true || y7 ops j || bl.contains j)
theorem DU{listed:Array Bool}{bl:List Nat} (h:Ri ops listed i bl=true):
 Waits .any ops listed i bl/\∀j,j≠i->listed.getD j true=false->y7 ops j=false->j∈bl:=by
 simp only[Ri,A8,Ti]at h;refine⟨λj hj=>?_,λj hji hun hs=>?_⟩
 .have h1:=h.1 j hj;simp only[Kq]at h1;refine⟨h1.1,?_⟩;cases ho:ops[j]? with
  | none=>rw[ho]at h1;exact absurd h1.2 (by simp)
  | some o=>
    rw[ho]at h1;obtain⟨e,he,hb⟩:=Array.any_eq_true'.1 h1.2;simp only[A8,Ee,yR,aeP]at hb;exact⟨o,rfl,e,he,hb.1,hb.2⟩
 .rcases Yz j ops.size with iq | hge
  .have h2:=h.2 j (aeU.2 iq);simp only[Ee,yR,hji,hun,hs,aeP,aeS,false_or]at h2;exact h2
  .have:ops[j]?=none:=aeN hge;simp[y7,this]at hs
inductive DT where
 | done
 | fl (i:Nat) (t:DT)
 | op (i:Nat) (t:DT)
 | alt (i:Nat) (t m:DT)
inductive OT where
 | done
 | op (o:Oper) (t:OT)
 | alt (o:Oper) (t m:OT)
def DT.alts:DT->List Nat
 | .op i _=>[i]
 | .alt i _ m=>i :: m.alts
 | _=>[]
def EJ(ops:Array Oper) (listed:Array Bool) (i:Nat):Bool:=match ops[i]? with
 | some o=>kF o.op && Region.free .any ops listed i && (Region.ready .any ops listed).contains i && (!isLoad o.op || Ri ops listed i (Z8 ops listed i))
 | none=>false
def kT(ops:Array Oper):DT->Bool->Nat->Array Bool->Bool
 | .done,top,n,listed=>top && n == 0 && (Region.ready .any ops listed).isEmpty
 | .fl i t,top,n,listed=>top && n != 0 && EJ ops listed i && kT ops t true (n - 1) (listed.setIfInBounds i true)
 | .op i t,top,n,listed=>(!top || Region.ready .any ops listed == [i]) && n != 0 && (ops[i]?).isSome && kT ops t true (n - 1) (listed.setIfInBounds i true)
 | .alt i t m,top,n,listed=>(!top || Region.ready .any ops listed == i :: m.alts) && n != 0 && (ops[i]?).isSome && kT ops t true (n - 1) (listed.setIfInBounds i true) && kT ops m false n listed
def goT(g:Nat->DT):List Nat->DT
 | []=>.done
 | [i]=>.op i (g i)
 | i :: r=>.alt i (g i) (goT g r)
def Xp(ops:Array Oper):Nat->Array Bool->DT
 | 0,_=>.done
 | f+1,listed=>
   let rs:=Region.ready .any ops listed
   match rs.find? (λi=>EJ ops listed i) with
   | some i=>.fl i (Xp ops f (listed.setIfInBounds i true))
   | none=>goT (λi=>Xp ops f (listed.setIfInBounds i true)) rs
def EK(ops:Array Oper):DT->OT
 | .done=>.done
 | .fl i t=>match ops[i]? with
   | some o=>.op o (EK ops t)
   | none=>.done
 | .op i t=>match ops[i]? with
   | some o=>.op o (EK ops t)
   | none=>.done
 | .alt i t m=>match ops[i]? with
   | some o=>.alt o (EK ops t) (EK ops m)
   | none=>.done
def ofL:List Oper->OT
 | []=>.done
 | o :: l=>.op o (ofL l)
abbrev sV(E:Env) (ops:List Oper):OT->St->(St->Prop)->Prop
 | .done,s,K=>K s
 | .op o t,s,K=>jl E ops o s λs=>sV E ops t s K
 | .alt o t m,s,K=>(jl E ops o s λs=>sV E ops t s K)/\sV E ops m s K
theorem Oh{E:Env}{ops:List Oper}{K:St->Prop}:∀(l:List Oper),(λs=>sV E ops (ofL l) s K)=λs=>Z5 E ops l s K
 | []=>rfl
 | o :: l=>by
   funext s
   show jl E ops o s (λs=>sV E ops (ofL l) s K)=jl E ops o s λs=>Z5 E ops l s K
   rw[Oh l]
theorem Xq{ops:List Oper} (l:List Oper) (h:sV E ops (ofL l) s K):Z5 E ops l s K:=by
 have:=congrFun (Oh (E:=E) (ops:=ops) (K:=K) l) s;rw[<-this];exact h
def isPure(o:Oper):Bool:=match o.op with
 | .alloc _ | .box .. | .buildSlice .. | .makeSlice .. | .store ..=>false
 | .call c=>(match c.callee with | .value (.func _)=>false | .builtin .append=>false | .builtin .copy=>false | .builtin .min=>false | .builtin .max=>false | _=>true)
 | _=>true
def xM(ops:Array Oper):Option OT:=
 if ops.all isPure && Region.lexB .any ops then some (ofL ops.toList)
 else
  let t:=Xp ops ops.size (Array.replicate ops.size false)
  if Region.noSelect ops && kT ops t true ops.size (Array.replicate ops.size false) then some (EK ops t) else none
section
variable {P:Program}{E:Env}{B:Base}{h0:FH}{s:St}{h:FH}{β:List RV}{w:World}{a:Act}{o:Oper}{ops:Array Oper}{K:St->Prop}
theorem Oi{L:List Nat}{l:List Oper}{g:Option (Nat×Bool)}{K K':Gd->St->Prop} (hk:∀G s,K G s->K' G s) (h:wz L s l g K):wz L s l g K':=by
 unfold wz at *;split at h
 .exact hk _ _ h
 .split at h
  .cases h
  .split at h
   .split at h
    .split at h
     .split at h
      .exact hk _ _ h
      .cases h
     .split at h
      .cases h
      .exact hk _ _ h
    .cases h
   .split at h
    .split at h
     .exact hk _ _ h
     .exact hk _ _ h
    .cases h
theorem GR(hp:isPure o=true) (k:jl E (tl ops) o s K):mF E.n o.dst=true/\wz E.lits s (tl ops) o.guard λG s=>oD E.cx s G o λe=>K (s.put o.dst G e):=by
 unfold jl at k;rw[ZI (λt n ps ho=>by simp[isPure,ho]at hp) (λc ho bW=>by simp[isPure,ho,bW]at hp)]at k
 simp only at k;unfold Ld at k;split at k
 .cases k
 rename_i hd;refine⟨hd,?_⟩;have key:∀G s,(match o.op with
  | .alloc t=>KE E.cx s G o.dst t K
  | .box t x=>ae5 E.cx s G o.dst t x K
  | .buildSlice t n ps=>nN E.cx (nZ s (akJ E s G (tl ps))) G o.dst t n (tl ps) K
  | .makeSlice t l c=>TS E.cx s G o.dst t l c K
  | .store t p x=>match G with
    | []=>match afi E.cx s o.dst t p x K with
      | some q=>q
      | none=>KF E.cx (nZ s (ZX E s p x)) o.dst t p x K
    | _ :: _=>False
  | .call c=>match c.callee with
    | .value (.func f)=>match hcL E f (tl c.args) with
      | some (ct,xs)=>jy E.cx (λ_=>some ct) s G o.dst f xs K
      | none=>jy E.cx E.ct (nZ s (ZW E s G f (tl c.args))) G o.dst f (tl c.args) K
    | .builtin .append=>match G with
      | []=>match tl c.args with
        | [x,y]=>match tl c.argTypes with
          | [t,t']=>match Nat.beq t t' with
            | true=>match Ui s x λs=>xE E.cx s o.dst t x y K with
              | some q=>q
              | none=>xE E.cx s o.dst t x y K
            | false=>False
          | _=>False
        | _=>False
      | _ :: _=>False
    | .builtin .copy=>match G with
      | []=>match tl c.args with
        | [x,y]=>match tl c.argTypes with
          | [t,_]=>Uj E.cx s o.dst t x y K
          | _=>False
        | _=>False
      | _ :: _=>False
    | .builtin .min=>match G with
      | []=>match tl c.args with
        | [x,y]=>afl E.cx s o.dst x y K
        | _=>False
      | _ :: _=>False
    | .builtin .max=>match G with
      | []=>match tl c.args with
        | [x,y]=>QK E.cx s o.dst x y K
        | _=>False
      | _ :: _=>False
    | _=>oD E.cx s G o λe=>K (s.put o.dst G e)
  | _=>oD E.cx s G o λe=>K (s.put o.dst G e))->oD E.cx s G o λe=>K (s.put o.dst G e):=by
  intro G s k;split at k
  .rename_i ho;simp[isPure,ho]at hp
  .rename_i ho;simp[isPure,ho]at hp
  .rename_i ho;simp[isPure,ho]at hp
  .rename_i ho;simp[isPure,ho]at hp
  .rename_i ho;simp[isPure,ho]at hp
  .rename_i c ho;split at k
   .rename_i hc;simp[isPure,ho,hc]at hp
   .rename_i hc;simp[isPure,ho,hc]at hp
   .rename_i hc;simp[isPure,ho,hc]at hp
   .rename_i hc;simp[isPure,ho,hc]at hp
   .rename_i hc;simp[isPure,ho,hc]at hp
   .exact k
  .exact k
 exact Oi key k
theorem Z9{x:Callee} (h:(match x with | .builtin .len=>true | _=>false)=true):x=.builtin .len:=by
 split at h
 .rfl
 .cases h
theorem Rj(hf:kF o.op=true):isPure o=true:=by
 cases ho:o.op with
 | call c=>
   rw[ho]at hf;have:c.callee=.builtin .len:=Z9 hf;simp[isPure,ho,this]
 | _=>
   rw[ho]at hf
   first
    | (simp[isPure,ho];done)
    | (simp[kF,nJ]at hf;done)
theorem wI{x:Op} (hf:kF x=true):quietly x=true:=by
 cases x with
 | call c=>
   have:c.callee=.builtin .len:=Z9 hf;simp[quietly,this]
 | _=>
   first
    | rfl
    | (simp[kF,nJ]at hf;done)
theorem zf(ok:gY P E) (aj:Sat E.n B h0 s h β w a) (hg:aK E.cx.gd h) (hf:kF o.op=true) (k:jl E (tl ops) o s K):
 ∃v s',YI P ops (isLoad o.op) w o v a/\K s'/\Sat E.n B h0 s' h β w (a.put o.dst v):=by
 obtain⟨hd,k⟩:=GR (Rj hf) k;obtain⟨G,s',k,aT,hw,hG⟩:=xC aj k;obtain⟨e,k1,k2⟩:=WO ok.ti aT hg hf k;cases hgv:gv s'.gl G with
 | true=>
   obtain⟨v,r,c⟩:=k2 hgv;refine⟨v,_,.inl ⟨by rw[hw];exact hgv,λw' hg'=>?_⟩,k1,aT.put (dS hd) hG (λ_=>c) λhh=>by rw[hgv]at hh;cases hh⟩
   exact r w' hg'
 | false=>
   exact⟨undef,_,.inr ⟨by rw[hw];exact hgv,rfl⟩,k1,aT.put (dS hd) hG (λhh=>by rw[hgv]at hh;cases hh) λ_=>rfl⟩
theorem still_step(ok:gY P E) (aj:Sat E.n B h0 s h β w a) (hg:aK E.cx.gd h) (hp:isPure o=true) (k:jl E (tl ops) o s K){Nx:Act->Prop}
 (next:∀v s',K s'->Sat E.n B h0 s' h β w (a.put o.dst v)->Nx (a.put o.dst v)):if Region.wanted o (yielded ops a.tmps) then o.still P a w Nx else Nx (a.put o.dst undef):=by
 obtain⟨hd,k⟩:=GR hp k;obtain⟨G,s',k,aT,hw,hG⟩:=xC aj k;obtain⟨e,k1,k2⟩:=FZ ok.ti aT hg k;rw[hw];cases hgv:gv s'.gl G with
 | true=>
   obtain⟨v,r,c⟩:=k2 hgv;rw[if_pos rfl];unfold Oper.still;rw[r,Oper.stillUpon_value];exact next _ _ k1 (aT.put (dS hd) hG (λ_=>c) λhh=>by rw[hgv]at hh;cases hh)
 | false=>
   rw[if_neg (by simp)]
   exact next _ _ k1 (aT.put (dS hd) hG (λhh=>by rw[hgv]at hh;cases hh) λ_=>rfl)
theorem Oj(ok:gY P E) (hg:aK E.cx.gd h0){R:Act->Prop}:∀(l:List Oper){s:St}{a:Act},l.all isPure=true->Sat E.n B h0 s h β w a->Z5 E (tl ops) l s K ->
 (∀s' a',K s'->Sat E.n B h0 s' h β w a'->Same (jV l) a a'->R a')->wpStill P ops w R l a
 | [],s,a,_,aj,k,next=>next _ _ k aj (Same.refl _ _)
 | o :: r,s,a,hp,aj,k,next=>by
   simp only[List.all_cons,A8]at hp;exact still_step ok aj (hg.mono aj.ok.hle) hp.1 k λv s' k' aT=>Oj ok hg r hp.2 aT k' λs2 a2 k2 bG sm=>next s2 a2 k2 bG sm.put
abbrev CV(cx:Cx):List Oper->Bool
 | []=>false
 | o :: l=>match o.op with
   | .call c=>match c.callee with
     | .builtin .len=>match tl c.argTypes with
       | [t]=>match ZO cx t with
         | true=>true
         | false=>CV cx l
       | _=>CV cx l
     | _=>CV cx l
   | .lookup _ _ _ _=>true
   | _=>CV cx l
abbrev stepM(E:Env) (ops:List Oper) (o:Oper) (s:St) (K:St->Prop):Prop:=match o.guard with
 | some _=>jl E ops o s K
 | none=>match La E.cx s o.op λe=>K (s.put o.dst [] e) with
   | some p=>match mF E.n o.dst with
     | false=>False
     | true=>p
   | none=>jl E ops o s K
abbrev Xr(E:Env) (ops:List Oper):List Oper->St->(St->Prop)->Prop
 | [],s,K=>K s
 | o :: r,s,K=>stepM E ops o s λs=>Xr E ops r s K
theorem CW(ok:gY P E) (hg:aK E.cx.gd h0){R:Act->Prop}:∀(l:List Oper){s:St}{a:Act},l.all isPure=true->Sat E.n B h0 s h β w a->Xr E (tl ops) l s K ->
 (∀s' a',K s'->Sat E.n B h0 s' h β w a'->Same (jV l) a a'->R a')->wpStill P ops w R l a
 | [],s,a,_,aj,k,next=>next _ _ k aj (Same.refl _ _)
 | o :: r,s,a,hp,aj,k,next=>by
   simp only[List.all_cons,A8]at hp;have old:jl E (tl ops) o s (λs=>Xr E (tl ops) r s K)->wpStill P ops w R (o :: r) a:=λk=>
    still_step ok aj (hg.mono aj.ok.hle) hp.1 k λv s' k' aT=>CW ok hg r hp.2 aT k' λs2 a2 k2 bG sm=>next s2 a2 k2 bG sm.put
   simp only[Xr,stepM]at k;split at k
   .exact old k
   .rename_i hgd;split at k
    .rename_i p hp';split at k
     .cases k
     .rename_i hd;obtain⟨e,v,k1,run,c⟩:=Oc ok.ti aj (hg.mono aj.ok.hle) hp' k;unfold wpStill;rw[if_pos (by simp[Region.wanted,hgd])]
      unfold Oper.still;rw[run,Oper.stillUpon_value];exact CW ok hg r hp.2 (aj.put (dS hd) rfl (λ_=>c) λhh=>by cases hh) k1 λs2 a2 k2 bG sm=>next s2 a2 k2 bG sm.put
    .exact old k
def afv(ops:Array Oper):Bool:=ops.all isPure && Region.lexB .any ops
theorem wJ{t:Nat}:∀{l:List Oper},jc t (jV l)=true↔∃o∈l,o.dst=some t
 | []=>by simp[jV,jc]
 | o :: l=>by
   cases hd:o.dst with
   | none=>
     have e:jV (o :: l)=jV l:=by simp only[jV,hd]
     rw[e,wJ];simp[hd]
   | some d=>
     have e:jV (o :: l)=d :: jV l:=by simp only[jV,hd]
     rw[e,jF,Ee,wJ];constructor
     .rintro(h | ⟨o',h1,h2⟩)
      .exact⟨o,by simp,by rw[hd,iE h]⟩
      .exact⟨o',by simp[h1],h2⟩
     .rintro⟨o',h1,h2⟩;rcases mM.1 h1 with rfl | h1
      .rw[hd]at h2;cases h2;exact .inl (Nat.beq_refl _)
      .exact .inr ⟨o',h1,h2⟩
theorem Same.sub{l m:List Oper} (hs:∀o∈l,o∈m) (x:Same (jV l) a b):Same (jV m) a b:=λt h=>x t (by
 cases hh:jc t (jV l) with
 | false=>rfl
 | true=>
   obtain⟨o,h1,h2⟩:=wJ.1 hh;rw[wJ.2 ⟨o,hs o h1,h2⟩]at h;cases h)
theorem Same.put_mem{ol:List Oper} (ho:o∈ol){v:Value} (x:Same (jV ol) (a.put o.dst v) b):Same (jV ol) a b:=by
 intro t h;rw[x t h];cases hd:o.dst with
 | none=>rfl
 | some d=>
   have hne:d≠t:=by
    rintro rfl;rw[wJ.2 ⟨o,ho,hd⟩]at h;cases h
   simp[Act.put,ajV hne]
theorem Az(ok:gY P E) (hg:aK E.cx.gd h0) (hs:Region.noSelect ops=true){R:Act->World->Prop}:∀(t:DT){n:Nat}{listed:Array Bool}{s:St}{h:FH}{β:List RV}{w:World}{a:Act},
 Sat E.n B h0 s h β w a->sV E (tl ops) (EK ops t) s K->(∀s' h' β' w' a',K s'->h.le h'->Sat E.n B h0 s' h' β' w' a'->Same (jV ops.toList) a a'->R a' w') ->
 (kT ops t true n listed=true->anyI P .any ops (y7 ops) R n listed a w) /\
 (kT ops t false n listed=true->∀i∈t.alts,BR P ops i (λa' w'=>(y7 ops i=true->nU w w')/\anyI P .any ops (y7 ops) R (n - 1) (listed.setIfInBounds i true) a' w') a w)
 | .done,n,listed,s,h,β,w,a,aj,k,next=>by
   refine⟨λhc=>?_,λhc=>by simp[kT]at hc⟩
   simp only[kT,Iw,A8,yR]at hc;obtain⟨rfl,he⟩:=hc;exact⟨by simpa using he,next _ _ _ _ _ k (FH.le.refl h) aj (Same.refl _ _)⟩
 | .fl i t,n,listed,s,h,β,w,a,aj,k,next=>by
   refine⟨λhc=>?_,λhc=>by simp[kT]at hc⟩
   simp only[kT,Iw,A8,Nh,ne_eq]at hc;obtain⟨⟨hn,hb⟩,hc⟩:=hc;obtain⟨n,rfl⟩:∃m,n=m+1:=⟨n - 1,by omega⟩
   unfold EJ at hb;cases hi:ops[i]? with
   | none=>rw[hi]at hb;simp at hb
   | some o=>
     rw[hi]at hb;simp only[A8]at hb;simp only[EK,hi,sV]at k;have lV:o∈ops.toList:=iJ (i:=i) (by simpa using hi)
     obtain⟨⟨⟨hf,hfree⟩,hr⟩,hl⟩:=hb;obtain⟨v,s',hy,k',aT⟩:=zf ok aj (hg.mono aj.ok.hle) hf k;have hq:y7 ops i=true:=by
      simp only[y7,hi];exact wI hf
     refine Gh (bl:=Z8 ops listed i) hi (Region.noSelect_spec hs) hq n listed a w (Region.free_spec hi hfree) (λe=>?_) (by simpa using hr) hy (λ_=>nU.refl w)
      ((Az ok hg hs t aT k' λs2 h2 β2 w2 a2 k2 iF bG sm=>next s2 h2 β2 w2 a2 k2 iF bG (sm.put_mem lV)).1 hc)
     rw[e]at hl;exact DU (by simpa using hl)
 | .op i t,n,listed,s,h,β,w,a,aj,k,next=>by
   have key:n≠0->(ops[i]?).isSome=true->kT ops t true (n - 1) (listed.setIfInBounds i true)=true->BR P ops i (λa' w'=>(y7 ops i=true->nU w w')/\anyI P .any ops (y7 ops) R (n - 1) (listed.setIfInBounds i true) a' w') a w:=by
    intro hn hi hc;obtain⟨o,hi⟩:=A91.1 hi;have lV:o∈ops.toList:=iJ (i:=i) (by simpa using hi)
    simp only[EK,hi,sV]at k;unfold BR;simp only[hi];refine sU ok aj (hg.mono aj.ok.hle) k _ KJ λs' h' β' w' v k' le CJ aT=>⟨λe=>CJ (by simpa[y7,hi]using e),?_⟩
    exact(Az ok hg hs t aT k' λs2 h2 β2 w2 a2 k2 iF bG sm=>next s2 h2 β2 w2 a2 k2 (le.trans iF) bG (sm.put_mem lV)).1 hc
   refine⟨λhc=>?_,λhc j hj=>?_⟩
   .simp only[kT,Wj,Wn,A8,Nh,ne_eq,yR]at hc;obtain⟨⟨⟨hr,hn⟩,hi⟩,hc⟩:=hc;obtain⟨m,rfl⟩:∃m,n=m+1:=⟨n - 1,by omega⟩
    refine⟨λh0=>by rw[hr]at h0;simp at h0,λj hj=>?_⟩
    rw[hr]at hj;simp at hj;subst hj;exact key hn hi hc
   .simp only[kT,Ql,Wq,Iw,A8,Nh,ne_eq]at hc;simp only[DT.alts,Ya]at hj;subst hj;exact key hc.1.1 hc.1.2 hc.2
 | .alt i t m,n,listed,s,h,β,w,a,aj,k,next=>by
   have key:n≠0->(ops[i]?).isSome=true->kT ops t true (n - 1) (listed.setIfInBounds i true)=true->kT ops m false n listed=true ->
    ∀j∈i :: m.alts,BR P ops j (λa' w'=>(y7 ops j=true->nU w w')/\anyI P .any ops (y7 ops) R (n - 1) (listed.setIfInBounds j true) a' w') a w:=by
    intro hn hi hc hm j hj;obtain⟨o,hi⟩:=A91.1 hi;have lV:o∈ops.toList:=iJ (i:=i) (by simpa using hi)
    simp only[EK,hi,sV]at k;rcases mM.1 hj with rfl | hj
    .unfold BR;simp only[hi];refine sU ok aj (hg.mono aj.ok.hle) k.1 _ KJ λs' h' β' w' v k' le CJ aT=>⟨λe=>CJ (by simpa[y7,hi]using e),?_⟩
     exact(Az ok hg hs t aT k' λs2 h2 β2 w2 a2 k2 iF bG sm=>next s2 h2 β2 w2 a2 k2 (le.trans iF) bG (sm.put_mem lV)).1 hc
    .exact(Az ok hg hs m aj k.2 next).2 hm j hj
   refine⟨λhc=>?_,λhc j hj=>?_⟩
   .simp only[kT,Wj,Wn,A8,Nh,ne_eq,yR]at hc;obtain⟨⟨⟨⟨hr,hn⟩,hi⟩,hc⟩,hm⟩:=hc;obtain⟨q,rfl⟩:∃m,n=m+1:=⟨n - 1,by omega⟩
    refine⟨λh0=>by rw[hr]at h0;simp at h0,λj hj=>?_⟩
    rw[hr]at hj;exact key hn hi hc hm j hj
   .simp only[kT,Ql,Wq,Iw,A8,Nh,ne_eq]at hc;exact key hc.1.1.1 hc.1.1.2 hc.1.2 hc.2 j hj
theorem Sat.drawn(aj:Sat E.n B h0 s h β w a) (n:Nat) (hn:w.drawn<=n):Sat E.n B h0 s h β { w with drawn:=n } a where
 ok:=⟨⟨aj.ok.below.os,aj.ok.below.tape,aj.ok.below.output,aj.ok.below.size,aj.ok.below.block⟩,qY aj.ok.dr hn,aj.ok.len,λi r v h1 h2=>by
  have:=aj.ok.holds i r v h1 h2;cases r<;>cases v<;>exact this,aj.ok.own,aj.ok.inj,aj.ok.hle,aj.ok.hw,aj.ok.hg,aj.ok.kn⟩
 env:=aj.env
 gs:=aj.gs
 defers:=aj.defers
 sz:=aj.sz
 gb:=aj.gb
 gT:=aj.gT
theorem Us(ok:gY P E) (hg:aK E.cx.gd h0){id:Nat}{ol:OT} (ho:xM ops=some ol) (aj:Sat E.n B h0 s h β w a) (k:sV E (tl ops) ol s K){F:Fence} (hF:Wd F) (hn:EH ops.toList=true)
 (next:∀s' h' β' w' a',K s'->h.le h'->Sat E.n B h0 s' h' β' w' a'->Same (jV (tl ops)) a a'->Q .normal a' w'):(Code.region id ops true).wpIn F n P Q a w:=by
 unfold xM at ho;have et:tl ops=ops.toList:=by cases ops;rfl
 split at ho
 .rename_i hp;cases ho;simp only[A8]at hp;refine Aw hF hn ok.mixed hp.2 (Oj ok hg ops.toList (by simpa using hp.1) (aj.drawn _ (BZ _)) (Xq _ k) λs' a' k' aT sm=>next _ _ _ _ _ k' (FH.le.refl h) aT (by rw[et];exact sm))
 .simp only at ho;split at ho
  .rename_i hp;cases ho;simp only[A8,yR]at hp;refine wpIn_region_any ok.mixed (KY (sf:=y7 ops) (R:=λa w=>Q .normal a w) hF hn (λ_ _ hh=>hh) _ _ _ _ ?_)
   exact(Az ok hg hp.1 (R:=λa w=>Q .normal a w) (Xp ops ops.size (Array.replicate ops.size false)) (aj.drawn (w.drawn+1) (BZ _)) k λs' h' β' w' a' k' le aT sm=>next _ _ _ _ _ k' le aT (by rw[et];exact sm)).1 hp.2
  .cases ho
end
section
variable {P:Program}{E:Env}{B:Base}{h0:FH}{s:St}{h:FH}{β:List RV}{w:World}{a:Act}{o:Oper}{ops:Array Oper}{K:St->Prop}
theorem aac(ok:gY P E) (hg:aK E.cx.gd h0){id:Nat} (ho:afv ops=true) (aj:Sat E.n B h0 s h β w a) (k:Xr E (tl ops) (tl ops) s K){F:Fence} (hF:Wd F) (hn:EH ops.toList=true)
 (next:∀s' h' β' w' a',K s'->h.le h'->Sat E.n B h0 s' h' β' w' a'->Same (jV (tl ops)) a a'->Q .normal a' w'):(Code.region id ops true).wpIn F n P Q a w:=by
 unfold afv at ho;have et:tl ops=ops.toList:=by cases ops;rfl
 simp only[A8]at ho;rw[et]at next
 refine Aw hF hn ok.mixed ho.2 (CW ok hg ops.toList (by simpa using ho.1) (aj.drawn _ (BZ _)) (by rw[et]at k ⊢;exact k) λs' a' k' aT sm=>next _ _ _ _ _ k' (FH.le.refl h) aT sm)
end
abbrev afw:Op->Bool
 | .call _=>true
 | _=>false
def CX:Op->Bool
 | .call c=>(match c.callee with
   | .builtin .len=>true
   | _=>false)
 | o=>quietly o
def Ol(ops:Array Oper) (i:Nat):Bool:=match ops[i]? with
 | some o=>CX o.op
 | none=>true
def Rk(ops:Array Oper) (listed:Array Bool) (i:Nat) (bl:List Nat):Bool:=
 (bl.all λj=>!listed.getD j true && (match ops[j]? with | some o=>o.after.any (λe=>Region.binds .any e && (e.on == i || bl.contains e.on)) | none=>false)) &&
 ((List.range ops.size).all λj=>j == i || listed.getD j true || Ol ops j || bl.contains j)
theorem Om{listed:Array Bool}{bl:List Nat} (h:Rk ops listed i bl=true):
 Waits .any ops listed i bl/\∀j,j≠i->listed.getD j true=false->Ol ops j=false->j∈bl:=by
 simp only[Rk,A8,Ti]at h;refine⟨λj hj=>?_,λj hji hun hs=>?_⟩
 .have h1:=h.1 j hj;simp only[Kq]at h1;refine⟨h1.1,?_⟩;cases ho:ops[j]? with
  | none=>rw[ho]at h1;exact absurd h1.2 (by simp)
  | some o=>
    rw[ho]at h1;obtain⟨e,he,hb⟩:=Array.any_eq_true'.1 h1.2;simp only[A8,Ee,yR,aeP]at hb;exact⟨o,rfl,e,he,hb.1,hb.2⟩
 .rcases Yz j ops.size with iq | hge
  .have h2:=h.2 j (aeU.2 iq);simp only[Ee,yR,hji,hun,hs,aeP,aeS,false_or]at h2;exact h2
  .have:ops[j]?=none:=aeN hge;simp[Ol,this]at hs
def Lh(ops:Array Oper) (listed:Array Bool) (i:Nat):Bool:=match ops[i]? with
 | some o=>kF o.op && Region.free .any ops listed i && (Region.ready .any ops listed).contains i && (!isLoad o.op || Rk ops listed i (Z8 ops listed i))
 | none=>false
def vP(ops:Array Oper):DT->Bool->Nat->Array Bool->Bool
 | .done,top,n,listed=>top && n == 0 && (Region.ready .any ops listed).isEmpty
 | .fl i t,top,n,listed=>top && n != 0 && Lh ops listed i && vP ops t true (n - 1) (listed.setIfInBounds i true)
 | .op i t,top,n,listed=>(!top || Region.ready .any ops listed == [i]) && n != 0 && (ops[i]?).isSome && vP ops t true (n - 1) (listed.setIfInBounds i true)
 | .alt i t m,top,n,listed=>(!top || Region.ready .any ops listed == i :: m.alts) && n != 0 && (ops[i]?).isSome && vP ops t true (n - 1) (listed.setIfInBounds i true) && vP ops m false n listed
def Ut(ops:Array Oper):Nat->Array Bool->DT
 | 0,_=>.done
 | f+1,listed=>
   let rs:=Region.ready .any ops listed
   match rs.find? (λi=>Lh ops listed i) with
   | some i=>.fl i (Ut ops f (listed.setIfInBounds i true))
   | none=>goT (λi=>Ut ops f (listed.setIfInBounds i true)) rs
def AA(ops:Array Oper):Option OT:=
 let t:=Ut ops ops.size (Array.replicate ops.size false)
 if Region.noSelect ops && vP ops t true ops.size (Array.replicate ops.size false) then some (EK ops t) else none
abbrev Oo(E:Env) (ops:List Oper) (o:Oper) (s:St) (K:St->Prop):Prop:=match kF o.op with
 | true=>jl E ops o s K
 | false=>match rtP E.cx s o K with
 | some p=>match mF E.n o.dst with
   | false=>False
   | true=>p
 | none=>match afw o.op with
   | true=>Og E ops o s K
   | false=>jl E ops o s K
abbrev rD(E:Env) (ops:List Oper):OT->St->(St->Prop)->Prop
 | .done,s,K=>K s
 | .op o t,s,K=>Oo E ops o s λs=>rD E ops t s K
 | .alt o t m,s,K=>(Oo E ops o s λs=>rD E ops t s K)/\rD E ops m s K
abbrev Oq(E:Env):List Oper->Bool
 | []=>false
 | o :: l=>match o.op with
   | .call c=>match c.callee with
     | .value (.func f)=>match E.ip f with
       | some _=>true
       | none=>Oq E l
     | _=>Oq E l
   | _=>Oq E l
section
variable {P:Program}{E:Env}{B:Base}{h0:FH}{s:St}{h:FH}{β:List RV}{w:World}{a:Act}{o:Oper}{ops:Array Oper}{K:St->Prop}
theorem Ot(ok:gY P E) (aj:Sat E.n B h0 s h β w a) (hg:aK E.cx.gd h) (hi:ops[i]?=some o) (k:Oo E (tl ops) o s K){R:Act->World->Prop}
 (next:∀s' h' β' w' v,K s'->h.le h'->(Ol ops i=true->nU w w')->Sat E.n B h0 s' h' β' w' (a.put o.dst v)->R (a.put o.dst v) w'):BR P ops i R a w:=by
 unfold BR;simp only[hi];unfold Oo at k;have plain:CX o.op=quietly o.op->jl E (tl ops) o s K->if Region.wanted o (yielded ops a.tmps)=true then o.wp P a w R KJ else R (a.put o.dst undef) w:=λhq k=>
  sU ok aj hg k R KJ λs' h' β' w' v k' le CJ aT=>next s' h' β' w' v k' le (λe=>CJ (by rw[<-hq];simpa[Ol,hi]using e)) aT
 split at k
 .rename_i hf;refine plain ?_ k;cases ho:o.op with
  | call c=>
    rw[ho]at hf;have:c.callee=.builtin .len:=Z9 hf;simp[CX,quietly,this]
  | _=>rfl
 .rename_i hf;split at k
  .rename_i p hp;split at k
   .cases k
   .rename_i hd;refine ZM ok.ti aj hg hd hp k R KJ λs' h' β' w' v k' le CJ aT=>next s' h' β' w' v k' le (λe=>CJ ?_) aT
    simp only[Ol,hi]at e;revert e;unfold CX;split
    .rename_i c hc;split
     .rename_i h2;intro _;rw[hc];simp[quietly,h2]
     .intro e;cases e
    .exact λe=>e
  split at k
  .rename_i hc;refine GN ok aj hg k R KJ λs' h' β' w' v k' le aT=>next s' h' β' w' v k' le (λe=>?_) aT
   exfalso;cases ho:o.op with
   | call c=>
     rw[ho]at hf;simp only[Ol,hi,ho,CX]at e;have h1:c.callee=.builtin .len:=by
      revert e;split
      .rename_i h2;intro _;exact h2
      .intro e;cases e
     have:kF (Op.call c)=true:=by simp[kF,nJ,h1]
     rw[this]at hf;cases hf
   | _=>rw[ho]at hc;cases hc
  .rename_i hc;refine plain ?_ k;cases ho:o.op with
   | call c=>rw[ho]at hc;cases hc
   | _=>rfl
theorem wK(ok:gY P E) (hg:aK E.cx.gd h0) (hs:Region.noSelect ops=true){R:Act->World->Prop}:∀(t:DT){n:Nat}{listed:Array Bool}{s:St}{h:FH}{β:List RV}{w:World}{a:Act},
 Sat E.n B h0 s h β w a->rD E (tl ops) (EK ops t) s K->(∀s' h' β' w' a',K s'->h.le h'->Sat E.n B h0 s' h' β' w' a'->Same (jV ops.toList) a a'->R a' w') ->
 (vP ops t true n listed=true->anyI P .any ops (Ol ops) R n listed a w) /\
 (vP ops t false n listed=true->∀i∈t.alts,BR P ops i (λa' w'=>(Ol ops i=true->nU w w')/\anyI P .any ops (Ol ops) R (n - 1) (listed.setIfInBounds i true) a' w') a w)
 | .done,n,listed,s,h,β,w,a,aj,k,next=>by
   refine⟨λhc=>?_,λhc=>by simp[vP]at hc⟩
   simp only[vP,Iw,A8,yR]at hc;obtain⟨rfl,hr⟩:=hc;exact⟨by simpa using hr,next _ _ _ _ _ k (FH.le.refl h) aj (Same.refl _ _)⟩
 | .fl i t,n,listed,s,h,β,w,a,aj,k,next=>by
   refine⟨λhc=>?_,λhc=>by simp[vP]at hc⟩
   simp only[vP,Iw,A8,Nh,ne_eq]at hc;obtain⟨⟨hn0,hb⟩,hc⟩:=hc;obtain⟨n,rfl⟩:∃m,n=m+1:=⟨n - 1,by omega⟩
   unfold Lh at hb;cases hi:ops[i]? with
   | none=>rw[hi]at hb;simp at hb
   | some o=>
     rw[hi]at hb;simp only[A8]at hb;simp only[EK,hi,rD]at k;have lV:o∈ops.toList:=iJ (i:=i) (by simpa using hi)
     obtain⟨⟨⟨hf,hfree⟩,hr⟩,hl⟩:=hb;have k:jl E (tl ops) o s λs=>rD E (tl ops) (EK ops t) s K:=by
      unfold Oo at k;rw[hf]at k;exact k
     obtain⟨v,s',hy,k',aT⟩:=zf ok aj (hg.mono aj.ok.hle) hf k;have hq:Ol ops i=true:=by
      simp only[Ol,hi];cases ho:o.op with
      | call c=>
        rw[ho]at hf;have:c.callee=.builtin .len:=Z9 hf;simp[CX,this]
      | _=>
        have:=wI hf;rw[ho]at this;exact this
     refine Gh (bl:=Z8 ops listed i) hi (Region.noSelect_spec hs) hq n listed a w (Region.free_spec hi hfree) (λe=>?_) (by simpa using hr) hy (λ_=>nU.refl w)
      ((wK ok hg hs t aT k' λs2 h2 β2 w2 a2 k2 iF bG sm=>next s2 h2 β2 w2 a2 k2 iF bG (sm.put_mem lV)).1 hc)
     rw[e]at hl;exact Om (by simpa using hl)
 | .op i t,n,listed,s,h,β,w,a,aj,k,next=>by
   have key:n≠0->(ops[i]?).isSome=true->vP ops t true (n - 1) (listed.setIfInBounds i true)=true->BR P ops i (λa' w'=>(Ol ops i=true->nU w w')/\anyI P .any ops (Ol ops) R (n - 1) (listed.setIfInBounds i true) a' w') a w:=by
    intro hn0 hi hc;obtain⟨o,hi⟩:=A91.1 hi;have lV:o∈ops.toList:=iJ (i:=i) (by simpa using hi)
    simp only[EK,hi,rD]at k;exact(Ot ok aj (hg.mono aj.ok.hle) hi k λs' h' β' w' v k' le CJ aT=>⟨CJ,(wK ok hg hs t aT k' λs2 h2 β2 w2 a2 k2 iF bG sm=>next s2 h2 β2 w2 a2 k2 (le.trans iF) bG (sm.put_mem lV)).1 hc⟩)
   refine⟨λhc=>?_,λhc j hj=>?_⟩
   .simp only[vP,Wj,Wn,A8,Nh,ne_eq,yR]at hc;obtain⟨⟨⟨hr,hn0⟩,hi⟩,hc⟩:=hc;obtain⟨m,rfl⟩:∃m,n=m+1:=⟨n - 1,by omega⟩
    refine⟨λh0=>by rw[hr]at h0;simp at h0,λj hj=>?_⟩
    rw[hr]at hj;simp at hj;subst hj;exact key hn0 hi hc
   .simp only[vP,Ql,Wq,Iw,A8,Nh,ne_eq]at hc;simp only[DT.alts,Ya]at hj;subst hj;exact key hc.1.1 hc.1.2 hc.2
 | .alt i t mm,n,listed,s,h,β,w,a,aj,k,next=>by
   have key:n≠0->(ops[i]?).isSome=true->vP ops t true (n - 1) (listed.setIfInBounds i true)=true->vP ops mm false n listed=true ->
    ∀j∈i :: mm.alts,BR P ops j (λa' w'=>(Ol ops j=true->nU w w')/\anyI P .any ops (Ol ops) R (n - 1) (listed.setIfInBounds j true) a' w') a w:=by
    intro hn0 hi hc hm j hj;obtain⟨o,hi⟩:=A91.1 hi;have lV:o∈ops.toList:=iJ (i:=i) (by simpa using hi)
    simp only[EK,hi,rD]at k;rcases mM.1 hj with rfl | hj
    .exact(Ot ok aj (hg.mono aj.ok.hle) hi k.1 λs' h' β' w' v k' le CJ aT=>⟨CJ,(wK ok hg hs t aT k' λs2 h2 β2 w2 a2 k2 iF bG sm=>next s2 h2 β2 w2 a2 k2 (le.trans iF) bG (sm.put_mem lV)).1 hc⟩)
    .exact(wK ok hg hs mm aj k.2 next).2 hm j hj
   refine⟨λhc=>?_,λhc j hj=>?_⟩
   .simp only[vP,Wj,Wn,A8,Nh,ne_eq,yR]at hc;obtain⟨⟨⟨⟨hr,hn0⟩,hi⟩,hc⟩,hm⟩:=hc;obtain⟨q,rfl⟩:∃m,n=m+1:=⟨n - 1,by omega⟩
    refine⟨λh0=>by rw[hr]at h0;simp at h0,λj hj=>?_⟩
    rw[hr]at hj;exact key hn0 hi hc hm j hj
   .simp only[vP,Ql,Wq,Iw,A8,Nh,ne_eq]at hc;exact key hc.1.1.1 hc.1.1.2 hc.1.2 hc.2 j hj
theorem aad(ok:gY P E) (hg:aK E.cx.gd h0){id:Nat}{ol:OT} (ho:AA ops=some ol) (aj:Sat E.n B h0 s h β w a) (k:rD E (tl ops) ol s K){F:Fence} (hF:Wd F) (hn:EH ops.toList=true)
 (next:∀s' h' β' w' a',K s'->h.le h'->Sat E.n B h0 s' h' β' w' a'->Same (jV (tl ops)) a a'->Q .normal a' w'):(Code.region id ops true).wpIn F n P Q a w:=by
 unfold AA at ho;have et:tl ops=ops.toList:=by cases ops;rfl
 simp only at ho;split at ho
 .rename_i hp;cases ho;simp only[A8,yR]at hp;refine wpIn_region_any ok.mixed (KY (sf:=Ol ops) (R:=λa w=>Q .normal a w) hF hn (λ_ _ hh=>hh) _ _ _ _ ?_)
  exact(wK ok hg hp.1 (R:=λa w=>Q .normal a w) (Ut ops ops.size (Array.replicate ops.size false)) (aj.drawn (w.drawn+1) (BZ _)) k λs' h' β' w' a' k' le aT sm=>next _ _ _ _ _ k' le aT (by rw[et];exact sm)).1 hp.2
 .cases ho
end
abbrev isNil{α:Type}:List α->Bool
 | []=>true
 | _ :: _=>false
abbrev wL(seen:List Nat):List (Nat×Gd×bg)->List (Nat×Gd×bg)
 | []=>[]
 | (k,g,e) :: l=>match jc k seen with
   | true=>wL seen l
   | false=>match isNil g with
     | true=>(k,g,e) :: wL (k :: seen) l
     | false=>wL (k :: seen) l
abbrev mZ:List (Gd×au)->List (Gd×au)
 | []=>[]
 | (g,r) :: l=>match isNil g with
   | true=>([],r) :: mZ l
   | false=>([],.gone) :: mZ l
abbrev clean(s:St):St:={ env:=wL [] s.env,T:=mZ s.T,gl:=[],gs:=[] }
theorem uK:∀{l:List (Nat×Gd×bg)}{seen:List Nat}{t:Nat}{G:Gd}{e:bg},iK (wL seen l) t=some (G,e)->jc t seen=false/\iK l t=some (G,e)/\G=[]
 | [],_,_,_,_,h=>by simp[wL,iK]at h
 | (k,g,e0) :: l,seen,t,G,e,h=>by
   unfold wL at h;split at h
   .rename_i hm;obtain⟨h1,h2,h3⟩:=uK h;refine⟨h1,?_,h3⟩;rw[aY,if_neg]
    .exact h2
    .rintro rfl;rw[hm]at h1;cases h1
   .rename_i hm;have sub:iK (wL (k :: seen) l) t=some (G,e)->jc t seen=false/\iK ((k,g,e0) :: l) t=some (G,e)/\G=[]:=by
     intro h;obtain⟨h1,h2,h3⟩:=uK h;rw[jF,oI]at h1;refine⟨h1.2,?_,h3⟩;rw[aY,if_neg]
     .exact h2
     .rintro rfl;exact Yt h1.1 rfl
    split at h
    .rename_i hn;rw[aY]at h;split at h
     .rename_i hk;subst hk;cases h;refine⟨hm,by rw[aY,if_pos rfl],?_⟩
      cases g with
      | nil=>rfl
      | cons _ _=>cases hn
     .exact sub h
    .exact sub h
theorem GU(gl:List Bool):∀(T:List (Gd×au)) (i:Nat) (r:au),(eff [] (mZ T))[i]?=some r->r.live=true->(eff gl T)[i]?=some r
 | [],i,r,h,_=>by simp[mZ,eff]at h
 | (g,r0) :: l,i,r,h,hl=>by
   have e1:eff [] (mZ ((g,r0) :: l))=(match isNil g with | true=>r0 | false=>au.gone) :: eff [] (mZ l):=by
    simp only[mZ];cases isNil g<;>rfl
   rw[e1]at h;cases i with
   | zero=>
     simp only[VW,Yo]at h;cases g with
     | nil=>simp only[isNil]at h;subst h;rfl
     | cons _ _=>simp only[isNil]at h;subst h;cases hl
   | succ i=>
     simp only[aeM,eff]at h ⊢
     exact GU gl l i r h hl
theorem GV:∀(T:List (Gd×au)),(mZ T).length=T.length
 | []=>rfl
 | (g,r) :: l=>by simp only[mZ];split<;>simp[GV l]
theorem zh:∀{T:List (Gd×au)}{p:Gd×au},p∈mZ T->p.1=[]
 | [],p,h=>by simp[mZ]at h
 | (g,r) :: l,p,h=>by
   simp only[mZ]at h;split at h
   .rcases mM.1 h with rfl | h
    .rfl
    .exact zh h
   .rcases mM.1 h with rfl | h
    .rfl
    .exact zh h
theorem OK.weaken{T T':List au} (ok:OK B h0 T h β w) (hl:T'.length=T.length) (sub:∀(i:Nat) r,T'[i]?=some r->r.live=true->T[i]?=some r):OK B h0 T' h β w where
 below:=ok.below
 dr:=ok.dr
 len:=by rw[hl];exact ok.len
 holds:=by
  intro i r v e e';cases hr:r.live with
  | true=>exact ok.holds i r v (sub i r e hr) e'
  | false=>cases r<;>first | (cases hr;done) | (cases v<;>trivial)
 own:=λi r v b e l e' hb=>ok.own i r v b (sub i r e l) l e' hb
 inj:=λi j r r' u v b e l e' l' f f' hb hb'=>ok.inj i j r r' u v b (sub i r e l) l (sub j r' e' l') l' f f' hb hb'
 hle:=ok.hle
 hw:=ok.hw
 hg:=ok.hg
 kn:=ok.kn
theorem Sat.clean{N:Nat}{B:Base}{h0:FH}{s:St}{h:FH}{β:List RV}{w:World}{a:Act} (aj:Sat N B h0 s h β w a):Sat N B h0 (clean s) h β w a:=by
 refine⟨?_,?_,?_,aj.defers,aj.sz,?_,?_⟩
 .exact aj.ok.weaken (by simp[jm,GV]) λi r e l=>GU s.gl s.T i r e l
 .intro t G e ht;obtain⟨_,h1,rfl⟩:=uK ht;exact aj.env t [] e h1
 .intro d i hi;have hi:YL [] d=some i:=hi;cases hi
 .intro t G e ht;obtain⟨_,h1,rfl⟩:=uK ht;rfl
 .intro p hp;rw[zh hp]
abbrev writes:Code->List Nat
 | .region _ ops _=>jV (tl ops)
 | .seq a b=>eF (writes a) (writes b)
 | .cond _ a b=>eF (writes a) (writes b)
 | .block _ c=>writes c
 | .loop c=>writes c
 | _=>[]
abbrev keyOf:Code->Nat
 | .region id _ _=>id
 | .seq a _=>keyOf a
 | .cond _ a _=>keyOf a
 | .block _ c=>keyOf c
 | .loop c=>keyOf c
 | _=>0
abbrev EL(n:Nat):SC->Bool
 | .own i _=>Nat.ble (i+1) n
 | .row i=>Nat.ble (i+1) n
 | .kE i _ _ _=>Nat.ble (i+1) n
 | .sub i _=>Nat.ble (i+1) n
 | .mO i _ _ _ _=>Nat.ble (i+1) n
 | _=>true
abbrev AB(n:Nat):SV->Bool
 | .c x=>EL n x
 | .agg xs=>allL (EL n) xs
 | _=>true
abbrev lX(n:Nat):au->Bool
 | .blk _ xs=>allL (EL n) xs
 | _=>true
abbrev lD:SC->Bool
 | .v _=>true
 | .sl _ _=>true
 | .one _ _=>true
 | .fp _ _=>true
 | .abs _=>true
 | .junk=>true
 | _=>false
abbrev CY:SV->Bool
 | .c x=>lD x
 | .agg xs=>allL lD xs
 | _=>true
abbrev uM:bg->Bool
 | .one v=>CY v
 | .iR vs=>allL CY vs
abbrev qN(ws seen:List Nat):List (Nat×Gd×bg)->List (Nat×Gd×bg)
 | []=>[]
 | (k,g,e) :: l=>match jc k seen with
   | true=>qN ws seen l
   | false=>match jc k ws with
     | true=>qN ws (k :: seen) l
     | false=>match dD (isNil g) (uM e) with
       | true=>(k,g,e) :: qN ws (k :: seen) l
       | false=>qN ws (k :: seen) l
abbrev keepR(n:Nat) (ws seen:List Nat):List (Nat×Gd×bg)->List (Nat×SV)
 | []=>[]
 | (k,g,e) :: l=>match jc k seen with
   | true=>keepR n ws seen l
   | false=>match jc k ws with
     | true=>keepR n ws (k :: seen) l
     | false=>match isNil g with
       | true=>match e with
         | .one (.c (.own i off))=>match Nat.ble (i+1) n with
           | true=>(k,.c (.own i off)) :: keepR n ws (k :: seen) l
           | false=>keepR n ws (k :: seen) l
         | .one (.c (.row i))=>match Nat.ble (i+1) n with
           | true=>(k,.c (.row i)) :: keepR n ws (k :: seen) l
           | false=>keepR n ws (k :: seen) l
         | _=>keepR n ws (k :: seen) l
       | false=>keepR n ws (k :: seen) l
abbrev GX(s:St):List (Nat×SV)->Bool
 | []=>true
 | (k,.c (.own i off)) :: l=>match iK s.env k with
   | some ([],.one (.c (.own i' off')))=>dD (dD (Nat.beq i i') (Nat.beq off off')) (GX s l)
   | _=>false
 | (k,.c (.row i)) :: l=>match iK s.env k with
   | some ([],.one (.c (.row i')))=>dD (Nat.beq i i') (GX s l)
   | _=>false
 | _=>false
abbrev GY:List (Nat×SV)->List (Nat×Gd×bg)
 | []=>[]
 | (k,v) :: l=>(k,[],.one v) :: GY l
abbrev kK:List (Nat×au)->List (Gd×au)->List (Gd×au)
 | [],T=>T
 | (i,r) :: l,T=>kK l (dB T i ([],r))
abbrev rF(ws:List Nat) (s:St) (sl:List (Nat×SV)) (rs:List (Nat×au)):St:=
 { env:=eF (GY sl) (eF (GY (keepR (aP s.T) ws [] s.env)) (qN ws [] s.env)),T:=kK rs s.T,gl:=[],gs:=[] }
abbrev aae:SV->SV
 | .c x=>match x with
   | .abs (.Wv sh l)=>.c (.sl sh l)
   | x=>.c x
 | v=>v
abbrev I7(s:St):List (Nat×SV)->Prop
 | []=>True
 | (k,v) :: l=>(match iK s.env k with
   | some ([],.one u)=>aae u=v
   | _=>False)/\I7 s l
abbrev yH(n:Nat) (T:List (Gd×au)):Bool:=allL (λp=>dD (isNil p.1) (lX n p.2)) T
abbrev JD(n:Nat) (ws:List Nat) (sl:List (Nat×SV)):Bool:=allL (λp=>dD (AB n p.2) (jc p.1 ws)) sl
abbrev aaf(s:St) (k:Nat) (t:TypeId) (sh:Sh):St:=match iK s.env k with
 | some ([],.one (.c (.v (.slice none 0 0))))=>{ s with T:=snoc s.T ([],.row t sh []),env:=(k,[],.one (.c (.row (aP s.T)))) :: s.env,gs:=rmG s.gs k }
 | some ([],.one (.c (.own i 0)))=>match eX s.T i with
   | some ([],.blk t' [.v (.slice none 0 0)])=>{ s with T:=dB s.T i ([],.blk t' [.sl sh []]) }
   | _=>s
 | _=>s
abbrev Lj(s:St) (k:Nat):St:=match iK s.env k with
 | some ([],.one (.c (.row r)))=>NU s r
 | some ([],.one (.c (.abs (.Wv sh l))))=>{ s with env:=(k,[],.one (.c (.sl sh l))) :: s.env,gs:=rmG s.gs k }
 | _=>s
abbrev sW(s:St):List Nat->St
 | []=>s
 | k :: l=>sW (Lj s k) l
theorem Sat.sW{N:Nat}{B:Base}{h0:FH}{w:World}{a:Act}{β:List RV}:∀(l:List Nat){s:St}{h:FH},Sat N B h0 s h β w a->∃h',h.le h'/\Sat N B h0 (sW s l) h' β w a
 | [],s,h,aj=>⟨h,FH.le.refl h,aj⟩
 | k :: l,s,h,aj=>by
   have h1:∃h',h.le h'/\Sat N B h0 (Lj s k) h' β w a:=by
    unfold Lj;split
    .exact aj.akw _
    .rename_i sh l hk;refine⟨h,FH.le.refl h,aj.ok,?_,?_,aj.defers,aj.sz,?_,aj.gT⟩
     .intro t' G e ht;rw[aY]at ht;split at ht
      .rename_i hkt;subst hkt;cases ht;obtain⟨z,z1,z2,z3⟩:=aj.env k _ _ hk;have c:dA h β (.c (.abs (.Wv sh l))) z:=z2 rfl;exact⟨z,z1,λ_=>⟨c.1.1,c.2⟩,λhh=>by cases hh⟩
      .exact aj.env t' G e ht
     .intro d i hi;obtain⟨hne,hi⟩:=Ce _ _ _ _ hi;obtain⟨G,b,q1,q2⟩:=aj.gs d i hi;exact⟨G,b,by rw[aY,if_neg (Ne.symm hne)];exact q1,q2⟩
     .intro t' G e ht;rw[aY]at ht;split at ht
      .cases ht;rfl
      .exact aj.gb _ _ _ ht
    .exact⟨h,FH.le.refl h,aj⟩
   obtain⟨h1,le1,jA⟩:=h1;obtain⟨h2,iF,bG⟩:=Sat.sW l jA;exact⟨h2,le1.trans iF,bG⟩
abbrev JE(s:St):List (Nat×TypeId×Sh)->St
 | []=>s
 | (k,t,sh) :: l=>JE (aaf s k t sh) l
theorem Sat.aaf{N:Nat}{B:Base}{h0:FH}{s:St}{h:FH}{β:List RV}{w:World}{a:Act} (aj:Sat N B h0 s h β w a) (k:Nat) (t:TypeId) (sh:Sh):∃β',Sat N B h0 (aaf s k t sh) h β' w a:=by
 unfold mQ.aaf;split
 .rename_i hk;obtain⟨z,z1,z2,_⟩:=aj.env k _ _ hk;have ez:z=.slice none 0 0:=(z2 rfl:dA h β (.c (.v (.slice none 0 0))) z).1.1;subst ez;have ok:OK B h0 (eff s.gl (snoc s.T ([],.row t sh []))) h (β++[.row (.slice none 0 0)]) w:=by
   rw[iW];exact aj.ok.add (r:=.row t sh []) (v:=.row (.slice none 0 0)) (cO w none) (λb hb=>by rw[aZ]at hb;simp[aB]at hb) (.inl ⟨rfl,rfl⟩)
  have gT:∀p∈snoc s.T (([]:Gd),au.row t sh []),xq s.gl.length p.1=true:=by
   intro p hp;rw[iT,Et]at hp;rcases hp with hp | hp
   .exact aj.gT p hp
   .simp at hp;subst hp;rfl
  have sm:=aj.mem ok (FH.le.refl h) (Ext.append _ _) gT;refine⟨_,ok,?_,?_,aj.defers,aj.sz,?_,gT⟩
  .intro t' G e ht;rw[aY]at ht;split at ht
   .rename_i hkt;subst hkt;cases ht;refine⟨_,z1,λ_=>⟨?_,rfl,rfl⟩,λhh=>by cases hh⟩
    refine⟨.row (.slice none 0 0),?_,rfl⟩;have:aP s.T=β.length:=by rw[aj.ok.len,jm,bD]
    rw[this];simp
   .exact sm.env t' G e ht
  .intro d i hi;obtain⟨hne,hi⟩:=Ce _ _ _ _ hi;obtain⟨G,b,q1,q2⟩:=aj.gs d i hi;exact⟨G,b,by rw[aY,if_neg (Ne.symm hne)];exact q1,q2⟩
  .intro t' G e ht;rw[aY]at ht;split at ht
   .cases ht;rfl
   .exact aj.gb _ _ _ ht
 .rename_i i hk;split
  .rename_i t' hT;refine⟨β,?_,aj.env,aj.gs,aj.defers,aj.sz,aj.gb,?_⟩
   .show OK B h0 (eff s.gl (dB s.T i ([],.blk t' [.sl sh []]))) h β w;rw[fZ];refine aj.ok.QX (bF hT (show gv s.gl []=true from rfl)) rfl λv hv=>?_
    cases v with
    | blk b=>
      obtain⟨ys,e1,al⟩:=hv;refine⟨ys,e1,?_⟩;cases ys with
      | nil=>exact al.elim
      | cons y ys=>
        cases ys with
        | cons _ _=>exact al.2.elim
        | nil=>
          obtain⟨⟨c,o⟩,_⟩:=al;obtain rfl:y=.slice none 0 0:=c.1;exact⟨⟨.inl ⟨rfl,rfl⟩,o⟩,trivial⟩
    | row _=>exact hv.elim
    | deep _ _=>exact hv.elim
    | no=>exact hv.elim
   .intro p hp;rw[gU]at hp;rcases Ko hp with hp | hp
    .exact aj.gT p hp
    .subst hp;rfl
  .exact⟨β,aj⟩
 .exact⟨β,aj⟩
theorem Sat.JE{N:Nat}{B:Base}{h0 h:FH}{w:World}{a:Act}:∀(l:List (Nat×TypeId×Sh)){s:St}{β:List RV},Sat N B h0 s h β w a->∃β',Sat N B h0 (JE s l) h β' w a
 | [],s,β,aj=>⟨β,aj⟩
 | (k,t,sh) :: l,s,β,aj=>by
   obtain⟨β1,jA⟩:=aj.aaf k t sh;exact Sat.JE l jA
abbrev aoX(body:St->(Exit->St->Prop)->Prop) (ws:List Nat) (la:LA) (s:St) (K:Exit->St->Prop):Prop:=
 (∃x,la.inv x/\I7 s (la.slots x)/\s.T=kK (la.res x) s.T) /\
 ∀x,la.inv x->match dD (yH (aP s.T) (kK (la.res x) s.T)) (JD (aP s.T) ws (la.slots x)) with
   | false=>False
   | true=>body (rF ws s (la.slots x) (la.res x)) λe s'=>match e with
     | .normal=>match GX (vN la.can (oG la.ren s')) (keepR (aP s.T) ws [] s.env) with
       | true=>∃x',la.inv x'/\I7 (vN la.can (oG la.ren s')) (la.slots x')/\rW (aP s.T) (vN la.can (oG la.ren s')).T=kK (la.res x') s.T/\la.meas x' < la.meas x
       | false=>False
     | e=>K e s'
abbrev Ll(body:St->(Exit->St->Prop)->Prop):Nat->St->(Exit->St->Prop)->Prop
 | 0,_,_=>False
 | n+1,s,K=>body s λe s'=>match e with
   | .normal=>Ll body n s' K
   | e=>K e s'
abbrev afx(E:Env) (c:Code) (s:St):Option kH:=match E.ann (keyOf c) with
 | some f=>some (f s)
 | none=>none
abbrev aI(s:St) (t:Nat):Int:=match iK s.env t with
 | some (_,.one (.c (.v (.int _ n))))=>n
 | _=>0
abbrev aag(s:St) (t:Nat):ByteArray:=match iK s.env t with
 | some (_,.one (.c (.v (.string b))))=>b
 | _=>ByteArray.empty
abbrev slotL(sh:Sh) (s:St) (t:Nat):List sh.den:=match iK s.env t with
 | some (_,.one v)=>match QE s sh v with
   | some l=>l
   | none=>[]
 | _=>[]
abbrev br(b:Bool) (X Y:Prop):Prop:=match b with
 | true=>X
 | false=>Y
theorem ah{b:Bool}{X Y:Prop}:br b X Y↔(b=true->X)/\(b=false->Y):=by cases b<;>simp[br]
abbrev Ou:(ps:List Nat)->(ss:List Sh)->bV ss->List (Nat×Gd×bg)
 | p :: ps,s :: ss,d=>(p,[],.one (iL s d.1)) :: Ou ps ss d.2
 | _,_,_=>[]
abbrev yI(n:Nat):List Nat->List Sh->Bool
 | [],[]=>true
 | p :: ps,_ :: ss=>dD (dD (Nat.ble (p+1) n) (!(jc p ps))) (yI n ps ss)
 | _,_=>false
abbrev rdE(ws dr:List Nat) (s:St):List (Nat×Gd×bg):=eF (GY (keepR (aP s.T) ws [] s.env)) (qN dr [] s.env)
abbrev Rl(n:Nat) (body:St->(Exit->St->Prop)->Prop) (ws:List Nat) (ra:RA) (ps:List Nat) (ss:List Sh) (L:List (bV ss)) (s:St) (K:Exit->St->Prop):Prop:=
 match yI n ps ss with
 | false=>False
 | true=>
 (∃x,ra.inv 0 x/\s.T=kK (ra.res x) s.T) /\
 (∀i x d,ra.inv i x->L[i]?=some d->match yH (aP s.T) (kK (ra.res x) s.T) with
  | false=>False
  | true=>body { env:=eF (Ou ps ss d) (rdE ws (eF ra.drop ps) s),T:=kK (ra.res x) s.T,gl:=[],gs:=[] } λe s'=>match GX s' (keepR (aP s.T) ws [] s.env) with
    | false=>False
    | true=>match e with
      | .normal=>∃x',ra.inv (i+1) x'/\rW (aP s.T) s'.T=kK (ra.res x') s.T
      | .ret=>K .ret { env:=rdE ws ra.drop s,T:=s'.T,gl:=s'.gl,gs:=[] }
      | .exit j=>K (.exit j) { env:=rdE ws ra.drop s,T:=s'.T,gl:=s'.gl,gs:=[] }
      | _=>False) /\
 ∀x,ra.inv (aP L) x->match yH (aP s.T) (kK (ra.res x) s.T) with
   | false=>False
   | true=>K .normal { env:=rdE ws ra.drop s,T:=kK (ra.res x) s.T,gl:=[],gs:=[] }
abbrev vG(s:St) (IC wH:List Nat) (nl:List (Nat×TypeId×Sh)) (uJ:List (Nat×Nat×TypeId×Sh)) (dp:List (Nat×TypeId×Sh×Nat)):St:=xK (Jz (JE (CQ (sW s IC) wH) nl) uJ) dp
theorem Sat.vG{N:Nat}{B:Base}{h0 h:FH}{w:World}{a:Act}{s:St}{β:List RV} (aj:Sat N B h0 s h β w a) (IC wH:List Nat) (nl:List (Nat×TypeId×Sh)) (uJ:List (Nat×Nat×TypeId×Sh)) (dp:List (Nat×TypeId×Sh×Nat)):∃h' β',h.le h'/\Sat N B h0 (vG s IC wH nl uJ dp) h' β' w a:=by
 obtain⟨h1,le1,jA⟩:=Sat.sW IC aj;obtain⟨h2,β2,iF,bG⟩:=Sat.CQ (l:=wH) jA;obtain⟨β3,Rn⟩:=Sat.JE nl bG;obtain⟨β4,aah⟩:=Sat.Jz uJ Rn;obtain⟨β5,arn⟩:=Sat.xK dp aah;exact⟨h2,β5,le1.trans iF,arn⟩
abbrev zi:Nat->St->St
 | 0,s=>s
 | n+1,s=>zi n { s with T:=snoc s.T ([],.gone) }
theorem Sat.zi{N:Nat}{B:Base}{h0 h:FH}{w:World}{a:Act}:∀(n:Nat){s:St}{β:List RV},Sat N B h0 s h β w a->∃β',Sat N B h0 (zi n s) h β' w a
 | 0,s,β,aj=>⟨β,aj⟩
 | n+1,s,β,aj=>by
   refine Sat.zi n (β:=β++[.no]) (s:={ s with T:=snoc s.T ([],.gone) }) ?_
   refine aj.mem ?_ (FH.le.refl h) (Ext.append _ _) λp hp=>?_
   .rw[iW];exact aj.ok.add (r:=.gone) (v:=.no) (cO w none) (λb hb=>(Qp hb).elim) trivial
   .rw[iT,Et]at hp;rcases hp with hp | hp
    .exact aj.gT p hp
    .simp at hp;subst hp;rfl
abbrev aro(E:Env) (c:Code) (s:St):Option LA:=match afx E c s with
 | some (.cut la)=>some la
 | _=>none
abbrev aoY(ws:List Nat) (la:LA) (s s':St):Prop:=match GX (vN la.can (oG la.ren (vG s' la.IC la.wH la.nil la.uJ la.deep))) (keepR (aP s.T) ws [] s.env) with
 | true=>∃v,la.inv v/\I7 (vN la.can (oG la.ren (vG s' la.IC la.wH la.nil la.uJ la.deep))) (la.slots v)/\rW (aP s.T) (vN la.can (oG la.ren (vG s' la.IC la.wH la.nil la.uJ la.deep))).T=kK (la.res v) s.T
 | false=>False
abbrev jB:Env->Code->St->(Exit->St->Prop)->Prop
 | E,.skip,s,K=>K .normal s
 | E,.region _ ops draw,s,K=>match EH (tl ops) with
   | false=>False
   | true=>match draw with
     | false=>aft E (tl ops) (tl ops) s λs=>K .normal (clean s)
     | true=>match CV E.cx (tl ops) with
       | true=>match afv ops with
         | true=>Xr E (tl ops) (tl ops) s λs=>K .normal (clean s)
         | false=>False
       | false=>match orB E.cx.rt (Oq E (tl ops)) with
         | true=>match AA ops with
           | some l=>rD E (tl ops) l s λs=>K .normal (clean s)
           | none=>False
         | false=>match xM ops with
           | some l=>sV E (tl ops) l s λs=>K .normal (clean s)
           | none=>False
 | E,.seq x y,s,K=>match aro E y s with
   | some la=>(jB E x (zi la.pad s) λe s'=>match e with
    | .normal=>aoY (eF la.drop (writes x)) la (zi la.pad s) s'
    | e=>K e s')/\∀v,la.inv v->match dD (yH (aP (zi la.pad s).T) (kK (la.res v) (zi la.pad s).T)) (JD (aP (zi la.pad s).T) (eF la.drop (writes x)) (la.slots v)) with
      | false=>False
      | true=>jB E y (rF (eF la.drop (writes x)) (zi la.pad s) (la.slots v) (la.res v)) K
   | none=>jB E x s λe s'=>match e with
     | .normal=>jB E y s' K
     | e=>K e s'
 | E,.cond c x y,s,K=>match bM E.cx s [] c with
   | some (.one (.c (.v (.bool b))))=>br b (jB E x s K) (jB E y s K)
   | _=>False
 | E,.block id c,s,K=>jB E c s λe s'=>match e with
   | .exit i=>match Nat.beq i id with
     | true=>K .normal s'
     | false=>K (.exit i) s'
   | e=>K e s'
 | E,.loop c,s,K=>match afx E c s with
   | some (.inv la)=>aoX (jB E c) (eF la.drop (writes c)) la (zi la.pad (vG s la.IC la.wH la.nil la.uJ la.deep)) K
   | some (.Gz n)=>Ll (jB E c) n s K
   | _=>False
 | E,.rangeFunc g ps IE c,s,K=>match E.rd with
   | true=>False
   | false=>match bM E.cx s [] g with
     | some (.one (.c (.abs (.seq P' ss L))))=>match afx E c s with
       | some (.rng ra)=>E.P=some P'/\Rl E.n (λs K=>jB { E with rd:=true } IE s λe s'=>match e with
         | .normal=>jB { E with rd:=true } c s' K
         | _=>False) (eF ra.drop (eF (tl ps) (eF (writes IE) (writes c)))) ra (tl ps) ss L (vG s ra.IC ra.wH ra.nil ra.uJ ra.deep) K
       | _=>False
     | _=>False
 | E,.exit i,s,K=>K (.exit i) s
 | E,.ret,s,K=>K .ret s
 | _,_,_,_=>False
abbrev zk(D:Nat):Deferred:={ target:=.collected D,args:=#[] }
theorem afz(w:World) (a b:Obj) (G:Nat->Prop):Gs G w ((w.alloc a).alloc b):=
 ⟨rfl,rfl,rfl,by simp;omega,qy _,λk hk _=>by
  rw[Below.heap_alloc _ _ _ (by simp;omega),Below.heap_alloc _ _ _ hk]⟩
def akP(A:World) (l D:Nat) (G:Nat->Prop) (I:World->Prop) (Ix:Code->World->Prop):Exit->Act->World->Prop
 | .normal,_,A'=>(∀b,b=l\/b=D\/G b->A'.heap[b]?=A.heap[b]?)/\I A'
 | .ret,_,A'=>(∀b,b=l\/b=D\/G b->A'.heap[b]?=A.heap[b]?)/\Ix .ret A'
 | .exit id,_,A'=>(∀b,b=l\/b=D\/G b->A'.heap[b]?=A.heap[b]?)/\Ix (.exit id) A'
 | .goto t,_,_=>False
 | .panic _,_,_=>False
 | .outgrown,_,_=>False
theorem Xt{ss:List Sh}{L:List (bV ss)}{g:Operand}{ps:Array Tmp}{IE:Code}
 (gv:Gives P h ss L (a.eval g)) (hps:ps.size=ss.length)
 (I:Nat->(Nat->Prop)->World->Prop) (Ix:Code->(Nat->Prop)->World->Prop) (hI:∀i G A,I i G A->HW h A) (hX:∀c G A,Ix c G A->HW h A)
 (hIg:∀i G G' A A',I i G A->Gs G A A'->Own' G G' A A'->I i G' A') (hXg:∀c G G' A A',Ix c G A->Gs G A A'->Own' G G' A A'->Ix c G' A')
 (hIp:∀i G A l o o',I i G A->w.heap.size<=l->A.heap[l]?=some o->ours o=false->I i G (A.putObj l o'))
 (hXp:∀c G A l o o',Ix c G A->w.heap.size<=l->A.heap[l]?=some o->ours o=false->Ix c G (A.putObj l o'))
 (h0:I 0 (λ_=>False) w)
 (hbody:∀(i:Nat) (d:bV ss) (vs:List Value) (G:Nat->Prop) (A:World) (l:Nat) (o1 Xu o2:Obj),L[i]?=some d->DK h ss d vs->I i G A->w.heap.size < l->A.heap[l]?=some o1->ours o1=false->ours Xu=false->A.heap[w.heap.size]?=some o2->ours o2=false->¬G l ->
  IE.wpIn (Fence.wide.inRound l) 0 P (Exit.then (λa1 A1=>(∀b,b=l\/b=w.heap.size\/G b->A1.heap[b]?=A.heap[b]?) /\
   body.wpIn (Fence.wide.inRound l) 0 P (akP (A1.putObj l Xu) l w.heap.size G (I (i+1) G) (λc=>Ix c G)) a1 (A1.putObj l Xu)) (λ_ _ _=>False)) { tmps:=(ps.zip vs.toArray).foldl (λt (p,v)=>t.setIfInBounds p v) a.tmps,defers:=[] } A)
 (hdone:∀G A,I L.length G A->A.heap[w.heap.size]?=some (.deferred (some []))->Q .normal { a with defers:=zk w.heap.size :: a.defers } A)
 (hret:∀G A,Ix .ret G A->A.heap[w.heap.size]?=some (.deferred (some []))->Q .ret { a with defers:=zk w.heap.size :: a.defers } A)
 (aoZ:∀j G A,Ix (.exit j) G A->A.heap[w.heap.size]?=some (.deferred (some []))->Q (.exit j) { a with defers:=zk w.heap.size :: a.defers } A):
 (Code.rangeFunc g ps IE body).wpIn Fence.wide n P Q a w:=by
 refine wpIn_rangeFunc λfn hfn=>?_
 obtain⟨gf,lb,hg,⟨fng,hfg,hbg,hng⟩,gives⟩:=gv;obtain⟨rec,hrec⟩:∃rec:LoopState->Option Code->Loop,rec=λst pe=>{ state:=st,pending:=pe,fn,tmps:=a.tmps,params:=ps,assign:=IE,body,defers:=w.heap.size }:=⟨_,rfl⟩
 obtain⟨W1,hW1⟩:∃W1,(w.alloc (.deferred (some []))).alloc (.loop (rec .ready none))=W1:=⟨_,rfl⟩;have hL1:W1.heap[w.heap.size+1]?=some (.loop (rec .ready none)):=by
  rw[<-hW1];have:=World.alloc_heap_new (w.alloc (.deferred (some []))) (.loop (rec .ready none));rwa [World.size_alloc]at this
 have hD1:W1.heap[w.heap.size]?=some (.deferred (some [])):=by
  rw[<-hW1];exact(Below.heap_alloc _ _ _ (by simp)).trans (World.alloc_heap_new w _)
 have hI1:I 0 (λ_=>False) W1:=hIg 0 _ _ _ _ h0 (by rw[<-hW1];exact afz w _ _ _) (λb hb=>hb.elim)
 have kd:∀{G G':Nat->Prop}{A A':World}{k:Nat}{o:Obj},A.heap[k]?=some o->¬G k->Gs G A A'->Own' G G' A A'->A'.heap[k]?=some o/\¬G' k:=λhk hn hgs ho=>
  ⟨(hgs.block _ (Fj.1 hk).1 hn).trans hk,λhh=>by
    have h1:=(Fj.1 hk).1;rcases(ho _ hh).2 with h2 | h2
    .exact hn h2
    .omega⟩
 refine⟨w.heap.size+1,[zk w.heap.size],W1,{ target:=.fn (.func gf) lb,args:=#[.func (.yield (w.heap.size+1)) #[] #[]] },W1,gf,
  #[.func (.yield (w.heap.size+1)) #[] #[]]++lb,W1,?_,?_,?_,?_,λhh=>(by cases hh),?_⟩
 .rw[<-hW1,hrec];exact run_enterLoop_outer _ _ _ _ _
 .simp only[resolve,hg];simp[go_sem]
 .intro f' hf';trivial
 .have e:(callFunc gf (#[.func (.yield (w.heap.size+1)) #[] #[]]++lb)).run P W1=.ok (.enter gf (#[.func (.yield (w.heap.size+1)) #[] #[]]++lb)) W1:=by
   simp only[callFunc,Sem.run_bind,run_program,Result.andThen_ok,hfg,hng];simp[hbg];cases hb:fng.body with
   | none=>rw[hb]at hbg;cases hbg
   | some _=>simp
  simp[invoke,go_sem,e]
 .have hc:=gives (w.heap.size+1)
   (λi G A=>match i with
    | some i=>I i G A/\(A.heap[w.heap.size+1]?=some (.loop (rec .ready none))/\¬G (w.heap.size+1))/\(A.heap[w.heap.size]?=some (.deferred (some []))/\¬G w.heap.size)
    | none=>∃c,(c=.ret\/∃j,c=.exit j)/\Ix c G A/\(A.heap[w.heap.size+1]?=some (.loop (rec .done (some c)))/\¬G (w.heap.size+1))/\(A.heap[w.heap.size]?=some (.deferred (some []))/\¬G w.heap.size)) W1
   (λi G A x=>by
    cases i with
    | some i=>exact hI i G A x.1
    | none=>obtain⟨c,_,x1,_⟩:=x;exact hX c G A x1)
   (λi G G' A A' x hgs ho=>by
    cases i with
    | some i=>exact⟨hIg i _ _ _ _ x.1 hgs ho,kd x.2.1.1 x.2.1.2 hgs ho,kd x.2.2.1 x.2.2.2 hgs ho⟩
    | none=>
      obtain⟨c,hc,x1,x2,x3⟩:=x;exact⟨c,hc,hXg c _ _ _ _ x1 hgs ho,kd x2.1 x2.2 hgs ho,kd x3.1 x3.2 hgs ho⟩)
   (λi d vs G A hd hv x=>by
    obtain⟨x1,⟨x2,y2n⟩,x3,y3n⟩:=x;have iq:w.heap.size+1 < A.heap.size:=(Fj.1 x2).1;have hvl:vs.length=ss.length:=by
     have:∀{ss:List Sh}{d:bV ss}{vs:List Value},DK h ss d vs->vs.length=ss.length:=by
      intro ss
      induction ss with
      | nil=>intro d vs x;cases vs with | nil=>rfl | cons _ _=>exact x.elim
      | cons s l ih=>intro d vs x;cases vs with | nil=>exact x.elim | cons v vs=>simp[ih x.2]
     exact this hv
    have hy:=run_yield (P:=P) (args:=vs.toArray) x2 (by rw[hrec];simp[hps,hvl])
    rw[hrec]at hy;refine⟨fn,_,IE,body,hy,(roundIn_of_wpIn (F:=Fence.wide) (n:=0) trivial ?_:RoundIn Fence.wide _ P _ _ _ _ _ _ _)⟩;refine wpIn_mono (hbody i d vs G A (w.heap.size+1) _ (.loop { rec .ready none with state:=.busy }) _ hd hv x1 (by omega) x2 rfl rfl x3 rfl y2n) ?_
    intro e0 a1 A1 h1;cases e0 with
    | exit j=>exact h1
    | goto j=>exact h1
    | ret=>exact h1
    | panic c=>exact h1
    | outgrown=>exact h1
    | normal=>
    obtain⟨k1,h1⟩:=h1;have z2:A1.heap[w.heap.size+1]?=some (.loop (rec .ready none)):=(k1 _ (.inl rfl)).trans x2;have z3:A1.heap[w.heap.size]?=some (.deferred (some [])):=(k1 _ (.inr (.inl rfl))).trans x3;have hlt1:w.heap.size+1 < A1.heap.size:=(Fj.1 z2).1;refine⟨_,run_beginRound z2 (by rw[hrec]),?_⟩
    have y2:(A1.putObj (w.heap.size+1) (.loop { rec .ready none with state:=.busy })).heap[w.heap.size+1]?=some (.loop { rec .ready none with state:=.busy }):=World.putObj_heap_same hlt1
    have y3:(A1.putObj (w.heap.size+1) (.loop { rec .ready none with state:=.busy })).heap[w.heap.size]?=some (.deferred (some [])):=(World.putObj_heap_other (by omega)).trans z3
    have fin:∀(jump:Option Code) (A3:World),A3.heap[w.heap.size+1]?=some (.loop { rec .ready none with state:=.busy })->A3.heap[w.heap.size]?=some (.deferred (some [])) ->
     (Instr.endRound (w.heap.size+1) jump).run P A3=.ok (.bool jump.isNone) (A3.putObj (w.heap.size+1) (.loop (rec (if jump.isNone then .ready else .done) jump))) /\
     (A3.putObj (w.heap.size+1) (.loop (rec (if jump.isNone then .ready else .done) jump))).heap[w.heap.size+1]?=some (.loop (rec (if jump.isNone then .ready else .done) jump)) /\
     (A3.putObj (w.heap.size+1) (.loop (rec (if jump.isNone then .ready else .done) jump))).heap[w.heap.size]?=some (.deferred (some [])):=λjump A3 h3 h4=>by
     have:=run_endRound (P:=P) jump h3;rw[hrec]at this ⊢;exact⟨this,World.putObj_heap_same (Fj.1 h3).1,(World.putObj_heap_other (by omega)).trans h4⟩
    have kg:∀(A3:World) (o':Obj),(∀b,b=w.heap.size+1\/b=w.heap.size\/G b->A3.heap[b]?=(A1.putObj (w.heap.size+1) (.loop { rec .ready none with state:=.busy })).heap[b]?)->∀b,G b->(A3.putObj (w.heap.size+1) o').heap[b]?=A.heap[b]?:=by
     intro A3 o' hk b hb;have hne:b≠w.heap.size+1:=by rintro rfl;exact y2n hb
     rw[World.putObj_heap_other hne,hk b (.inr (.inr hb)),World.putObj_heap_other hne,k1 b (.inr (.inr hb))]
    refine wpIn_mono h1 ?_;rintro e a3 A3 hp;cases e with
    | normal=>
      obtain⟨p0,p3⟩:=hp;have p1:=p0 _ (.inl rfl);have p2:=p0 _ (.inr (.inl rfl));rw[y2]at p1;rw[y3]at p2;obtain⟨q1,q2,q3⟩:=fin none A3 p1 p2;exact⟨_,_,q1,kg A3 _ p0,.inl ⟨rfl,hIp _ _ _ _ _ _ p3 (by omega) p1 rfl,⟨q2,y2n⟩,q3,y3n⟩⟩
    | ret=>
      obtain⟨p0,p3⟩:=hp;have p1:=p0 _ (.inl rfl);have p2:=p0 _ (.inr (.inl rfl));rw[y2]at p1;rw[y3]at p2;obtain⟨q1,q2,q3⟩:=fin (some .ret) A3 p1 p2;exact⟨_,_,q1,kg A3 _ p0,.inr ⟨rfl,.ret,.inl rfl,hXp _ _ _ _ _ _ p3 (by omega) p1 rfl,⟨q2,y2n⟩,q3,y3n⟩⟩
    | exit id=>
      obtain⟨p0,p3⟩:=hp;have p1:=p0 _ (.inl rfl);have p2:=p0 _ (.inr (.inl rfl));rw[y2]at p1;rw[y3]at p2;obtain⟨q1,q2,q3⟩:=fin (some (.exit id)) A3 p1 p2;exact⟨_,_,q1,kg A3 _ p0,.inr ⟨rfl,.exit id,.inr ⟨id,rfl⟩,hXp _ _ _ _ _ _ p3 (by omega) p1 rfl,⟨q2,y2n⟩,q3,y3n⟩⟩
    | goto t=>exact hp.elim
    | panic ch=>exact hp.elim
    | outgrown=>exact hp.elim)
   ⟨hI1,⟨hL1,λhh=>hh⟩,hD1,λhh=>hh⟩
  refine CallsIn.mono (F:=Fence.wide) (n:=n - 1) (callsIn_wide.2 (callsIn_wide.1 hc)) ?_;rintro e W2 ⟨⟨v,rfl⟩,G,hJ⟩;rcases hJ with⟨x1,⟨x2,_⟩,x3,_⟩ | ⟨c,hc,x1,⟨x2,_⟩,x3,_⟩
  .refine⟨none,_,by have:=run_endLoop (P:=P) x2 (by rw[hrec];simp);rw[hrec]at this;exact this,?_⟩
   exact hdone G _ (hIp _ _ _ _ _ _ x1 (by omega) x2 rfl) ((World.putObj_heap_other (by omega)).trans x3)
  .refine⟨some c,_,by have:=run_endLoop (P:=P) x2 (by rw[hrec];simp);rw[hrec]at this;exact this,?_⟩
   have y1:=hXp _ _ _ _ _ (.loop { rec .done (some c) with state:=.exhausted }) x1 (show w.heap.size<=w.heap.size+1 by omega) x2 rfl
   have y3:(W2.putObj (w.heap.size+1) (.loop { rec .done (some c) with state:=.exhausted })).heap[w.heap.size]?=some (.deferred (some [])):=(World.putObj_heap_other (by omega)).trans x3
   rw[hrec]at y1 y3;rcases hc with rfl | ⟨j,rfl⟩
   .exact wpIn_ret (hret G _ y1 y3)
   .exact wpIn_exit (aoZ _ G _ y1 y3)
theorem qO:∀{l m:List (Nat×Gd×bg)}{t:Nat},iK (eF l m) t=match iK l t with | some x=>some x | none=>iK m t
 | [],m,t=>rfl
 | (k,x) :: l,m,t=>by
   rw[show eF ((k,x) :: l) m=(k,x) :: eF l m from rfl,aY,aY]
   split
   .rfl
   .exact qO
theorem oZ:∀{l:List (Nat×SV)}{t:Nat}{G:Gd}{e:bg},iK (GY l) t=some (G,e)->∃v,e=.one v/\G=[]/\(t,v)∈l
 | [],_,_,_,h=>by simp[GY,iK]at h
 | (k,v) :: l,t,G,e,h=>by
   simp only[GY]at h;rw[aY]at h;split at h
   .rename_i hk;subst hk;cases h;exact⟨v,rfl,rfl,by simp⟩
   .obtain⟨u,h1,h2,h3⟩:=oZ h;exact⟨u,h1,h2,by simp[h3]⟩
theorem lF{ws:List Nat}:∀{l:List (Nat×Gd×bg)}{seen:List Nat}{t:Nat}{G:Gd}{e:bg},iK (qN ws seen l) t=some (G,e) ->
 jc t seen=false/\jc t ws=false/\iK l t=some (G,e)/\G=[]/\uM e=true
 | [],_,_,_,_,h=>by simp[qN,iK]at h
 | (k,g,e0) :: l,seen,t,G,e,h=>by
   have skip:iK (qN ws (k :: seen) l) t=some (G,e)->jc t seen=false/\jc t ws=false/\iK ((k,g,e0) :: l) t=some (G,e)/\G=[]/\uM e=true:=by
    intro h;obtain⟨h1,h2,h3,h4⟩:=lF h;rw[jF,oI]at h1;refine⟨h1.2,h2,?_,h4⟩;rw[aY,if_neg]
    .exact h3
    .rintro rfl;exact Yt h1.1 rfl
   unfold qN at h;split at h
   .rename_i hm;obtain⟨h1,h2,h3,h4⟩:=lF h;refine⟨h1,h2,?_,h4⟩;rw[aY,if_neg]
    .exact h3
    .rintro rfl;rw[hm]at h1;cases h1
   .rename_i hm;split at h
    .exact skip h
    .rename_i hw;split at h
     .rename_i hc;rw[aC,A8]at hc;rw[aY]at h;split at h
      .rename_i hk;subst hk;cases h;refine⟨hm,hw,by rw[aY,if_pos rfl],?_,hc.2⟩
       cases g with
       | nil=>rfl
       | cons _ _=>have:=hc.1;cases this
      .exact skip h
     .exact skip h
theorem Ov{s:St}:∀{l:List (Nat×SV)},I7 s l->∀p∈l,∃u,iK s.env p.1=some ([],.one u)/\aae u=p.2
 | [],_,p,hp=>by simp at hp
 | (k,v) :: l,⟨h1,h2⟩,p,hp=>by
   rcases mM.1 hp with rfl | hp
   .split at h1
    .rename_i u hu;exact⟨u,hu,h1⟩
    .cases h1
   .exact Ov h2 p hp
theorem afA{u v:SV}{z:Value} (e:aae u=v) (hv:dA h β' v z\/dA h β u z) (hb:u=v->dA h β u z->dA h β' v z):dA h β' v z:=by
 rcases hv with hv | hu
 .exact hv
 .unfold aae at e;split at e
  .split at e
   .subst e;exact⟨hu.1.1,hu.2⟩
   .exact hb e hu
  .exact hb e hu
theorem sZ{s:St}:∀{l:List (Nat×SV)},GX s l=true->∀p∈l,iK s.env p.1=some ([],.one p.2)
 | [],_,p,hp=>by simp at hp
 | (k,.c (.own i off)) :: l,h,p,hp=>by
   simp only[GX]at h;split at h
   .rename_i i' off' hu;rw[aC,aC,A8,A8]at h;rcases mM.1 hp with rfl | hp
    .have e1:=iE h.1.1;have e2:=iE h.1.2;rw[hu,e1,e2]
    .exact sZ h.2 p hp
   .cases h
 | (k,.c (.row i)) :: l,h,p,hp=>by
   simp only[GX]at h;split at h
   .rename_i i' hu;rw[aC,A8]at h;rcases mM.1 hp with rfl | hp
    .have e1:=iE h.1;rw[hu,e1]
    .exact sZ h.2 p hp
   .cases h
 | (k,.c (.v _)) :: l,h,p,hp=>by cases h
 | (k,.c (.sl _ _)) :: l,h,p,hp=>by cases h
 | (k,.c (.fp _ _)) :: l,h,p,hp=>by cases h
 | (k,.c (.kE _ _ _ _)) :: l,h,p,hp=>by cases h
 | (k,.c (.abs _)) :: l,h,p,hp=>by cases h
 | (k,.c .junk) :: l,h,p,hp=>by cases h
 | (k,.agg _) :: l,h,p,hp=>by cases h
 | (k,.dat _ _) :: l,h,p,hp=>by cases h
 | (k,.und) :: l,h,p,hp=>by cases h
theorem qP{n:Nat}{ws:List Nat}:∀{l:List (Nat×Gd×bg)}{seen:List Nat},∀p∈keepR n ws seen l,AB n p.2=true
 | [],_,p,hp=>by simp[keepR]at hp
 | (k,g,e) :: l,seen,p,hp=>by
   unfold keepR at hp
   repeat' (split at hp)
   all_goals first
    | exact qP p hp
    | (
     rcases mM.1 hp with rfl | hp
     .assumption
     .exact qP p hp)
theorem tu{n:Nat}{ws:List Nat}:∀{l:List (Nat×Gd×bg)}{seen:List Nat},∀p∈keepR n ws seen l,jc p.1 seen=false/\iK l p.1=some ([],.one p.2)
 | [],_,p,hp=>by simp[keepR]at hp
 | (k,g,e) :: l,seen,p,hp=>by
   have ao1:jc k seen=true->p∈keepR n ws seen l->jc p.1 seen=false/\iK ((k,g,e) :: l) p.1=some ([],.one p.2):=by
    intro hm hp;obtain⟨h1,h2⟩:=tu p hp;refine⟨h1,?_⟩;rw[aY,if_neg]
    .exact h2
    .rintro rfl;rw[hm]at h1;cases h1
   have GZ:p∈keepR n ws (k :: seen) l->jc p.1 seen=false/\iK ((k,g,e) :: l) p.1=some ([],.one p.2):=by
    intro hp;obtain⟨h1,h2⟩:=tu p hp;rw[jF,oI]at h1;refine⟨h1.2,?_⟩;rw[aY,if_neg]
    .exact h2
    .rintro rfl;exact Yt h1.1 rfl
   unfold keepR at hp;split at hp
   .rename_i hm;exact ao1 hm hp
   .rename_i hm;split at hp
    .exact GZ hp
    .split at hp
     .rename_i hn;have hg:g=[]:=by cases g with | nil=>rfl | cons _ _=>simp[isNil]at hn
      subst hg;split at hp
      .split at hp
       .rcases mM.1 hp with rfl | hp
        .exact⟨hm,by rw[aY,if_pos rfl]⟩
        .exact GZ hp
       .exact GZ hp
      .split at hp
       .rcases mM.1 hp with rfl | hp
        .exact⟨hm,by rw[aY,if_pos rfl]⟩
        .exact GZ hp
       .exact GZ hp
      .exact GZ hp
     .exact GZ hp
theorem kU{α:Type}{l:List α} (h:i < n):(l.take n)[i]?=l[i]?:=by
 rw[wZ,if_pos h]
theorem dW.below:∀{x:SC}{y:Value},EL n x=true->dW h β x y->dW h (β.take n) x y
 | .v _,_,_,c=>c
 | .sl _ _,_,_,c=>c
 | .fp _ _,_,_,c=>c
 | .one _ _,_,_,c=>c
 | .own i _,_,f,⟨b,e,e'⟩=>⟨b,by rw[kU (by have:=qX f;omega)];exact e,e'⟩
 | .row i,_,f,⟨v,e,e'⟩=>⟨v,by rw[kU (by have:=qX f;omega)];exact e,e'⟩
 | .sub i _,_,f,⟨v,us,e,e'⟩=>⟨v,us,by rw[kU (by have:=qX f;omega)];exact e,e'⟩
 | .mO i _ _ _ _,_,f,⟨v,us,g,e,e'⟩=>⟨v,us,g,by rw[kU (by have:=qX f;omega)];exact e,e'⟩
 | .kE i _ _ _,_,f,⟨v,g,e,e'⟩=>⟨v,g,by rw[kU (by have:=qX f;omega)];exact e,e'⟩
 | .abs _,_,_,c=>c
 | .junk,_,_,_=>trivial
theorem dA.below{h:FH}{β:List RV}{n:Nat}:∀{x:SV}{y:Value},AB n x=true->dA h β x y->dA h (β.take n) x y
 | .c _,_,f,c=>⟨c.1.below f,c.2⟩
 | .agg _,_,f,⟨ys,e,a⟩=>⟨ys,e,a.allL (λ_ _ f ⟨p,q⟩=>⟨p.below f,q⟩) f⟩
 | .dat _ _,_,_,c=>c
 | .und,_,_,c=>c
theorem Holds.below{h:FH}{β:List RV}{w:World}{n:Nat}:∀{r:au}{v:RV},lX n r=true->Holds h β w r v->Holds h (β.take n) w r v
 | .blk _ _,.blk _,f,⟨ys,e,a⟩=>⟨ys,e,a.allL (λ_ _ f ⟨p,q⟩=>⟨p.below f,q⟩) f⟩
 | .row _ _ _,.row _,_,c=>c
 | .obj _ _ _,.blk _,_,c=>c
 | .deep _ _ _ _ _ _ _ _,.deep _ _,_,c=>c
 | .mp _ _ _,.row _,_,c=>c
 | .P5 _ _ _ _,.deep _ _,_,c=>c
 | .it _ _ _ _,.blk _,_,c=>c
 | .Nl _ _ _ _,.row _,_,c=>c
 | .Jl _ _ _ _,.deep _ _,_,c=>c
 | .gone,_,_,_=>trivial
theorem dW.lY:∀{x:SC}{y:Value},lD x=true->dW h β x y->∀β',dW h β' x y
 | .v _,_,_,c=>λ_=>c
 | .sl _ _,_,_,c=>λ_=>c
 | .fp _ _,_,_,c=>λ_=>c
 | .abs _,_,_,c=>λ_=>c
 | .junk,_,_,_=>λ_=>trivial
 | .one _ _,_,_,c=>λ_=>c
 | .own _ _,_,f,_=>by simp[lD]at f
 | .row _,_,f,_=>by simp[lD]at f
 | .kE _ _ _ _,_,f,_=>by simp[lD]at f
 | .sub _ _,_,f,_=>by simp[lD]at f
 | .mO _ _ _ _ _,_,f,_=>by simp[lD]at f
theorem dA.lY{h:FH}{β:List RV} (β':List RV):∀{x:SV}{y:Value},CY x=true->dA h β x y->dA h β' x y
 | .c _,_,f,c=>⟨c.1.lY f β',c.2⟩
 | .agg _,_,f,⟨ys,e,a⟩=>⟨ys,e,a.allL (λ_ _ f ⟨p,q⟩=>⟨p.lY f β',q⟩) f⟩
 | .dat _ _,_,_,c=>c
 | .und,_,_,c=>c
theorem kC.lY{h:FH}{β:List RV} (β':List RV):∀{x:bg}{y:Value},uM x=true->kC h β x y->kC h β' x y
 | .one _,_,f,c=>dA.lY β' f c
 | .iR _,_,f,⟨ys,e,a⟩=>⟨ys,e,a.allL (R':=dA h β') (λ_ _ f c=>dA.lY β' f c) f⟩
theorem OK.take{B:Base}{h0:FH}{T:List au}{h:FH}{β:List RV}{w:World} (ok:OK B h0 T h β w){n:Nat} (hn:n<=T.length) (below:∀r∈T.take n,lX n r=true):OK B h0 (T.take n) h (β.take n) w where
 below:=ok.below
 dr:=ok.dr
 len:=by simp[ok.len]
 holds:=by
  intro i r v e e';have hi:i < n:=by have:=(eU.1 e).1;simp at this;omega
  have hm:=below r (iJ e);rw[kU hi]at e e';exact(ok.holds i r v e e').below hm
 own:=by
  intro i r v b e l e' hb;have hi:i < n:=by have:=(eU.1 e).1;simp at this;omega
  rw[kU hi]at e e';exact ok.own i r v b e l e' hb
 inj:=by
  intro i j r r' u v b e l e' l' f f' hb hb';have hi:i < n:=by have:=(eU.1 e).1;simp at this;omega
  have hj:j < n:=by have:=(eU.1 e').1;simp at this;omega
  rw[kU hi]at e f;rw[kU hj]at e' f';exact ok.inj i j r r' u v b e l e' l' f f' hb hb'
 hle:=ok.hle
 hw:=ok.hw
 hg:=ok.hg
 kn:=ok.kn
theorem AL{α:Type}{p:α->Bool}:∀{l:List α},allL p l=true->∀x∈l,p x=true
 | [],_,x,hx=>by simp at hx
 | y :: l,h,x,hx=>by
   simp only[allL,aC,A8]at h;rcases mM.1 hx with rfl | hx
   .exact h.1
   .exact AL h.2 x hx
theorem oO{gl:List Bool}:∀{T:List (Gd×au)}{n:Nat},(∀p∈T.take n,p.1=[])->eff [] (T.take n)=(eff gl T).take n
 | [],n,_=>by simp[eff]
 | (g,r) :: l,0,_=>by simp[eff]
 | (g,r) :: l,n+1,h=>by
   have hg:g=[]:=h (g,r) (by simp)
   subst hg;simp only[aj1,eff];rw[oO (gl:=gl) (T:=l) λp hp=>h p (by simp[hp])]
theorem AO:∀(rs:List (Nat×au)) (T:List (Gd×au)),(kK rs T).length=T.length
 | [],_=>rfl
 | (i,r) :: l,T=>by simp only[kK];rw[AO,gU,yg]
theorem AP{s':St} (aj:Sat N B h0 s' h β w a){ws:List Nat}{sl:List (Nat×SV)}{rs:List (Nat×au)}
 (hT:rW (aP s.T) s'.T=kK rs s.T) (gT:yH (aP s.T) (kK rs s.T)=true) (gS:JD (aP s.T) ws sl=true) (hE:I7 s' sl)
 (hR:∀p∈keepR (aP s.T) ws [] s.env,iK s'.env p.1=some ([],.one p.2))
 (D:∀t e,iK (qN ws [] s.env) t=some ([],e)->∃z,a.tmps[t]?=some z/\kC h [] e z):
 Sat N B h0 (rF ws s sl rs) h (β.take (aP s.T)) w a:=by
 have e1:=hT;rw[jS]at e1;have g1:∀p∈kK rs s.T,p.1=[]/\lX (aP s.T) p.2=true:=by
  intro p hp;have:=AL gT p hp;rw[aC,A8]at this;refine⟨?_,this.2⟩;have h2:=this.1;cases hh:p.1 with
  | nil=>rfl
  | cons _ _=>rw[hh]at h2;simp[isNil]at h2
 have hlen:aP s.T<=s'.T.length:=by
  have:=oV List.length e1;rw[AO,mD,bD]at this;rw[bD];omega
 have look:∀{v:SV}{t:Nat},AB (aP s.T) v=true->iK s'.env t=some ([],.one v)->∃z,a.tmps[t]?=some z/\dA h (β.take (aP s.T)) v z:=by
  intro v t hb hl;obtain⟨z,q1,q2,_⟩:=aj.env t [] _ hl;exact⟨z,q1,dA.below hb (q2 rfl)⟩
 have ao2:∀{v:SV}{t:Nat},AB (aP s.T) v=true->(∃u,iK s'.env t=some ([],.one u)/\aae u=v)->∃z,a.tmps[t]?=some z/\dA h (β.take (aP s.T)) v z:=by
  rintro v t hb ⟨u,hl,hu⟩;obtain⟨z,q1,q2,_⟩:=aj.env t [] _ hl;exact⟨z,q1,afA hu (.inr (q2 rfl)) λe c=>dA.below hb (e▸c)⟩
 refine⟨?_,?_,?_,aj.defers,aj.sz,?_,?_⟩
 .show OK B h0 (eff [] (kK rs s.T)) h (β.take (aP s.T)) w;rw[<-e1,oO (gl:=s'.gl) λp hp=>by rw[e1]at hp;exact(g1 p hp).1]
  refine aj.ok.take (by rw[jm];exact hlen) ?_
  rw[<-oO (gl:=s'.gl) λp hp=>by rw[e1]at hp;exact(g1 p hp).1]
  rw[e1];have:∀{l:List (Gd×au)},(∀p∈l,p.1=[]/\lX (aP s.T) p.2=true)->∀r∈eff [] l,lX (aP s.T) r=true:=by
   intro l
   induction l with
   | nil=>intro _ r hr;simp[eff]at hr
   | cons q l ih=>
     obtain⟨g,r0⟩:=q;intro hh r hr;have hg:=hh (g,r0) (by simp)
     have hg1:g=[]:=hg.1;subst hg1;simp only[eff]at hr;rcases mM.1 hr with rfl | hr
     .exact hg.2
     .exact ih (λp hp=>hh p (by simp[hp])) r hr
  exact this g1
 .intro t G e ht;simp only[rF]at ht ⊢;rw[qO]at ht;split at ht
  .rename_i x hx;cases ht;obtain⟨v,rfl,rfl,hm⟩:=oZ hx;have hb:=AL gS _ hm;rw[aC,A8]at hb;obtain⟨z,q1,q2⟩:=ao2 hb.1 (Ov hE _ hm);exact⟨z,q1,λ_=>q2,λhh=>by cases hh⟩
  .rw[qO]at ht;split at ht
   .rename_i x hx;cases ht;obtain⟨v,rfl,rfl,hm⟩:=oZ hx;obtain⟨z,q1,q2⟩:=look (qP _ hm) (hR _ hm);exact⟨z,q1,λ_=>q2,λhh=>by cases hh⟩
   .obtain⟨_,_,_,rfl,hf⟩:=lF ht;obtain⟨z,q1,q2⟩:=D t e ht;exact⟨z,q1,λ_=>kC.lY _ hf q2,λhh=>by cases hh⟩
 .intro d i hi;cases hi
 .intro t G e ht;simp only[rF]at ht;rw[qO]at ht;split at ht
  .rename_i x hx;cases ht;obtain⟨_,_,rfl,_⟩:=oZ hx;rfl
  .rw[qO]at ht;split at ht
   .rename_i x hx;cases ht;obtain⟨_,_,rfl,_⟩:=oZ hx;rfl
   .obtain⟨_,_,_,rfl,_⟩:=lF ht;rfl
 .intro p hp;rw[(g1 p hp).1]
def Base.leB(B B':Base):Prop:=B'.toWorld=B.toWorld/\B'.al=B.al/\∀k o,B.nc k o->B'.nc k o
theorem Base.leB.refl(B:Base):B.leB B:=⟨rfl,rfl,λ_ _ h=>h⟩
theorem Base.leB.trans{A B C:Base} (x:A.leB B) (y:B.leB C):A.leB C:=⟨y.1.trans x.1,y.2.1.trans x.2.1,λk o h=>y.2.2 k o (x.2.2 k o h)⟩
def Base.leR(r:Bool) (B B':Base):Prop:=B.leB B'/\(r=true->B'=B)
theorem Base.leR.refl{r:Bool} (B:Base):Base.leR r B B:=⟨.refl B,λ_=>rfl⟩
theorem Base.leR.trans{r:Bool}{A B C:Base} (x:Base.leR r A B) (y:Base.leR r B C):Base.leR r A C:=⟨x.1.trans y.1,λh=>(y.2 h).trans (x.2 h)⟩
theorem OK.Ro{B':Base}{T:List au} (ok:OK B h0 T h β w) (e:B'.toWorld=B.toWorld) (ea:B'.al=B.al) (kn:∀k o,B'.nc k o->w.heap[k]?=some o):OK B' h0 T h β w where
 below:=⟨by rw[e];exact ok.below.os,by rw[e];exact ok.below.tape,by rw[e];exact ok.below.output,by rw[e];exact ok.below.size,by rw[e,ea];exact ok.below.block⟩
 dr:=by rw[e];exact ok.dr
 len:=ok.len
 holds:=ok.holds
 own:=by rw[ea];exact ok.own
 inj:=ok.inj
 hle:=ok.hle
 hw:=ok.hw
 hg:=by rw[ea];exact ok.hg
 kn:=kn
def ownB(T:List au) (β:List RV) (b:Nat):Prop:=∃(i:Nat) (r:au) (v:RV),T[i]?=some r/\r.live=true/\β[i]?=some v/\v.has b
abbrev Base.rd(B:Base) (T:List au) (β:List RV) (A:World):Base:=
 { A with nc:=B.nc,cell:=B.cell,al:=λk=>ownB T β k\/A.heap.size<=k,up:=λ_ h=>.inr h }
theorem OK.enter{T:List au} (ok:OK B h0 T h β A):OK (B.rd T β A) h T h β A where
 below:=⟨rfl,rfl,rfl,qy _,λ_ _ _=>rfl⟩
 dr:=qy _
 len:=ok.len
 holds:=ok.holds
 own:=λi r v b e hl e' hb=>⟨.inl ⟨i,r,v,e,hl,e',hb⟩,(ok.own i r v b e hl e' hb).2⟩
 inj:=ok.inj
 hle:=FH.le.refl h
 hw:=ok.hw
 hg:=λb o v hh=>.inl hh
 kn:=ok.kn
theorem OK.leave{T:List au} (ok:OK B h0 T h β A){T':List au}{h':FH}{A':World}{Br:Base} (e:Br.toWorld=A) (ea:Br.al=(B.rd T β A).al) (en:∀k o,B.nc k o->Br.nc k o) (ok':OK Br h T' h' β' A'):OK B h0 T' h' β' A':=by
 have toB:∀k,Br.al k->B.al k:=by
  intro k hk;rw[ea]at hk;rcases hk with⟨i,r,v,h1,h2,h3,h4⟩ | hk
  .exact(ok.own i r v k h1 h2 h3 h4).1
  .exact B.up k (qY ok.below.size hk)
 subst e;have cell:∀k,ownB T β k->∃o,Br.heap[k]?=some o/\ours o=true:=by
  rintro k ⟨i,r,v,h1,h2,h3,h4⟩;exact(ok.holds i r v h1 h3).cells h2 h4
 refine⟨⟨ok'.below.os.trans ok.below.os,ok'.below.tape.trans ok.below.tape,ok'.below.output.trans ok.below.output,qY ok.below.size ok'.below.size,λk hk ha=>?_⟩,qY ok.dr ok'.dr,ok'.len,ok'.holds,
  λi r v b e1 l1 e2 hb=>⟨toB b (ok'.own i r v b e1 l1 e2 hb).1,(ok'.own i r v b e1 l1 e2 hb).2⟩,ok'.inj,ok.hle.trans ok'.hle,ok'.hw,λb o v hh=>?_,λk o hk=>ok'.kn k o (en k o hk)⟩
 .exact(ok'.below.block k (Qe hk ok.below.size) (λhh=>ha (toB k hh))).trans (ok.below.block k hk ha)
 .rcases ok'.hg b o v hh with h1 | h1
  .exact ok.hg b o v h1
  .exact .inr (toB b h1)
theorem OK.gs{B:Base}{h0:FH}{T:List au}{h:FH}{β:List RV}{A A':World} (ok:OK B h0 T h β A){G:Nat->Prop} (gs:Gs G A A') (hB:∀k,G k->B.heap.size<=k) (hO:∀k,ownB T β k->¬G k) (hF:∀k o v,h k o=some v->¬G k) (hN:∀k o,B.nc k o->¬G k):OK B h0 T h β A':=by
 have cl:∀b o v,h b o=some v->vis A' b o=some v:=by
  intro b o v hh;have h1:=ok.hw b o v hh;exact(kD (gs.block b (o9 h1) (hF b o v hh))).trans h1
 exact {
  below:=⟨gs.os.trans ok.below.os,gs.tape.trans ok.below.tape,gs.output.trans ok.below.output,qY ok.below.size gs.size,λk hk ha=>(gs.block k (Qe hk ok.below.size) (λhg=>by have:=hB k hg;omega)).trans (ok.below.block k hk ha)⟩
  dr:=qY ok.dr gs.dr
  len:=ok.len
  holds:=λi r v e e'=>(ok.holds i r v e e').move (FH.le.refl h) (Ext.refl _) λhl b hb=>gs.block b (ok.own i r v b e hl e' hb).2.1 (hO b ⟨i,r,v,e,hl,e',hb⟩)
  own:=λi r v b e hl e' hb=>by
   obtain⟨h1,h2,h3⟩:=ok.own i r v b e hl e' hb;exact⟨h1,Qe h2 gs.size,h3⟩
  inj:=ok.inj
  hle:=ok.hle
  hw:=cl
  hg:=ok.hg
  kn:=λk o hk=>by
   have h1:=ok.kn k o hk;exact(gs.block k (Fj.1 h1).1 (hN k o hk)).trans h1 }
theorem OK.turn{T:List au} (ok:OK B h0 T h β w){l:Nat}{o o':Obj} (hB:B.al l) (hn:∀k u,B.nc k u->k≠l) (hl:w.heap[l]?=some o) (ho:ours o=false):OK B h0 T h β (w.putObj l o'):=by
 have cl:∀{b i:Nat}{v:Value},vis w b i=some v->vis (w.putObj l o') b i=some v:=by
  intro b i v hv;have hne:b≠l:=by
   intro e;unfold vis at hv;rw[e,hl]at hv;cases o<;>simp_all[ours]
  exact(kD (World.putObj_heap_other hne)).trans hv
 exact {
  below:=ok.below.grown (row:=some l) ⟨rfl,rfl,rfl,by simp,λk _ hk=>World.putObj_heap_other (λe=>hk (by rw[e]))⟩ (λk e=>by cases e;exact hB)
  dr:=ok.dr
  len:=ok.len
  holds:=λi r v e e'=>(ok.holds i r v e e').move (FH.le.refl h) (Ext.refl _) λhlv b hb=>World.putObj_heap_other (by
   rintro rfl;obtain⟨o1,h1,h2⟩:=(ok.holds i r v e e').cells hlv hb;rw[hl]at h1;cases h1;rw[ho]at h2;cases h2)
  own:=λi r v b e hlv e' hb=>by
   obtain⟨h1,h2,h3⟩:=ok.own i r v b e hlv e' hb;exact⟨h1,by simpa using h2,h3⟩
  inj:=ok.inj
  hle:=ok.hle
  hw:=λb o v hh=>cl (ok.hw b o v hh)
  hg:=ok.hg
  kn:=λk u hk=>(World.putObj_heap_other (hn k u hk)).trans (ok.kn k u hk) }
theorem AQ{n:Nat}{ws:List Nat}:∀{l:List (Nat×Gd×bg)}{seen:List Nat},∀p∈keepR n ws seen l,jc p.1 ws=false
 | [],_,p,hp=>by simp[keepR]at hp
 | (k,g,e) :: l,seen,p,hp=>by
   unfold keepR at hp
   repeat' (split at hp)
   all_goals first
    | exact AQ p hp
    | (
     rcases mM.1 hp with rfl | hp
     .assumption
     .exact AQ p hp)
theorem wM(h:yH n T=true):∀p∈T,p.1=[]/\lX n p.2=true:=by
 intro p hp;have:=AL h p hp;rw[aC,A8]at this;refine⟨?_,this.2⟩;have h2:=this.1;cases hh:p.1 with
 | nil=>rfl
 | cons _ _=>rw[hh]at h2;simp[isNil]at h2
theorem Uu{gl:List Bool}:∀{T:List (Gd×au)},(∀p∈T,p.1=[])->eff [] T=eff gl T
 | [],_=>rfl
 | (g,r) :: l,h=>by
   have hg:g=[]:=h (g,r) (by simp)
   subst hg;simp only[eff];rw[Uu (gl:=gl) (T:=l) λp hp=>h p (by simp[hp])]
theorem Lm(aj:Sat N B h0 s h β w a){ws dr:List Nat}{h':FH} (le:h.le h')
 (refs:∀p∈keepR (aP s.T) ws [] s.env,∃z,a.tmps[p.1]?=some z/\dA h' β' p.2 z):∀t G e,iK (rdE ws dr s) t=some (G,e)->G=[]/\(jc t ws=false\/jc t dr=false)/\∃z,a.tmps[t]?=some z/\kC h' β' e z:=by
 intro t G e ht;simp only[rdE]at ht;rw[qO]at ht;split at ht
 .rename_i x hx;cases ht;obtain⟨v,rfl,rfl,hm⟩:=oZ hx;obtain⟨z,q1,q2⟩:=refs _ hm;exact⟨rfl,.inl (AQ _ hm),z,q1,q2⟩
 .obtain⟨_,hd,hl,rfl,hf⟩:=lF ht;obtain⟨z,q1,q2,_⟩:=aj.env t [] e hl;exact⟨rfl,.inr hd,z,q1,(kC.lY β' hf (q2 rfl)).mono le (Ext.refl _)⟩
theorem aaj{B':Base} (aj:Sat N B h0 s h β w a){ws dr:List Nat}{h':FH}{a':Act} (le:h.le h')
 (refs:∀p∈keepR (aP s.T) ws [] s.env,∃z,a.tmps[p.1]?=some z/\dA h' β' p.2 z){gl:List Bool} (ok:OK B' h0 (eff gl T) h' β' A) (gT:∀p∈T,xq gl.length p.1=true) (ht:a'.tmps=a.tmps) (df:Qq B' a'):
 Sat N B' h0 { env:=rdE ws dr s,T:=T,gl:=gl,gs:=[] } h' β' A a' where
 ok:=ok
 env:=λt G e h1=>by
  obtain⟨rfl,_,z,q1,q2⟩:=Lm aj le refs t G e h1;exact⟨z,by rw[ht];exact q1,λ_=>q2,λhh=>by cases hh⟩
 gs:=λd i hi=>by cases hi
 defers:=df
 sz:=by rw[ht];exact aj.sz
 gb:=λt G e h1=>by
  obtain⟨rfl,_⟩:=Lm aj le refs t G e h1;rfl
 gT:=gT
theorem fold_size:∀(l:List (Nat×Value)) (t:Array Value),(l.foldl (λt (p:Nat×Value)=>t.setIfInBounds p.1 p.2) t).size=t.size
 | [],_=>rfl
 | _ :: l,t=>by simp only[Nj];rw[fold_size l];simp
theorem zl{k:Nat}:∀(l:List (Nat×Value)) (t:Array Value),(∀p∈l,p.1≠k)->(l.foldl (λt (p:Nat×Value)=>t.setIfInBounds p.1 p.2) t)[k]?=t[k]?
 | [],_,_=>rfl
 | (p,v) :: l,t,h=>by
   simp only[Nj];rw[zl l _ λq hq=>h q (by simp[hq])]
   exact ajV (h (p,v) (by simp))
theorem G5(ps:Array Tmp) (vs:List Value) (t:Array Value):(ps.zip vs.toArray).foldl (λt (p,v)=>t.setIfInBounds p v) t=((tl ps).zip vs).foldl (λt (p:Nat×Value)=>t.setIfInBounds p.1 p.2) t:=by
 cases ps with
 | mk l=>simp
theorem aak{h:FH}{n:Nat}:∀{ps:List Nat}{ss:List Sh}{d:bV ss}{vs:List Value}{t:Array Value},t.size=n->yI n ps ss=true->DK h ss d vs ->
 (∀k G e,iK (Ou ps ss d) k=some (G,e)->G=[]/\∃z,((ps.zip vs).foldl (λt (p:Nat×Value)=>t.setIfInBounds p.1 p.2) t)[k]?=some z/\∀β,kC h β e z) /\
 (∀k,iK (Ou ps ss d) k=none->jc k ps=false)
 | [],[],d,vs,t,_,_,_=>⟨λk G e hh=>by simp[Ou,iK]at hh,λk _=>rfl⟩
 | [],_ :: _,d,vs,t,_,hp,_=>by simp[yI]at hp
 | _ :: _,[],d,vs,t,_,hp,_=>by simp[yI]at hp
 | p :: ps,s :: ss,d,vs,t,hn,hp,hv=>by
   cases vs with
   | nil=>exact hv.elim
   | cons v vs=>
     simp only[yI,aC,A8]at hp;obtain⟨⟨hp1,hp2⟩,hp3⟩:=hp;have hp2:jc p ps=false:=by simpa using hp2
     have hp1:=qX hp1;obtain⟨i1,i2⟩:=aak (t:=t.setIfInBounds p v) (by simp[hn]) hp3 hv.2
     have hnot:∀q∈ps.zip vs,q.1≠p:=by
      intro q hq e;have hm:q.1∈ps:=(List.of_mem_zip hq).1;rw[e]at hm;have:∀{l:List Nat},p∈l->jc p l=true:=by
       intro l
       induction l with
       | nil=>intro h;cases h
       | cons x l ih=>
         intro h;rw[jF];rcases mM.1 h with rfl | h
         .simp
         .rw[ih h];simp
      rw[this hm]at hp2;cases hp2
     refine⟨λk G e hh=>?_,λk hh=>?_⟩
     .simp only[Ou]at hh;rw[aY]at hh;split at hh
      .rename_i hk;subst hk;cases hh;refine⟨rfl,v,?_,λβ=>?_⟩
       .simp only[List.zip_cons_cons,Nj];rw[zl _ _ hnot];rw[Array.getElem?_setIfInBounds_self_of_lt (by omega)]
       .obtain⟨cs,rfl,r⟩:=hv.1;exact jT s r
      .simpa only[List.zip_cons_cons,Nj]using i1 k G e hh
     .simp only[Ou]at hh;rw[aY]at hh;split at hh
      .cases hh
      .rename_i hk;rw[jF,i2 k hh,Bool.or_false];cases hb:Nat.beq k p with
       | false=>rfl
       | true=>exact absurd (iE hb).symm hk
def Apt(n:Nat) (T:List au) (h:FH) (β:List RV) (G:Nat->Prop):Prop:=(∀b,G b->n<=b)/\(∀b,ownB T β b->¬G b)/\∀b o v,h b o=some v->¬G b
theorem JF{T:List au}{G:Nat->Prop} (ok':OK B h0 T h β A) (ap:Apt n T h β G) (apb:∀b,G b->b < A.heap.size)
 {B2:Base}{s2:St}{h2:FH}{β2:List RV}{A2:World}{a2:Act} (BU:(B.rd T β A).leB B2) (bG:Sat N B2 h s2 h2 β2 A2 a2):
 OK B h0 (eff s2.gl s2.T) h2 β2 A2/\Apt n (eff s2.gl s2.T) h2 β2 G/\A.heap.size<=A2.heap.size/\(∀k,k < A.heap.size->¬ownB T β k->A2.heap[k]?=A.heap[k]?) /\
  (∀k o,A.heap[k]?=some o->ours o=false->¬ownB T β k):=by
 have same:∀k,k < A.heap.size->¬ownB T β k->A2.heap[k]?=A.heap[k]?:=by
  intro k hk hn;have h1:=bG.ok.below;have h2:=BU.1;have h3:B2.al k↔(ownB T β k\/A.heap.size<=k):=by rw[BU.2.1]
  have h4:=h1.block k (by rw[h2];exact hk) (λhh=>by rcases h3.1 hh with hh | hh<;>first | exact hn hh | omega)
  rw[h2]at h4;exact h4
 refine⟨ok'.leave BU.1 BU.2.1 BU.2.2 bG.ok,⟨ap.1,?_,?_⟩,?_,same,?_⟩
 .rintro b ⟨i,r,v,e1,e2,e3,e4⟩ hb;have hh:=(bG.ok.own i r v b e1 e2 e3 e4).1;rw[BU.2.1]at hh;rcases hh with hh | hh
  .exact ap.2.1 b hh hb
  .have:=apb b hb;omega
 .intro b o v hh hb;rcases bG.ok.hg b o v hh with h1 | h1
  .exact ap.2.2 b o v h1 hb
  .rw[BU.2.1]at h1;rcases h1 with h1 | h1
   .exact ap.2.1 b h1 hb
   .have:=apb b hb;omega
 .have:=bG.ok.below.size;rw[BU.1]at this;exact this
 .rintro k o hk ho ⟨i,r,v,e1,e2,e3,e4⟩;obtain⟨o',q1,q2⟩:=(ok'.holds i r v e1 e3).cells e2 e4;rw[hk]at q1;cases q1;rw[ho]at q2;cases q2
theorem aal{IE c:Code} (rec:∀(c':Code),c'=IE\/c'=c->∀(h0:FH) (E:Env) (B:Base) (s:St) (h:FH) (β:List RV) (w:World) (a:Act) (K:Exit->St->Prop) (Q:Exit->Act->World->Prop) (l:Nat),gY P E->aK E.cx.gd h0->E.rd=true->Sat E.n B h0 s h β w a ->
 jB E c' s K->(∀e s' h' β' w' a' B',Base.leR E.rd B B'->K e s'->h.le h'->Sat E.n B' h0 s' h' β' w' a'->Same (writes c') a a'->Q e a' w')->c'.wpIn (Fence.wide.inRound l) 0 P Q a w)
 (ok:gY P E) (hg:aK E.cx.gd h0){K:Exit->St->Prop} (aj:Sat E.n B h0 s h β w a)
 {g:Operand}{ss:List Sh}{L:List (bV ss)} (gv:Gives P h ss L (a.eval g)){ps:Array Tmp}{ra:RA}
 (k:Rl E.n (λs K=>jB { E with rd:=true } IE s λe s'=>match e with
  | .normal=>jB { E with rd:=true } c s' K
  | _=>False) (eF ra.drop (eF (tl ps) (eF (writes IE) (writes c)))) ra (tl ps) ss L s K)
 (hrd:E.rd=false) (next:∀e s' h' β' w' a' B',Base.leR E.rd B B'->K e s'->h.le h'->Sat E.n B' h0 s' h' β' w' a'->Same [] a a'->Q e a' w'):(Code.rangeFunc g ps IE c).wpIn Fence.wide n P Q a w:=by
 unfold Rl at k;split at k
 .cases k
 rename_i hpar;obtain⟨⟨x0,i0,t0⟩,kr,kd⟩:=k;obtain⟨ws,hws⟩:∃ws,ws=eF ra.drop (eF (tl ps) (eF (writes IE) (writes c))):=⟨_,rfl⟩;rw[<-hws]at kr kd;have good:∀i x,i<=L.length->ra.inv i x->yH (aP s.T) (kK (ra.res x) s.T)=true:=by
  intro i x hi hx;cases hd:L[i]? with
  | some d=>
    have:=kr i x d hx hd;split at this
    .cases this
    .rename_i hh;exact hh
  | none=>
    have he:i=aP L:=by rw[bD];have:=List.getElem?_eq_none_iff.1 hd;omega
    subst he;have:=kd x hx;split at this
    .cases this
    .rename_i hh;exact hh
 have aru:∀x,aP s.T=(kK (ra.res x) s.T).length:=λx=>by rw[AO,bD]
 have hpl:ps.size=ss.length:=by
  have:∀{l:List Nat}{ss:List Sh},yI E.n l ss=true->l.length=ss.length:=by
   intro l
   induction l with
   | nil=>intro ss h;cases ss with | nil=>rfl | cons _ _=>simp[yI]at h
   | cons x l ih=>
     intro ss h;cases ss with
     | nil=>simp[yI]at h
     | cons s ss=>
       simp only[yI,aC,A8]at h;simp[ih h.2]
  have h1:=this hpar;cases ps;simpa using h1
 have psw:∀t,jc t ws=false->jc t (tl ps)=false/\jc t (writes IE)=false/\jc t (writes c)=false:=by
  intro t ht;rw[hws,lW,lW,lW,oI,oI,oI]at ht;exact⟨ht.2.1,ht.2.2.1,ht.2.2.2⟩
 have Uw:∀(vs:List Value) t,jc t (tl ps)=false->((ps.zip vs.toArray).foldl (λt (p,v)=>t.setIfInBounds p v) a.tmps)[t]?=a.tmps[t]?:=by
  intro vs t ht;rw[G5];refine zl _ _ λq hq e=>?_
  have hm:q.1∈tl ps:=(List.of_mem_zip hq).1;rw[e]at hm;have:∀{l:List Nat},t∈l->jc t l=true:=by
   intro l
   induction l with
   | nil=>intro h;cases h
   | cons x l ih=>
     intro h;rw[jF];rcases mM.1 h with rfl | h
     .simp
     .rw[ih h];simp
  rw[this hm]at ht;cases ht
 have ao3:∀p∈keepR (aP s.T) ws [] s.env,∃z,a.tmps[p.1]?=some z/\dA h β p.2 z:=by
  intro p hp;obtain⟨z,q1,q2,_⟩:=aj.env _ _ _ (tu p hp).2;exact⟨z,q1,q2 rfl⟩
 have aam:∀kk o,B.nc kk o->kk < w.heap.size:=λkk o hk=>(Fj.1 (aj.ok.kn kk o hk)).1
 have hBs:B.heap.size<=w.heap.size:=aj.ok.below.size
 -- the iterator's blocks are no one else's
 let Ap:List au->FH->List RV->(Nat->Prop)->Prop:=λT h' β' G=>Apt w.heap.size T h' β' G
 have apG:∀{T:List au}{h':FH}{β':List RV}{G G':Nat->Prop}{A A':World},OK B h0 T h' β' A->w.heap.size<=A.heap.size->Ap T h' β' G->Own' G G' A A'->Ap T h' β' G':=by
  intro T h' β' G G' A A' ok' hsz ⟨a1,a2,a3⟩ ho;refine⟨λb hb=>?_,λb hb hg=>?_,λb o v hb hg=>?_⟩
  .rcases(ho b hb).2 with h1 | h1
   .exact a1 b h1
   .omega
  .rcases(ho b hg).2 with h1 | h1
   .exact a2 b hb h1
   .obtain⟨i,r,v,e1,e2,e3,e4⟩:=hb;have:=(ok'.own i r v b e1 e2 e3 e4).2.1;omega
  .rcases(ho b hg).2 with h1 | h1
   .exact a3 b o v hb h1
   .have:=o9 (ok'.hw b o v hb);omega
 have gsO:∀{T:List au}{h':FH}{β':List RV}{G:Nat->Prop}{A A':World},OK B h0 T h' β' A->Ap T h' β' G->Gs G A A'->OK B h0 T h' β' A':=λok' ⟨a1,a2,a3⟩ gs=>
  ok'.gs gs (λk hk=>qY hBs (a1 k hk)) a2 a3 (λk o hk hg=>by have:=aam k o hk;have:=a1 k hg;omega)
 -- what holds between the rounds;what holds where a round has left
 let I:Nat->(Nat->Prop)->World->Prop:=λi G A=>i<=L.length/\(w.heap.size<=A.heap.size/\∀b,G b->b < A.heap.size)/\∃x h' β',Ap (eff [] (kK (ra.res x) s.T)) h' β' G/\ra.inv i x/\h.le h'/\OK B h0 (eff [] (kK (ra.res x) s.T)) h' β' A/\∀p∈keepR (aP s.T) ws [] s.env,∃z,a.tmps[p.1]?=some z/\dA h' β' p.2 z
 let Ix:Code->(Nat->Prop)->World->Prop:=λcc G A=>w.heap.size<=A.heap.size/\∃e T gl h' β',Ap (eff gl T) h' β' G/\((cc=.ret/\e=Exit.ret)\/∃j,cc=.exit j/\e=Exit.exit j)/\K e { env:=rdE ws ra.drop s,T:=T,gl:=gl,gs:=[] }/\h.le h'/\OK B h0 (eff gl T) h' β' A /\
  (∀p∈T,xq gl.length p.1=true)/\∀p∈keepR (aP s.T) ws [] s.env,∃z,a.tmps[p.1]?=some z/\dA h' β' p.2 z
 have dfr:∀A,A.heap[w.heap.size]?=some (.deferred (some []))->∃B':Base,B.leB B'/\Qq B' { a with defers:=zk w.heap.size :: a.defers }/\(∀{T h' β'},OK B h0 T h' β' A->OK B' h0 T h' β' A):=by
  intro A hA;refine⟨{ B with nc:=λk o=>B.nc k o\/(k=w.heap.size/\o=.deferred (some [])),cell:=λk o hh=>hh.elim (B.cell k o) λhh=>by rw[hh.2] },⟨rfl,rfl,λk o hh=>.inl hh⟩,?_,λok'=>ok'.Ro rfl rfl (λk o hh=>hh.elim (ok'.kn k o) λhh=>by rw[hh.1,hh.2];exact hA)⟩
  obtain⟨X,x1,x2,x3⟩:=aj.defers;refine⟨w.heap.size :: X,by simp[x1,zk],?_,?_⟩
  .refine VY.2 ⟨λhm=>?_,x2⟩
   have:=aam _ _ (x3 _ hm).2;omega
  .intro D hD;rcases mM.1 hD with rfl | hD
   .exact⟨B.up _ hBs,.inr ⟨rfl,rfl⟩⟩
   .exact⟨(x3 D hD).1,.inl (x3 D hD).2⟩
 have fin:∀e cc G A,((cc=.ret/\e=Exit.ret)\/∃j,cc=.exit j/\e=Exit.exit j)->Ix cc G A->A.heap[w.heap.size]?=some (.deferred (some []))->Q e { a with defers:=zk w.heap.size :: a.defers } A:=by
  rintro e cc G A he ⟨_,e',T,gl,h',β',_,he',kk,le,ok',gT,refs⟩ hA;have hee:e'=e:=by
   rcases he with⟨rfl,rfl⟩ | ⟨j,rfl,rfl⟩<;>rcases he' with⟨h1,h2⟩ | ⟨j',h1,h2⟩<;>first | (cases h1;exact h2) | cases h1
  subst hee;obtain⟨B',lb,df,up⟩:=dfr A hA;exact next _ _ h' β' A _ B' ⟨lb,λhh=>(by rw[hrd]at hh;cases hh)⟩ kk le (aaj aj le refs (up ok') gT rfl df) λ_ _=>rfl
 refine Xt gv hpl I Ix ?_ ?_ ?_ ?_ ?_ ?_ ?_ ?_ ?_ (λG A hA=>fin .ret .ret G A (.inl ⟨rfl,rfl⟩) hA) (λj G A hA=>fin (.exit j) (.exit j) G A (.inr ⟨j,rfl,rfl⟩) hA)
 .rintro i G A ⟨_,_,x,h',β',_,_,le,ok',_⟩;exact HW.mono le ok'.hw
 .rintro cc G A ⟨_,e,T,gl,h',β',_,he,kk,le,ok',_⟩;exact HW.mono le ok'.hw
 .rintro i G G' A A' ⟨hi,hsz,x,h',β',ap,i1,le,ok',refs⟩ gs ho;exact⟨hi,⟨qY hsz.1 gs.size,λb hb=>(ho b hb).1⟩,x,h',β',apG ok' hsz.1 ap ho,i1,le,gsO ok' ap gs,refs⟩
 .rintro cc G G' A A' ⟨hsz,e,T,gl,h',β',ap,he,kk,le,ok',gT,refs⟩ gs ho;exact⟨qY hsz gs.size,e,T,gl,h',β',apG ok' hsz ap ho,he,kk,le,gsO ok' ap gs,gT,refs⟩
 .rintro i G A l o o' ⟨hi,hsz,x,h',β',ap,i1,le,ok',refs⟩ hl hA ho;exact⟨hi,⟨by simpa using hsz.1,by simpa using hsz.2⟩,x,h',β',ap,i1,le,ok'.turn (B.up _ (qY hBs hl)) (λkk u hk e=>by have:=aam kk u hk;omega) hA ho,refs⟩
 .rintro cc G A l o o' ⟨hsz,e,T,gl,h',β',ap,he,kk,le,ok',gT,refs⟩ hl hA ho;exact⟨by simpa using hsz,e,T,gl,h',β',ap,he,kk,le,ok'.turn (B.up _ (qY hBs hl)) (λkk u hk e=>by have:=aam kk u hk;omega) hA ho,gT,refs⟩
 .refine⟨Iz _,⟨qy _,λb hb=>hb.elim⟩,x0,h,β,⟨λb hb=>hb.elim,λb _ hb=>hb.elim,λb o v _ hb=>hb.elim⟩,i0,FH.le.refl h,?_,ao3⟩
  have g0:=good 0 x0 (Iz _) i0;rw[Uu (gl:=s.gl) λp hp=>(wM g0 p hp).1,<-t0]
  exact aj.ok
 .rintro i d vs G A l o1 Xu o2 hd hv ⟨hi,⟨hsz,apb⟩,x,h',β',ap,i1,le,ok',refs⟩ hl hA1 ho1 arv hA2 ho2 hGl;have kk:=kr i x d i1 hd;have gx:=good i x hi i1;rw[gx]at kk;simp only at kk;have blen:β'.length=aP s.T:=by rw[ok'.len,jm,<-aru]
  obtain⟨p1,p2⟩:=aak (t:=a.tmps) (n:=E.n) aj.sz hpar hv;have arw:Sat E.n (B.rd (eff [] (kK (ra.res x) s.T)) β' A) h'
   { env:=eF (Ou (tl ps) ss d) (rdE ws (eF ra.drop (tl ps)) s),T:=kK (ra.res x) s.T,gl:=[],gs:=[] } h' β' A { tmps:=(ps.zip vs.toArray).foldl (λt (p,v)=>t.setIfInBounds p v) a.tmps,defers:=[] }:=by
   refine⟨ok'.enter,?_,?_,Qq.nil rfl,?_,?_,?_⟩
   .intro t G e ht;simp only at ht ⊢;rw[qO]at ht;split at ht
    .rename_i y hy;cases ht;obtain⟨rfl,z,z1,z2⟩:=p1 t G e hy;refine⟨z,by rw[G5];exact z1,λ_=>(z2 β').mono le (Ext.refl _),λhh=>by cases hh⟩
    .rename_i hy;obtain⟨rfl,hm,z,z1,z2⟩:=Lm aj le refs t G e ht;have hps:jc t (tl ps)=false:=p2 t hy;exact⟨z,by rw[Uw vs t hps];exact z1,λ_=>z2,λhh=>by cases hh⟩
   .intro dd ii hh;cases hh
   .rw[G5,fold_size];exact aj.sz
   .intro t G e ht;simp only at ht;rw[qO]at ht;split at ht
    .rename_i y hy;cases ht;obtain⟨rfl,_⟩:=p1 t G e hy;rfl
    .obtain⟨rfl,_⟩:=Lm aj le refs t G e ht;rfl
   .intro p hp;rw[(wM gx p hp).1]
  have Ei:gY P { E with rd:=true }:=⟨ok.prog,ok.hc,ok.ZV,ok.mixed,ok.ti,ok.ct,ok.ip,ok.sq,ok.sf⟩
  refine rec IE (.inl rfl) h' { E with rd:=true } _ _ h' β' A _ _ _ l Ei (hg.mono ok'.hle) rfl arw kk ?_
  rintro e1 s1 h1 β1 A1 a1 B1 ⟨lb1,lr1⟩ k1 le1 jA sm1;cases e1 with
  | exit j=>exact k1.elim
  | goto j=>exact k1.elim
  | ret=>exact k1.elim
  | panic c=>exact k1.elim
  | outgrown=>exact k1.elim
  | normal=>
  obtain⟨q1,q2,q3,q4,q5⟩:=JF ok' ap apb lb1 jA;have aan:∀b,b=l\/b=w.heap.size\/G b->A1.heap[b]?=A.heap[b]?:=by
   rintro b (rfl | rfl | hb)
   .exact q4 _ (Fj.1 hA1).1 (q5 _ _ hA1 ho1)
   .exact q4 _ (Fj.1 hA2).1 (q5 _ _ hA2 ho2)
   .exact q4 b (apb b hb) (λhh=>ap.2.1 b hh hb)
  refine⟨aan,?_⟩;have hB1:A1.heap[l]?=some o1:=(aan l (.inl rfl)).trans hA1;have hl1:l < A1.heap.size:=(Fj.1 hB1).1
  -- the record is turned;all else stands
  have okt:OK B h0 (eff s1.gl s1.T) h1 β1 (A1.putObj l Xu):=q1.turn (B.up _ (qY hBs (by omega))) (λkk u hk e=>by have:=aam kk u hk;omega) hB1 ho1
  have ao4:Sat E.n (B.rd (eff s1.gl s1.T) β1 (A1.putObj l Xu)) h1 s1 h1 β1 (A1.putObj l Xu) a1:=by
   have hd1:a1.defers=[]:=by
    obtain⟨X,x1,x2,x3⟩:=jA.defers;cases X with
    | nil=>simpa using x1
    | cons D X=>
      exfalso;obtain⟨d1,d2⟩:=x3 D (by simp)
      rw[lr1 rfl]at d1 d2;have hk:=ok'.kn D _ d2;rcases d1 with d1 | d1
      .obtain⟨i,r,v,e1,e2,e3,e4⟩:=d1;obtain⟨o',q1,q2⟩:=(ok'.holds i r v e1 e3).cells e2 e4;rw[hk]at q1;cases q1;cases q2
      .have:=(Fj.1 hk).1;omega
   exact⟨okt.enter,jA.env,jA.gs,Qq.nil hd1,jA.sz,jA.gb,jA.gT⟩
  have hsz1:w.heap.size<=(A1.putObj l Xu).heap.size:=by simp;omega
  have akQ:∀b,G b->b < (A1.putObj l Xu).heap.size:=λb hb=>by have:=apb b hb;simp;omega
  have hT2:(A1.putObj l Xu).heap[w.heap.size]?=some o2:=(World.putObj_heap_other (by omega)).trans ((aan _ (.inr (.inl rfl))).trans hA2)
  have hT1:(A1.putObj l Xu).heap[l]?=some Xu:=World.putObj_heap_same hl1;refine rec c (.inr rfl) h1 { E with rd:=true } _ _ h1 β1 _ _ _ _ l Ei (hg.mono (ok'.hle.trans le1)) rfl ao4 k1 ?_
  rintro e s2 h2 β2 A2 a2 B2 ⟨BU,_⟩ k2 iF bG yJ;obtain⟨ok2,ap2,q8,q9,q10⟩:=JF okt q2 akQ BU bG;have keep:∀b,b=l\/b=w.heap.size\/G b->A2.heap[b]?=(A1.putObj l Xu).heap[b]?:=by
   rintro b (rfl | rfl | hb)
   .exact q9 _ (Fj.1 hT1).1 (q10 _ _ hT1 arv)
   .exact q9 _ (Fj.1 hT2).1 (q10 _ _ hT2 ho2)
   .exact q9 b (akQ b hb) (λhh=>q2.2.1 b hh hb)
  split at k2
  .cases k2
  rename_i hR;have hsz2:w.heap.size<=A2.heap.size:=qY hsz1 q8;have aao:∀p∈keepR (aP s.T) ws [] s.env,∃z,a.tmps[p.1]?=some z/\dA h2 β2 p.2 z:=by
   intro p hp;obtain⟨z,q1,q2,_⟩:=bG.env _ _ _ (sZ hR p hp);obtain⟨w1,w2,w3⟩:=psw _ (AQ p hp);have e1:=yJ p.1 w3;have e2:=sm1 p.1 w2;simp only at e2;rw[e1,e2,Uw vs _ w1]at q1;exact⟨z,q1,q2 rfl⟩
  cases e with
  | normal=>
    simp only at k2;obtain⟨x',j1,j2⟩:=k2;have hi1:i+1<=L.length:=(eU.1 hd).1;have gx':=good (i+1) x' hi1 j1;have et:eff [] (kK (ra.res x') s.T)=(eff s2.gl s2.T).take (aP s.T):=by
     rw[jS]at j2;rw[<-j2,oO (gl:=s2.gl) λp hp=>by rw[j2]at hp;exact(wM gx' p hp).1]
    refine⟨keep,hi1,⟨hsz2,λb hb=>Qe (akQ b hb) q8⟩,x',h2,β2.take (aP s.T),?_,j1,(le.trans le1).trans iF,?_,λp hp=>?_⟩
    .refine⟨ap2.1,?_,ap2.2.2⟩;rintro b ⟨i,r,v,e1,e2,e3,e4⟩ hb;rw[et]at e1;have hi:i < aP s.T:=by have:=(eU.1 e1).1;simp at this;omega
     rw[kU hi]at e1 e3;exact ap2.2.1 b ⟨i,r,v,e1,e2,e3,e4⟩ hb
    .rw[et];rw[jS]at j2;have hlen:aP s.T<=s2.T.length:=by
      have:=oV List.length j2;rw[AO,mD,bD]at this;rw[bD];omega
     refine ok2.take (by rw[jm];exact hlen) ?_
     rw[<-et];have:∀{l:List (Gd×au)},(∀p∈l,p.1=[]/\lX (aP s.T) p.2=true)->∀r∈eff [] l,lX (aP s.T) r=true:=by
      intro l
      induction l with
      | nil=>intro _ r hr;simp[eff]at hr
      | cons q l ih=>
        obtain⟨g,r0⟩:=q;intro hh r hr;have hg:=hh (g,r0) (by simp)
        have hg1:g=[]:=hg.1;subst hg1;simp only[eff]at hr;rcases mM.1 hr with rfl | hr
        .exact hg.2
        .exact ih (λp hp=>hh p (by simp[hp])) r hr
     exact this (wM gx')
    .obtain⟨z,q1,q2⟩:=aao p hp;exact⟨z,q1,dA.below (qP p hp) q2⟩
  | ret=>exact⟨keep,hsz2,.ret,s2.T,s2.gl,h2,β2,ap2,.inl ⟨rfl,rfl⟩,k2,(le.trans le1).trans iF,ok2,bG.gT,aao⟩
  | exit j=>exact⟨keep,hsz2,.exit j,s2.T,s2.gl,h2,β2,ap2,.inr ⟨j,rfl,rfl⟩,k2,(le.trans le1).trans iF,ok2,bG.gT,aao⟩
  | goto t=>exact k2.elim
  | panic ch=>exact k2.elim
  | outgrown=>exact k2.elim
 .rintro G A ⟨_,_,x,h',β',_,i1,le,ok',refs⟩ hA;have kk:=kd x (by rw[bD];exact i1)
  have gx:=good _ x (qy _) i1;rw[gx]at kk;simp only at kk;obtain⟨B',lb,df,up⟩:=dfr A hA;exact next _ _ h' β' A _ B' ⟨lb,λhh=>(by rw[hrd]at hh;cases hh)⟩ kk le (aaj aj le refs (up ok') (λp hp=>by rw[(wM gx p hp).1]) rfl df) λ_ _=>rfl
theorem jd{P:Program}{n:Nat}:∀(c:Code){h0:FH}{E:Env} (ok:gY P E) (hg:aK E.cx.gd h0){F:Fence} (hF:Wd F) (hr:E.rd=false->F=Fence.wide){B:Base}{s:St}{h:FH}{β:List RV}{w:World}{a:Act}{K:Exit->St->Prop}{Q:Exit->Act->World->Prop},Sat E.n B h0 s h β w a ->
 jB E c s K->(∀e s' h' β' w' a' B',Base.leR E.rd B B'->K e s'->h.le h'->Sat E.n B' h0 s' h' β' w' a'->Same (writes c) a a'->Q e a' w')->c.wpIn F n P Q a w
 | .skip,h0,E,ok,hg,F,hF,hr,B,s,h,β,w,a,K,Q,aj,k,next=>wpIn_skip (next _ _ _ _ _ _ _ (.refl _) k (FH.le.refl h) aj (Same.refl _ _))
 | .exit i,h0,E,ok,hg,F,hF,hr,B,s,h,β,w,a,K,Q,aj,k,next=>wpIn_exit (next _ _ _ _ _ _ _ (.refl _) k (FH.le.refl h) aj (Same.refl _ _))
 | .ret,h0,E,ok,hg,F,hF,hr,B,s,h,β,w,a,K,Q,aj,k,next=>wpIn_ret (next _ _ _ _ _ _ _ (.refl _) k (FH.le.refl h) aj (Same.refl _ _))
 | .region id ops false,h0,E,ok,hg,F,hF,hr,B,s,h,β,w,a,K,Q,aj,k,next=>by
   simp only[jB]at k;split at k
   .cases k
   rename_i hnd;have et:tl ops=ops.toList:=by cases ops;rfl
   rw[et]at hnd k;refine Q7 (R:=λa w=>Q .normal a w) hF (λ_ _ hh=>hh) hnd (Le ok hg ops.toList aj (by rw[et];exact k) λs' h' β' w' a' k' le aT sm=>next .normal _ _ _ _ _ _ (.refl _) k' le aT.clean ?_)
   simp only[writes];rw[et];exact sm
 | .seq x y,h0,E,ok,hg,F,hF,hr,B,s,h,β,w,a,K,Q,aj,k,next=>by
   simp only[jB]at k;split at k
   .rename_i la _;obtain⟨β0,akR⟩:=aj.zi la.pad;clear aj;generalize zi la.pad s=s at akR k;generalize β0=β at akR;have aj:=akR;obtain⟨k1,k2⟩:=k;have D0:∀h' a',h.le h'->Same (writes x) a a'->∀t e,iK (qN (eF la.drop (writes x)) [] s.env) t=some ([],e)->∃z,a'.tmps[t]?=some z/\kC h' [] e z:=by
     intro h' a' le sm t e ht;obtain⟨_,hw,hl,_,hf⟩:=lF ht;obtain⟨z,q1,q2,_⟩:=aj.env t [] e hl;exact⟨z,by rw[sm t (by rw[lW,oI]at hw;exact hw.2)];exact q1,(kC.lY [] hf (q2 rfl)).mono le (Ext.refl _)⟩
    refine wpIn_seq (jd x ok hg hF hr aj k1 λe s' h' β' w' a' B1 lb k' le aT sm=>?_)
    cases e with
    | normal=>
      simp only at k';unfold aoY at k';obtain⟨h1,β1,le1,bG⟩:=Sat.vG aT la.IC la.wH la.nil la.uJ la.deep;obtain⟨β20,ao6⟩:=bG.oG la.ren;obtain⟨β2,Rn⟩:=ao6.vN la.can;split at k'
      .rename_i hR;obtain⟨v,j1,j2,j3⟩:=k';have kk:=k2 v j1;split at kk
       .cases kk
       .rename_i hc;rw[aC,A8]at hc;exact jd y ok hg hF hr (AP Rn j3 hc.1 hc.2 j2 (sZ hR) (D0 h1 a' (le.trans le1) sm)) kk λe s2 h2 β3 w2 a2 B2 BU k3 iF aah yJ=>next e s2 h2 β3 w2 a2 B2 (lb.trans BU) k3 ((le.trans le1).trans iF) aah (sm.left.trans yJ.right)
      .exact k'.elim
    | exit i=>exact next _ _ _ _ _ _ _ lb k' le aT sm.left
    | goto l=>exact next _ _ _ _ _ _ _ lb k' le aT sm.left
    | ret=>exact next _ _ _ _ _ _ _ lb k' le aT sm.left
    | panic ch=>exact next _ _ _ _ _ _ _ lb k' le aT sm.left
    | outgrown=>exact next _ _ _ _ _ _ _ lb k' le aT sm.left
   .refine wpIn_seq (jd x ok hg hF hr aj k λe s' h' β' w' a' B1 lb k' le aT sm=>?_)
    cases e with
    | normal=>exact jd y ok hg hF hr aT k' λe s2 h2 β2 w2 a2 B2 BU k2 iF bG yJ=>next e s2 h2 β2 w2 a2 B2 (lb.trans BU) k2 (le.trans iF) bG (sm.left.trans yJ.right)
    | exit i=>exact next _ _ _ _ _ _ _ lb k' le aT sm.left
    | goto l=>exact next _ _ _ _ _ _ _ lb k' le aT sm.left
    | ret=>exact next _ _ _ _ _ _ _ lb k' le aT sm.left
    | panic ch=>exact next _ _ _ _ _ _ _ lb k' le aT sm.left
    | outgrown=>exact next _ _ _ _ _ _ _ lb k' le aT sm.left
 | .cond c x y,h0,E,ok,hg,F,hF,hr,B,s,h,β,w,a,K,Q,aj,k,next=>by
   simp only[jB]at k;split at k
   .rename_i b hb;have hc:a.eval c=.bool b:=(aO aj (hg.mono aj.ok.hle) (show gv s.gl []=true from rfl) hb).1.1
    refine wpIn_cond_split hc (λht=>jd x ok hg hF hr aj ((ah.1 k).1 ht) λe s' h' β' w' a' B1 lb k' le aT sm=>next _ _ _ _ _ _ _ lb k' le aT sm.left)
     (λhf=>jd y ok hg hF hr aj ((ah.1 k).2 hf) λe s' h' β' w' a' B1 lb k' le aT sm=>next _ _ _ _ _ _ _ lb k' le aT sm.right)
   .cases k
 | .block id c,h0,E,ok,hg,F,hF,hr,B,s,h,β,w,a,K,Q,aj,k,next=>by
   refine wpIn_block (jd c ok hg hF hr aj k λe s' h' β' w' a' B1 lb k' le aT sm=>?_)
   cases e with
   | normal=>exact next _ _ _ _ _ _ _ lb k' le aT sm
   | exit i=>
     simp only at k';simp only[Exit.inBlock];split at k'
     .rename_i hi;have:i=id:=iE hi;rw[if_pos this];exact next _ _ _ _ _ _ _ lb k' le aT sm
     .rename_i hi;have:¬i=id:=λhh=>by rw[hh]at hi;simp at hi
      rw[if_neg this];exact next _ _ _ _ _ _ _ lb k' le aT sm
   | goto l=>exact next _ _ _ _ _ _ _ lb k' le aT sm
   | ret=>exact next _ _ _ _ _ _ _ lb k' le aT sm
   | panic ch=>exact next _ _ _ _ _ _ _ lb k' le aT sm
   | outgrown=>exact next _ _ _ _ _ _ _ lb k' le aT sm
 | .loop c,h0,E,ok,hg,F,hF,hr,B,s,h,β,w,a,K,Q,aj,k,next=>by
   simp only[jB]at k;split at k
   .rename_i la _;obtain⟨h1,β1,le1,jA⟩:=Sat.vG aj la.IC la.wH la.nil la.uJ la.deep
    replace next:=λe s' h' β' w' a' B1 lb k' le aT sm=>next e s' h' β' w' a' B1 lb k' (le1.trans le) aT sm
    clear le1 aj;clear h
    rename FH=>h
    generalize vG s la.IC la.wH la.nil la.uJ la.deep=s at jA k;obtain⟨β2,aj⟩:=jA.zi la.pad;clear jA;have jA:=aj;clear aj;generalize zi la.pad s=s at jA k;have aj:=jA;clear jA;obtain⟨⟨x,i1,i2,i3⟩,k2⟩:=k;have good:∀x,la.inv x->yH (aP s.T) (kK (la.res x) s.T)=true/\JD (aP s.T) (eF la.drop (writes c)) (la.slots x)=true /\
     jB E c (rF (eF la.drop (writes c)) s (la.slots x) (la.res x)) (λe s'=>match e with
      | .normal=>match GX (vN la.can (oG la.ren s')) (keepR (aP s.T) (eF la.drop (writes c)) [] s.env) with
        | true=>∃x',la.inv x'/\I7 (vN la.can (oG la.ren s')) (la.slots x')/\rW (aP s.T) (vN la.can (oG la.ren s')).T=kK (la.res x') s.T/\la.meas x' < la.meas x
        | false=>False
      | e=>K e s'):=by
     intro x hx;have:=k2 x hx;split at this
     .cases this
     .rename_i hc;rw[aC,A8]at hc;exact⟨hc.1,hc.2,this⟩
    have D0:∀h' a',h.le h'->Same (writes c) a a'->∀t e,iK (qN (eF la.drop (writes c)) [] s.env) t=some ([],e)->∃z,a'.tmps[t]?=some z/\kC h' [] e z:=by
     intro h' a' le sm t e ht;obtain⟨_,hw,hl,_,hf⟩:=lF ht;obtain⟨z,q1,q2,_⟩:=aj.env t [] e hl;exact⟨z,by rw[sm t (by rw[lW,oI]at hw;exact hw.2)];exact q1,(kC.lY [] hf (q2 rfl)).mono le (Ext.refl _)⟩
    refine wpIn_loop_ghost (λn a' w'=>∃x h' β' B1,Base.leR E.rd B B1/\la.meas x=n/\la.inv x/\h.le h'/\Sat E.n B1 h0 (rF (eF la.drop (writes c)) s (la.slots x) (la.res x)) h' β' w' a'/\Same (writes c) a a') (la.meas x) ?_ ?_
    .obtain⟨g1,g2,_⟩:=good x i1;refine⟨x,h,_,B,.refl _,rfl,i1,FH.le.refl h,AP aj ?_ g1 g2 i2 (λp hp=>(tu p hp).2) (D0 h a (FH.le.refl h) (Same.refl _ _)),Same.refl _ _⟩
     rw[<-i3,jS,bD,Yy]
    .rintro n a' w' ⟨x,h',β',B1,lb,rfl,hx,le,aT,sm⟩;obtain⟨g1,g2,kk⟩:=good x hx;refine jd c ok hg hF hr aT kk λe s2 h2 β2 w2 a2 B2 BU k2 iF bG yJ=>?_
     cases e with
     | normal=>
       simp only at k2;split at k2
       .rename_i hR;obtain⟨x',j1,j2,j3,j4⟩:=k2;obtain⟨g1',g2',_⟩:=good x' j1;obtain⟨β30,ao7⟩:=bG.oG la.ren;obtain⟨β3,bG⟩:=ao7.vN la.can;refine⟨la.meas x',j4,x',h2,_,B2,lb.trans BU,rfl,j1,le.trans iF,AP bG j3 g1' g2' j2 (sZ hR) (D0 h2 a2 (le.trans iF) (sm.trans yJ)),sm.trans yJ⟩
       .cases k2
     | exit i=>exact next _ _ _ _ _ _ _ (lb.trans BU) k2 (le.trans iF) bG (sm.trans yJ)
     | goto l=>exact next _ _ _ _ _ _ _ (lb.trans BU) k2 (le.trans iF) bG (sm.trans yJ)
     | ret=>exact next _ _ _ _ _ _ _ (lb.trans BU) k2 (le.trans iF) bG (sm.trans yJ)
     | panic ch=>exact next _ _ _ _ _ _ _ (lb.trans BU) k2 (le.trans iF) bG (sm.trans yJ)
     | outgrown=>exact next _ _ _ _ _ _ _ (lb.trans BU) k2 (le.trans iF) bG (sm.trans yJ)
   .rename_i m _;refine wpIn_loop_rounds m ?_;have key:∀(m:Nat){B:Base}{s:St}{h:FH}{β:List RV}{w:World}{a:Act}{K:Exit->St->Prop}{Q:Exit->Act->World->Prop},Sat E.n B h0 s h β w a->Ll (jB E c) m s K ->
     (∀e s' h' β' w' a' B',Base.leR E.rd B B'->K e s'->h.le h'->Sat E.n B' h0 s' h' β' w' a'->Same (writes c) a a'->Q e a' w')->Code.roundsIn F n P c Q m a w:=by
     intro m
     induction m with
     | zero=>intro B s h β w a K Q aj k next;cases k
     | succ m ih=>
       intro B s h β w a K Q aj k next
       rw[roundsIn_succ];refine jd c ok hg hF hr aj k λe s2 h2 β2 w2 a2 B2 BU k2 iF bG yJ=>?_
       cases e with
       | normal=>exact ih bG k2 λe s3 h3 β3 w3 a3 B3 lb3 k3 le3 Rn sm3=>next e s3 h3 β3 w3 a3 B3 (BU.trans lb3) k3 (iF.trans le3) Rn (yJ.trans sm3)
       | exit i=>exact next _ _ _ _ _ _ _ BU k2 iF bG yJ
       | goto l=>exact next _ _ _ _ _ _ _ BU k2 iF bG yJ
       | ret=>exact next _ _ _ _ _ _ _ BU k2 iF bG yJ
       | panic ch=>exact next _ _ _ _ _ _ _ BU k2 iF bG yJ
       | outgrown=>exact next _ _ _ _ _ _ _ BU k2 iF bG yJ
    exact key m aj k next
   .cases k
 | .region id ops true,h0,E,ok,hg,F,hF,hr,B,s,h,β,w,a,K,Q,aj,k,next=>by
   simp only[jB]at k;split at k
   .cases k
   rename_i hnd;have et:tl ops=ops.toList:=by cases ops;rfl
   cases hma:CV E.cx (tl ops) with
   | true=>
     rw[hma]at k;simp only at k;cases hlx:afv ops with
     | false=>rw[hlx]at k;cases k
     | true=>
       rw[hlx]at k;exact aac ok hg hlx aj k hF (by rw[et]at hnd;exact hnd) λs' h' β' w' a' k' le aT sm=>next .normal _ _ _ _ _ _ (.refl _) k' le aT.clean sm
   | false=>
   rw[hma]at k;simp only at k;cases Ua:orB E.cx.rt (Oq E (tl ops)) with
   | true=>
     rw[Ua]at k;simp only at k;cases hd:AA ops with
     | none=>rw[hd]at k;cases k
     | some l=>
       rw[hd]at k;exact aad ok hg hd aj k hF (by rw[et]at hnd;exact hnd) λs' h' β' w' a' k' le aT sm=>next .normal _ _ _ _ _ _ (.refl _) k' le aT.clean sm
   | false=>
   rw[Ua]at k;simp only at k;cases hd:xM ops with
   | none=>rw[hd]at k;cases k
   | some l=>
     rw[hd]at k;exact Us ok hg hd aj k hF (by rw[et]at hnd;exact hnd) λs' h' β' w' a' k' le aT sm=>next .normal _ _ _ _ _ _ (.refl _) k' le aT.clean sm
 | .rangeFunc g ps IE c,h0,E,ok,hg,F,hF,hr,B,s,h,β,w,a,K,Q,aj,k,next=>by
   simp only[jB]at k;split at k
   .cases k
   rename_i hrd;have hF':=hr hrd;subst hF';split at k
   .rename_i P' ss L hgE;split at k
    .rename_i ra _;obtain⟨hP,k⟩:=k;have hP:=ok.prog _ hP;subst hP;have gv0:Gives P' h ss L (a.eval g):=(aO aj (hg.mono aj.ok.hle) (show gv s.gl []=true from rfl) hgE).1
     obtain⟨h1,β1,le1,bG⟩:=Sat.vG aj ra.IC ra.wH ra.nil ra.uJ ra.deep
     replace next:=λe s' h' β' w' a' B1 lb k' le aT sm=>next e s' h' β' w' a' B1 lb k' (le1.trans le) aT sm
     have gv1:=IB.zJ (x:=.seq P' ss L) le1 gv0;generalize vG s ra.IC ra.wH ra.nil ra.uJ ra.deep=s2 at bG k;refine aal (λc' hc' h0' E' B' s' h' β' w' a' K' Q' l ok' hg' he aT k' next'=>?_) ok hg bG gv1 k hrd next
     rcases hc' with rfl | rfl
     .exact jd _ ok' hg' (F:=Fence.wide.inRound l) (.inr ⟨l,rfl⟩) (λhh=>by rw[he]at hh;cases hh) aT k' next'
     .exact jd _ ok' hg' (F:=Fence.wide.inRound l) (.inr ⟨l,rfl⟩) (λhh=>by rw[he]at hh;cases hh) aT k' next'
    .cases k
   .cases k
 | .scope _,h0,E,ok,hg,F,hF,hr,B,s,h,β,w,a,K,Q,aj,k,next=>k.elim
 | .label _,h0,E,ok,hg,F,hF,hr,B,s,h,β,w,a,K,Q,aj,k,next=>k.elim
 | .goto _,h0,E,ok,hg,F,hF,hr,B,s,h,β,w,a,K,Q,aj,k,next=>k.elim
 | .refuse _,h0,E,ok,hg,F,hF,hr,B,s,h,β,w,a,K,Q,aj,k,next=>k.elim
abbrev resV(cx:Cx) (s:St) (r:ResultVar) (K:SV->Prop):Prop:=match r with
 | .tmp t=>match iK s.env t with
   | some ([],.one v)=>K v
   | _=>False
 | .cell p t=>match iK s.env p with
   | some ([],.one (.c q))=>vX cx s [] t q λe=>match e with
     | .one v=>K v
     | _=>False
   | _=>False
abbrev aap(cx:Cx) (s:St):List ResultVar->(List SV->Prop)->Prop
 | [],K=>K []
 | r :: l,K=>resV cx s r λv=>aap cx s l λvs=>K (v :: vs)
abbrev Rq(i:Nat):List (Nat×au)->Bool
 | []=>false
 | (j,_) :: l=>match Nat.beq i j with
   | true=>true
   | false=>Rq i l
abbrev selC(T:List (Gd×au)) (x:SC) (acc:List (Nat×au)):Option (SC×List (Nat×au)):=match x with
 | .v u=>some (.v u,acc)
 | .sl sh l=>some (.sl sh l,acc)
 | .fp sh d=>some (.fp sh d,acc)
 | .one sh d=>some (.one sh d,acc)
 | .abs x=>some (.abs x,acc)
 | .row i=>match eX T i with
   | some ([],.row t sh l)=>match Rq i acc with
     | true=>none
     | false=>some (.row (aP acc),snoc acc (i,.row t sh l))
   | some ([],.deep t sh l tt e so own hs)=>match Rq i acc with
     | true=>none
     | false=>some (.row (aP acc),snoc acc (i,.deep t sh l tt e so own hs))
   | some ([],.mp k sh l)=>match Rq i acc with
     | true=>none
     | false=>some (.row (aP acc),snoc acc (i,.mp k sh l))
   | _=>none
 | _=>none
abbrev Ox(T:List (Gd×au)):List SC->List (Nat×au)->Option (List SC×List (Nat×au))
 | [],acc=>some ([],acc)
 | x :: l,acc=>match selC T x acc with
   | some (y,acc)=>match Ox T l acc with
     | some (m,acc)=>some (y :: m,acc)
     | none=>none
   | none=>none
abbrev akS(T:List (Gd×au)) (v:SV) (acc:List (Nat×au)):Option (SV×List (Nat×au)):=match v with
 | .c x=>match selC T x acc with
   | some (y,acc)=>some (.c y,acc)
   | none=>none
 | .agg xs=>match Ox T xs acc with
   | some (ys,acc)=>some (.agg ys,acc)
   | none=>none
 | .dat sh d=>some (.dat sh d,acc)
 | .und=>none
abbrev Oy(T:List (Gd×au)):List SV->List (Nat×au)->Option (List SV×List (Nat×au))
 | [],acc=>some ([],acc)
 | x :: l,acc=>match akS T x acc with
   | some (y,acc)=>match Oy T l acc with
     | some (m,acc)=>some (y :: m,acc)
     | none=>none
   | none=>none
abbrev ao8:List SV->bg
 | [v]=>.one v
 | vs=>.iR vs
abbrev Xv:List (Nat×au)->List au
 | []=>[]
 | (_,r) :: l=>r :: Xv l
abbrev afB(T:List (Gd×au)) (vs:List SV) (R:List au->bg->Prop):Prop:=match Oy T vs []with
 | some (vs',acc)=>R (Xv acc) (ao8 vs')
 | none=>False
abbrev Ej(n:Nat):List SV->List (Nat×Gd×bg)
 | []=>[]
 | v :: l=>(n,[],.one v) :: Ej (Nat.succ n) l
abbrev frC(T:List (Gd×au)) (x:SC):Option (List (Gd×au)×SC):=match x with
 | .row i=>match eX T i with
   | some ([],.row _ sh l)=>some (dB T i ([],.gone),.sl sh l)
   | some ([],.deep _ sh l _ _ _ _ [])=>some (dB T i ([],.gone),.sl sh l)
   | some ([],.mp k sh l)=>some (dB T i ([],.gone),.one (.mp k sh) l)
   | _=>none
 | x=>some (T,x)
abbrev frL(T:List (Gd×au)):List SC->Option (List (Gd×au)×List SC)
 | []=>some (T,[])
 | x :: l=>match frC T x with
   | some (T,y)=>match frL T l with
     | some (T,m)=>some (T,y :: m)
     | none=>none
   | none=>none
abbrev frV(T:List (Gd×au)) (v:SV):Option (List (Gd×au)×SV):=match v with
 | .c x=>match frC T x with
   | some (T,y)=>some (T,.c y)
   | none=>none
 | .agg xs=>match frL T xs with
   | some (T,ys)=>some (T,.agg ys)
   | none=>none
 | v=>some (T,v)
abbrev coV(c:RC) (T:List (Gd×au)) (v:SV) (K:List (Gd×au)->SV->Prop):Prop:=match c with
 | .keep=>K T v
 | .data sh=>match frV T v with
   | some (T,v)=>match toDat sh v with
     | some d=>K T (iL sh d)
     | none=>False
   | none=>False
 | .row t sh=>match v with
   | .c (.v (.slice none 0 0))=>K (snoc T ([],.row t sh [])) (.c (.row (aP T)))
   | v=>K T v
 | .hd t sh rest=>match v with
   | .agg (x :: xs)=>match frL T xs with
     | some (T',ys)=>match takeD rest ys with
       | some (d,[])=>match flat rest d with
         | some zs=>match x with
           | .v (.slice none 0 0)=>K (snoc T' ([],.row t sh [])) (.agg (.row (aP T') :: zs))
           | x=>K T' (.agg (x :: zs))
         | none=>False
       | _=>False
     | none=>False
   | _=>False
abbrev coK:List RC->List (Gd×au)->List SV->(List (Gd×au)->List SV->Prop)->Prop
 | [],T,vs,K=>K T vs
 | _ :: _,T,[],K=>K T []
 | c :: cs,T,v :: vs,K=>coV c T v λT v=>coK cs T vs λT vs=>K T (v :: vs)
section
variable {B:Base}{h0:FH}{gl:List Bool}{w:World}
theorem aaq{T':List (Gd×au)} (ok:OK B h0 (eff gl T) h β w){x x':SC} (e:frC T x=some (T',x')) (c:dW h β x y):
 ∃h',h.le h'/\OK B h0 (eff gl T') h' β w/\dW h' β x' y:=by
 unfold frC at e;split at e
 .rename_i i;split at e
  .rename_i t sh l hT;cases e;have gu:(eff gl T)[i]?=some (.row t sh l):=by rw[jO,<-fM,hT];rfl
   obtain⟨h',le,ok',sl⟩:=ok.freeze gu (ok.row_of gu c);exact⟨h',le,by rw[fZ];exact ok',sl⟩
  .rename_i t sh l t2 e2 so own hT;cases e;have gu:(eff gl T)[i]?=some (.deep t sh l t2 e2 so own []):=by rw[jO,<-fM,hT];rfl
   obtain⟨us,hu,hd⟩:=ok.xB gu c;obtain⟨le,ok',vis⟩:=ok.xk gu rfl hu;exact⟨_,le,by rw[fZ];exact ok',hd.data le λb hb o z hz=>vis b hb o z hz⟩
  .rename_i k sh l hT;cases e;have gu:(eff gl T)[i]?=some (.mp k sh l):=by rw[jO,<-fM,hT];rfl
   have hu:=ok.ajj gu c;obtain⟨le,ok',vs⟩:=ok.xk gu rfl hu;exact⟨_,le,by rw[fZ];exact ok',Uf (β:=β) (ok.holds i _ _ gu hu) le λb hb o z hz=>vs b hb o z hz⟩
  .cases e
 .cases e;exact⟨h,FH.le.refl h,ok,c⟩
theorem Rt:∀{xs xs':List SC}{T T':List (Gd×au)}{h:FH}{β:List RV}{ys:List Value},OK B h0 (eff gl T) h β w->frL T xs=some (T',xs')->aQ (λx y=>dW h β x y/\dH y) xs ys ->
 ∃h',h.le h'/\OK B h0 (eff gl T') h' β w/\aQ (λx y=>dW h' β x y/\dH y) xs' ys
 | [],xs',T,T',h,β,[],ok,e,_=>by simp[frL]at e;obtain⟨rfl,rfl⟩:=e;exact⟨h,FH.le.refl h,ok,trivial⟩
 | x :: l,xs',T,T',h,β,y :: ys,ok,e,⟨c,r⟩=>by
   unfold frL at e;split at e
   .rename_i T1 x1 h1;split at e
    .rename_i T2 m h2;cases e;obtain⟨ha,le1,ok1,c1⟩:=aaq ok h1 c.1;obtain⟨hb,iF,ok2,c2⟩:=Rt ok1 h2 (r.mono λ_ _ q=>⟨q.1.mono le1 (Ext.refl β),q.2⟩)
     exact⟨hb,le1.trans iF,ok2,⟨c1.mono iF (Ext.refl β),c.2⟩,c2⟩
    .cases e
   .cases e
theorem akT{T':List (Gd×au)} (ok:OK B h0 (eff gl T) h β w){x x':SV} (e:frV T x=some (T',x')) (c:dA h β x y):
 ∃h',h.le h'/\OK B h0 (eff gl T') h' β w/\dA h' β x' y:=by
 unfold frV at e;split at e
 .split at e
  .rename_i T1 y1 h1;cases e;obtain⟨h',le,ok',c'⟩:=aaq ok h1 c.1;exact⟨h',le,ok',c',c.2⟩
  .cases e
 .split at e
  .rename_i T1 y1 h1;cases e;obtain⟨ys,rfl,a⟩:=c;obtain⟨h',le,ok',c'⟩:=Rt ok h1 a;exact⟨h',le,ok',ys,rfl,c'⟩
  .cases e
 .cases e;exact⟨h,FH.le.refl h,ok,c⟩
theorem akU(ok:OK B h0 (eff gl T) h β w){c:RC}{v:SV}{K:List (Gd×au)->SV->Prop} (k:coV c T v K) (cv:dA h β v y):
 ∃T' v' h' β',K T' v'/\h.le h'/\Ext β β'/\OK B h0 (eff gl T') h' β' w/\dA h' β' v' y:=by
 unfold coV at k;split at k
 .exact⟨T,v,h,β,k,FH.le.refl h,Ext.refl β,ok,cv⟩
 .split at k
  .rename_i T1 v1 h1;split at k
   .rename_i d hd;obtain⟨h',le,ok',c'⟩:=akT ok h1 cv;obtain⟨cs,rfl,rd⟩:=toDat_ok hd c';exact⟨T1,_,h',β,k,le,Ext.refl β,ok',jT _ rd⟩
   .cases k
  .cases k
 .rename_i t sh;split at k
  .obtain⟨e,_⟩:=cv;obtain⟨rfl,_⟩:=e;refine⟨_,_,h,β++[.row (.slice none 0 0)],k,FH.le.refl h,Ext.append _ _,?_,?_⟩
   .rw[iT,pK];exact ok.add (r:=.row t sh []) (v:=.row (.slice none 0 0)) (cO w none) (λb hb=>by rw[aZ]at hb;simp[aB]at hb) (.inl ⟨rfl,rfl⟩)
   .refine⟨⟨.row (.slice none 0 0),?_,rfl⟩,rfl,rfl⟩;have:aP T=β.length:=by rw[ok.len,jm,bD]
    rw[this];simp
  .exact⟨T,v,h,β,k,FH.le.refl h,Ext.refl β,ok,cv⟩
 .rename_i t sh rest;split at k
  .rename_i x xs;split at k
   .rename_i T' ys hfr;split at k
    .rename_i d htk;split at k
     .rename_i zs hfl;obtain⟨us,e0,a⟩:=cv;cases us with
      | nil=>exact a.elim
      | cons u us=>
        obtain⟨cu,a⟩:=a;obtain⟨h',le,ok',a'⟩:=Rt ok hfr a;obtain⟨c1,c2,e1,rd,a2⟩:=pz rest htk a';have ec:c2=[]:=by cases c2 with | nil=>rfl | cons _ _=>exact a2.elim
        subst ec;rw[Tj]at e1;subst e1;split at k
        .obtain⟨⟨rfl,_⟩,_⟩:=cu;refine⟨_,_,h',β++[.row (.slice none 0 0)],k,le,Ext.append _ _,?_,?_⟩
         .rw[iT,pK];exact ok'.add (r:=.row t sh []) (v:=.row (.slice none 0 0)) (cO w none) (λb hb=>by rw[aZ]at hb;simp[aB]at hb) (.inl ⟨rfl,rfl⟩)
         .refine⟨.slice none 0 0 :: us,e0,⟨⟨.row (.slice none 0 0),?_,rfl⟩,rfl,rfl⟩,zL rest hfl rd⟩;have:aP T'=β.length:=by rw[ok'.len,jm,bD]
          rw[this];simp
        .exact⟨T',_,h',β,k,le,Ext.refl β,ok',u :: us,e0,⟨cu.1.mono le (Ext.refl β),cu.2⟩,zL rest hfl rd⟩
     .cases k
    .cases k
   .cases k
  .cases k
theorem aar:∀{cs:List RC}{vs:List SV}{ys:List Value}{T:List (Gd×au)}{h:FH}{β:List RV}{K:List (Gd×au)->List SV->Prop},OK B h0 (eff gl T) h β w->coK cs T vs K->aQ (dA h β) vs ys ->
 ∃T' vs' h' β',K T' vs'/\h.le h'/\Ext β β'/\OK B h0 (eff gl T') h' β' w/\aQ (dA h' β') vs' ys
 | [],vs,ys,T,h,β,K,ok,k,a=>⟨T,vs,h,β,k,FH.le.refl h,Ext.refl β,ok,a⟩
 | _ :: _,[],ys,T,h,β,K,ok,k,a=>⟨T,[],h,β,k,FH.le.refl h,Ext.refl β,ok,a⟩
 | c :: cs,v :: vs,y :: ys,T,h,β,K,ok,k,⟨cv,a⟩=>by
   obtain⟨T1,v1,h1,β1,k1,le1,eb1,ok1,c1⟩:=akU ok k cv;obtain⟨T2,vs2,h2,β2,k2,iF,eb2,ok2,c2⟩:=aar ok1 k1 (a.mono λ_ _ q=>q.mono le1 eb1)
   exact⟨T2,v1 :: vs2,h2,β2,k2,le1.trans iF,λi u e=>eb2 i u (eb1 i u e),ok2,c1.mono iF eb2,c2⟩
end
abbrev wO(E:Env) (body:Code) (rs:List ResultVar) (args:List SV) (R:List au->bg->Prop):Prop:=
 jB E body { env:=Ej 0 args,T:=[],gl:=[],gs:=[] } λe s=>match e with
  | .normal=>aap E.cx s rs λvs=>coK E.rc s.T vs λT vs=>afB T vs R
  | .ret=>aap E.cx s rs λvs=>coK E.rc s.T vs λT vs=>afB T vs R
  | _=>False
section
variable {B:Base}{h0:FH}{h:FH}{β:List RV}{w:World}{T:List (Gd×au)}{gl:List Bool}
def au.isRow:au->Prop
 | .row _ _ _=>True
 | .deep _ _ _ _ _ _ _ _=>True
 | .mp _ _ _=>True
 | _=>False
structure vH (T:List au) (acc:List (Nat×au)):Prop where
 at_:∀p∈acc,T[p.1]?=some p.2/\p.2.isRow
 dup:∀(i j:Nat) p q,acc[i]?=some p->acc[j]?=some q->p.1=q.1->i=j
def lZ(β:List RV) (acc:List (Nat×au)):List RV:=acc.map λp=>β.getD p.1 .no
theorem zn:∀{acc:List (Nat×au)}{i:Nat},Rq i acc=false->∀p∈acc,p.1≠i
 | [],i,_,p,hp=>by simp at hp
 | (j,r) :: l,i,h,p,hp=>by
   simp only[Rq]at h;split at h
   .cases h
   .rename_i hij;rcases mM.1 hp with rfl | hp
    .exact λhh=>Yt hij hh.symm
    .exact zn h p hp
theorem vH.snoc{T:List au} (k:vH T acc){r:au} (hT:T[i]?=some r) (hr:r.isRow) (hm:Rq i acc=false):vH T (acc++[(i,r)]) where
 at_:=by
  intro p hp;rw[Et]at hp;rcases hp with hp | hp
  .exact k.at_ p hp
  .simp at hp;subst hp;exact⟨hT,hr⟩
 dup:=by
  intro a b p q ha hb e;rcases aG ha with⟨h1,ha⟩ | ⟨h1,rfl⟩<;>rcases aG hb with⟨h2,hb⟩ | ⟨h2,rfl⟩
  .exact k.dup a b p q ha hb e
  .exact(zn hm p (iJ ha) e).elim
  .exact(zn hm q (iJ hb) e.symm).elim
  .omega
theorem G6(β:List RV) (acc ext:List (Nat×au)):Ext (lZ β acc) (lZ β (acc++ext)):=by
 unfold lZ;rw[Qk];exact Ext.append _ _
theorem Ux(ok:OK B h0 (eff gl T) h β w){x x':SC}{acc':List (Nat×au)} (e:selC T x acc=some (x',acc')) (k:vH (eff gl T) acc) (c:dW h β x y):
 vH (eff gl T) acc'/\(∃ext,acc'=acc++ext)/\dW h (lZ β acc') x' y:=by
 unfold selC at e;split at e
 .cases e;exact⟨k,⟨[],by simp⟩,c⟩
 .cases e;exact⟨k,⟨[],by simp⟩,c⟩
 .cases e;exact⟨k,⟨[],by simp⟩,c⟩
 .cases e;exact⟨k,⟨[],by simp⟩,c⟩
 .cases e;exact⟨k,⟨[],by simp⟩,c⟩
 .rename_i i;split at e
  .rename_i t sh l hT;split at e
   .cases e
   .rename_i hm;cases e;have gu:(eff gl T)[i]?=some (.row t sh l):=by rw[jO,<-fM,hT];rfl
    rw[iT];refine⟨k.snoc gu trivial hm,⟨_,rfl⟩,?_⟩;obtain⟨u,c,cs⟩:=c;refine⟨u,?_,cs⟩;unfold lZ;rw[Qk,bD,Qd (by simp)]
    simp[c]
  .rename_i t sh l t2 e2 so own hs hT;split at e
   .cases e
   .rename_i hm;cases e;have gu:(eff gl T)[i]?=some (.deep t sh l t2 e2 so own hs):=by rw[jO,<-fM,hT];rfl
    rw[iT];refine⟨k.snoc gu trivial hm,⟨_,rfl⟩,?_⟩;obtain⟨u,c,cs⟩:=c;refine⟨u,?_,cs⟩;unfold lZ;rw[Qk,bD,Qd (by simp)]
    simp[c]
  .rename_i k2 sh l hT;split at e
   .cases e
   .rename_i hm;cases e;have gu:(eff gl T)[i]?=some (.mp k2 sh l):=by rw[jO,<-fM,hT];rfl
    rw[iT];refine⟨k.snoc gu trivial hm,⟨_,rfl⟩,?_⟩;obtain⟨u,c,cs⟩:=c;refine⟨u,?_,cs⟩;unfold lZ;rw[Qk,bD,Qd (by simp)]
    simp[c]
  .cases e
 .cases e
theorem Oz(ok:OK B h0 (eff gl T) h β w):∀{xs xs':List SC}{acc acc':List (Nat×au)}{ys:List Value},Ox T xs acc=some (xs',acc')->vH (eff gl T) acc->aQ (λx y=>dW h β x y/\dH y) xs ys ->
 vH (eff gl T) acc'/\(∃ext,acc'=acc++ext)/\aQ (λx y=>dW h (lZ β acc') x y/\dH y) xs' ys
 | [],xs',acc,acc',[],e,k,_=>by simp[Ox]at e;obtain⟨rfl,rfl⟩:=e;exact⟨k,⟨[],by simp⟩,trivial⟩
 | x :: l,xs',acc,acc',y :: ys,e,k,⟨c,r⟩=>by
   unfold Ox at e;split at e
   .rename_i x1 akV h1;split at e
    .rename_i m arB h2;cases e;obtain⟨k1,⟨ext1,rfl⟩,c1⟩:=Ux ok h1 k c.1;obtain⟨k2,⟨akW,rfl⟩,c2⟩:=Oz ok h2 k1 r;exact⟨k2,⟨ext1++akW,by rw[DJ]⟩,⟨c1.mono (FH.le.refl h) (G6 _ _ _),c.2⟩,c2⟩
    .cases e
   .cases e
theorem afC(ok:OK B h0 (eff gl T) h β w){x x':SV}{acc':List (Nat×au)} (e:akS T x acc=some (x',acc')) (k:vH (eff gl T) acc) (c:dA h β x y):
 vH (eff gl T) acc'/\(∃ext,acc'=acc++ext)/\dA h (lZ β acc') x' y:=by
 unfold akS at e;split at e
 .split at e
  .rename_i y1 akV h1;cases e;obtain⟨k1,e1,c1⟩:=Ux ok h1 k c.1;exact⟨k1,e1,c1,c.2⟩
  .cases e
 .split at e
  .rename_i y1 akV h1;cases e;obtain⟨vs,e0,a⟩:=c;obtain⟨k1,e1,c1⟩:=Oz ok h1 k a;exact⟨k1,e1,vs,e0,c1⟩
  .cases e
 .cases e;exact⟨k,⟨[],by simp⟩,c⟩
 .cases e
theorem OA(ok:OK B h0 (eff gl T) h β w):∀{xs xs':List SV}{acc acc':List (Nat×au)}{ys:List Value},Oy T xs acc=some (xs',acc')->vH (eff gl T) acc->aQ (dA h β) xs ys ->
 vH (eff gl T) acc'/\(∃ext,acc'=acc++ext)/\aQ (dA h (lZ β acc')) xs' ys
 | [],xs',acc,acc',[],e,k,_=>by simp[Oy]at e;obtain⟨rfl,rfl⟩:=e;exact⟨k,⟨[],by simp⟩,trivial⟩
 | x :: l,xs',acc,acc',y :: ys,e,k,⟨c,r⟩=>by
   unfold Oy at e;split at e
   .rename_i x1 akV h1;split at e
    .rename_i m arB h2;cases e;obtain⟨k1,⟨ext1,rfl⟩,c1⟩:=afC ok h1 k c;obtain⟨k2,⟨akW,rfl⟩,c2⟩:=OA ok h2 k1 r;exact⟨k2,⟨ext1++akW,by rw[DJ]⟩,dA.mono (FH.le.refl h) (G6 _ _ _) c1,c2⟩
    .cases e
   .cases e
theorem Lp:∀(l:List (Nat×au)),Xv l=l.map (·.2)
 | []=>rfl
 | (_,r) :: l=>by simp[Xv,Lp l]
theorem OK.pick{T:List au} (ok:OK B h0 T h β w) (k:vH T acc):OK B h0 (Xv acc) h (lZ β acc) w:=by
 have get:∀{i:Nat}{r:au}{v:RV},(Xv acc)[i]?=some r->(lZ β acc)[i]?=some v->∃p,acc[i]?=some p/\T[p.1]?=some r/\β[p.1]?=some v/\r.isRow:=by
  intro i r v e e';rw[Lp,Ec]at e;unfold lZ at e';rw[Ec]at e';cases hp:acc[i]? with
  | none=>rw[hp]at e;cases e
  | some p=>
    rw[hp]at e e';cases e;cases e';obtain⟨h1,h2⟩:=k.at_ p (iJ hp);have iq:p.1 < β.length:=by rw[ok.len];exact(eU.1 h1).1
    exact⟨p,rfl,h1,by simp[iq],h2⟩
 exact {
  below:=ok.below
  dr:=ok.dr
  len:=by rw[Lp];simp[lZ]
  holds:=by
   intro i r v e e';obtain⟨p,_,h1,h2,hr⟩:=get e e';have:=ok.holds _ _ _ h1 h2;cases r with
   | row _ _ _=>
     cases v with
     | row y=>exact this
     | _=>exact this.elim
   | deep _ _ _ _ _ _ _ _=>
     cases v with
     | deep y us=>exact this
     | _=>exact this.elim
   | mp _ _ _=>
     cases v with
     | row y=>exact this
     | _=>exact this.elim
   | P5 _ _ _ _=>exact hr.elim
   | it _ _ _ _=>exact hr.elim
   | Nl _ _ _ _=>exact hr.elim
   | Jl _ _ _ _=>exact hr.elim
   | blk _ _=>exact hr.elim
   | obj _ _ _=>exact hr.elim
   | gone=>exact hr.elim
  own:=by
   intro i r v b e l e' hb;obtain⟨p,_,h1,h2,_⟩:=get e e';exact ok.own _ r v b h1 l h2 hb
  inj:=by
   intro i j r r' u v b e l e' l' f f' hb hb';obtain⟨p,p1,h1,h2,_⟩:=get e f;obtain⟨q,q1,h3,h4,_⟩:=get e' f';exact k.dup i j p q p1 q1 (ok.inj _ _ r r' u v b h1 l h3 l' h2 h4 hb hb')
  hle:=ok.hle
  hw:=ok.hw
  hg:=ok.hg
  kn:=ok.kn }
end
def Lr(a:Act):ResultVar->Sem Value
 | .tmp t=>pure (a.tmps.getD t undef)
 | .cell p t=>do loadVar t (<-asAddr (a.tmps.getD p undef))
theorem afD(hc:bQ P cx.ti) (aj:Sat N B h0 s h β w a){r:ResultVar}{K:SV->Prop} (k:resV cx s r K):
 ∃v y,K v/\(Lr a r).run P w=.ok y w/\dA h β v y:=by
 unfold resV at k;split at k
 .rename_i t;split at k
  .rename_i v hv;obtain⟨z,q1,q2,_⟩:=aj.env _ _ _ hv;exact⟨v,z,k,by simp[Lr,q1],q2 rfl⟩
  .cases k
 .rename_i p t;split at k
  .rename_i q hq;obtain⟨z,q1,q2,_⟩:=aj.env _ _ _ hq;obtain⟨e,k1,k2⟩:=FT hc aj k;split at k1
   .rename_i v;obtain⟨y,r1,r2⟩:=k2 rfl z (q2 rfl).1;refine⟨v,y,k1,?_,r2⟩;have hz:∃ad,z=.pointer (some ad):=by
     have c:=(q2 rfl).1;cases q with
     | v x=>
       unfold vX at k;split at k
       .cases k
       .cases k
     | sl _ _=>
       unfold vX at k;split at k
       .cases k
       .cases k
     | fp _ _=>obtain⟨b,o,_,e,_⟩:=c;exact⟨_,e⟩
     | own _ _=>obtain⟨b,_,e⟩:=c;exact⟨_,e⟩
     | row _=>
       unfold vX at k;split at k
       .cases k
       .cases k
     | kE _ _ _ _=>obtain⟨_,g,_,_,e⟩:=c;exact⟨_,e⟩
     | mO _ _ _ _ _=>obtain⟨_,_,g,_,_,e⟩:=c;exact⟨_,e⟩
     | sub _ _=>
       unfold vX at k;split at k
       .cases k
       .cases k
     | one _ _=>
       unfold vX at k;split at k
       .cases k
       .cases k
     | abs _=>
       unfold vX at k;split at k
       .cases k
       .cases k
     | junk=>
       unfold vX at k;split at k
       .cases k
       .cases k
    obtain⟨ad,rfl⟩:=hz;have hg:a.tmps.getD p undef=.pointer (some ad):=by simp[q1]
    simp only[Lr];rw[hg];simpa[Instr.loadAt,Instr.sureAddr,asAddr]using r1 w (nU.refl w)
   .cases k1
  .cases k
theorem Uy{cx:Cx}{P:Program} (hc:bQ P cx.ti){N:Nat}{B:Base}{h0:FH}{s:St}{h:FH}{β:List RV}{w:World}{a:Act} (aj:Sat N B h0 s h β w a):∀{rs:List ResultVar}{K:List SV->Prop},aap cx s rs K ->
 ∃vs ys,K vs/\(rs.mapM (Lr a)).run P w=.ok ys w/\aQ (dA h β) vs ys
 | [],K,k=>⟨[],[],k,rfl,trivial⟩
 | r :: l,K,k=>by
   obtain⟨v,y,k1,r1,c1⟩:=afD hc aj k;obtain⟨vs,ys,k2,r2,c2⟩:=Uy hc aj k1;refine⟨v :: vs,y :: ys,k2,?_,c1,c2⟩;rw[List.mapM_cons];simp only[Sem.run_bind,Sem.run_pure];rw[r1];simp only[Result.andThen_ok];rw[r2];rfl
theorem Ru(fn:Func) (a:Act):results fn a.tmps=(do let vs <-fn.results.mapM (Lr a);pure (if h:vs.size=1 then vs[0] else .tuple vs):Sem Value):=by
 unfold results
 congr 1
theorem DX{fn:Func}{ys:List Value}
 (h:((tl fn.results).mapM (Lr a)).run P w=.ok ys w):
 (results fn a.tmps).run P w=.ok (match ys with | [y]=>y | _=>.tuple ys.toArray) w:=by
 rw[Ru];have e:(fn.results.mapM (Lr a)).run P w=.ok ys.toArray w:=by
  cases hr:fn.results with
  | mk l=>
    rw[hr]at h;have e2:=List.mapM_toArray (m:=Sem) (f:=(Lr a)) (l:=l);refine(oV (λx=>Sem.run P x w) e2).trans ?_
    simp only[Sem.run_map];rw[show Sem.run P (List.mapM (Lr a) l) w=_ from h];rfl
 simp only[Sem.run_bind];rw[e];simp only[Result.andThen_ok,Sem.run_pure]
 congr 1
 match ys with
 | []=>rfl
 | [y]=>rfl
 | _ :: _ :: _=>simp
abbrev jW(fn:Func):Code:=match fn.body with
 | some c=>c
 | none=>.skip
theorem DY{P:Program}{fn:Func}{tmps:Array Value}{R:Ending->World->Prop}{N:Nat}{B:World}{h0:FH}{s:St}{h:FH}{β:List RV}:∀(X:List Nat){w:World},X.Nodup->(∀D∈X,B.heap.size<=D/\w.heap[D]?=some (.deferred (some []))) ->
 Sat N (Base.of B) h0 s h β w { tmps:=tmps,defers:=[] }->(∀w',Sat N (Base.of B) h0 s h β w' { tmps:=tmps,defers:=[] }->∃v,(results fn tmps).run P w'=.ok v w'/\R (.returned v) w') ->
 LeavesInM Fence.wide 0 P fn tmps R (X.map (λD=>({ target:=.collected D,args:=#[] }:Deferred))) .returning w
 | [],w,_,_,aj,fin=>fin w aj
 | D :: X,w,hn,hx,aj,fin=>by
   obtain⟨h1,h2⟩:=hx D (by simp)
   have hn:=VY.1 hn;refine⟨λhh=>(by cases hh),.inl ⟨D,w.putObj D (.deferred none),rfl,run_takeDeferred h2,?_⟩⟩
   refine DY X hn.2 (λD' hD'=>?_) ⟨aj.ok.turn h1 (λk u hk=>hk.elim) h2 rfl,aj.env,aj.gs,Qq.nil rfl,aj.sz,aj.gb,aj.gT⟩ fin
   obtain⟨g1,g2⟩:=hx D' (by simp[hD'])
   refine⟨g1,(World.putObj_heap_other ?_).trans g2⟩;rintro rfl;exact hn.1 hD'
abbrev Ls:List Value->List SV
 | []=>[]
 | v :: l=>.c (.v v) :: Ls l
theorem Uz{h:FH}{β:List RV}:∀{l:List Value},(∀v∈l,FC v=true)->aQ (dA h β) (Ls l) l
 | [],_=>trivial
 | v :: l,hh=>⟨⟨⟨rfl,sD (hh v (by simp))⟩,sD (hh v (by simp))⟩,Uz λu hu=>hh u (by simp[hu])⟩
theorem aQ.append{α β:Type}{R:α->β->Prop}:∀{l l':List α}{m m':List β},aQ R l m->aQ R l' m'->aQ R (l++l') (m++m')
 | [],_,[],_,_,h=>h
 | _ :: _,_,_ :: _,_,⟨a,b⟩,h=>⟨a,aQ.append b h⟩
theorem Rw(ok:gY P E){fn:Func}{sv:List SV} (hf:P.funcs[f]?=some fn) (hb:fn.body=some body) (hn:fn.ntmps=E.n) (hle:Nat.ble (aP ct.ps+aP sv) E.n=true)
 (k:∀d,ct.pre d->∃ann,wO { E with ann:=ann } body (tl fn.results) (eF (fE ct.ps d) sv) λT e=>(ct.res d).1=T/\(ct.res d).2=e):CTS P E.cx.gd f sv ct:=by
 intro d vs suf h B hw hg hargs hys aH;obtain⟨ann,kk⟩:=k d aH;have ok:gY P { E with ann:=ann }:=⟨ok.prog,ok.hc,ok.ZV,ok.mixed,ok.ti,ok.ct,ok.ip,ok.sq,ok.sf⟩
 have hlen:∀{ss:List Sh}{d:bV ss},(fE ss d).length=aP ss:=by
  intro ss
  induction ss with
  | nil=>intro d;rfl
  | cons s l ih=>intro d;simp[fE,aP,ih]
 have hvl:vs.length=aP ct.ps:=by rw[<-hargs.length,hlen]
 have hvn:(vs++suf).length<=E.n:=by rw[kZ,hvl,<-hys.length,<-bD sv];exact qX hle
 replace hargs:aQ (dA h []) (eF (fE ct.ps d) sv) (vs++suf):=by
  rw[fV];exact hargs.append hys
 generalize eF (fE ct.ps d) sv=av at hargs kk;clear hvl hys;generalize vs++suf=vs at hargs hvn ⊢;refine callsIn_wide.1 (callsIn_of_wp_marks (F:=Fence.wide) (n:=0) hf hb trivial ?_);have aj:Sat E.n (Base.of B) h { env:=Ej 0 av,T:=[],gl:=[],gs:=[] } h [] B { tmps:=vs.toArray++Array.replicate (fn.ntmps - vs.toArray.size) undef,defers:=[] }:=by
  have look:∀{xs:List SV}{ys:List Value}{n t:Nat}{G:Gd}{e:bg},aQ (dA h []) xs ys->iK (Ej n xs) t=some (G,e)->∃y,G=[]/\n<=t/\ys[t - n]?=some y/\kC h [] e y:=by
   intro xs
   induction xs with
   | nil=>intro ys n t G e _ hh;simp[Ej,iK]at hh
   | cons x xs ih=>
     intro ys n t G e a hh;cases ys with
     | nil=>exact a.elim
     | cons y ys=>
       simp only[Ej]at hh;rw[aY]at hh;split at hh
       .rename_i hk;subst hk;cases hh;exact⟨y,rfl,qy _,by simp,a.1⟩
       .obtain⟨u,h1,h2,h3,h4⟩:=ih a.2 hh;refine⟨u,h1,by omega,?_,h4⟩
        rw[show t - n=(t - (n+1))+1 by omega]
        simpa using h3
  refine⟨⟨Bw.refl (Base.of B),qy _,rfl,λi r v e _=>by simp[eff]at e,λi r v b e _ _ _=>by simp[eff]at e,λi j r r' u v b e _ _ _ _ _ _ _=>by simp[eff]at e,FH.le.refl h,hw,λb o v hh=>.inl hh,λk o hh=>hh.elim⟩,?_,?_,Qq.nil rfl,?_,?_,?_⟩
  .intro t G e ht;obtain⟨y,rfl,h2,h3,h4⟩:=look hargs ht;simp only[Nat.sub_zero]at h3;refine⟨y,?_,λ_=>h4,λhh=>by cases hh⟩
   rw[Array.getElem?_append_left (by have:=(eU.1 h3).1;simpa using this)]
   simpa using h3
  .intro d i hi;cases hi
  .simp only[A86,IJ,Array.size_replicate];omega
  .intro t G e ht;obtain⟨y,rfl,_⟩:=look hargs ht;rfl
  .intro p hp;cases hp
 refine jd body ok hg (.inl rfl) (λ_=>rfl) aj kk λe s' h' β' w' a' B' lb k' le aT sm=>?_
 have fin:aap E.cx s' (tl fn.results) (λvs=>coK E.rc s'.T vs λT vs=>afB T vs λT e=>(ct.res d).1=T/\(ct.res d).2=e) ->
  LeavesInM Fence.wide 0 P fn a'.tmps (λen w'=>∃h' β y,en=.returned y/\OK (Base.of B) h (ct.res d).1 h' β w'/\kC h' β (ct.res d).2 y) a'.defers .returning w':=by
  intro kr;obtain⟨X,x1,x2,x3⟩:=aT.defers;rw[x1];have e0:B'.toWorld=B:=lb.1.1;have ea:B'.al=(Base.of B).al:=lb.1.2.1;have nd:∀D∈X,B.heap.size<=D/\w'.heap[D]?=some (.deferred (some [])):=λD hD=>⟨by have:=(x3 D hD).1;rw[ea]at this;exact this,aT.ok.kn D _ (x3 D hD).2⟩
  have jA:Sat E.n (Base.of B) h s' h' β' w' { tmps:=a'.tmps,defers:=[] }:=
   ⟨aT.ok.Ro (B':=Base.of B) (by rw[e0]) (by rw[ea]) (λk o hh=>hh.elim),aT.env,aT.gs,Qq.nil rfl,aT.sz,aT.gb,aT.gT⟩
  refine DY X x2 nd jA λw' aT=>?_
  replace kr:=kr
  obtain⟨vs,ys,k1,r1,c1⟩:=Uy ok.ti aT kr;obtain⟨T1,vs1,h1,β1,k1,le1,eb1,ok1,c1⟩:=aar aT.ok k1 c1;unfold afB at k1;split at k1
  .rename_i vs' acc hsel;obtain⟨e1,e2⟩:=k1;obtain⟨ka,_,c2⟩:=OA ok1 hsel ⟨λp hp=>by simp at hp,λi j p q hp=>by simp at hp⟩ c1
   refine⟨_,DX r1,h1,_,_,rfl,by rw[e1];exact ok1.pick ka,?_⟩
   rw[e2]
   match vs',ys,c2 with
   | [],[],c2=>exact⟨[],rfl,c2⟩
   | [v],[y],c2=>exact c2.1
   | _ :: _ :: _,y :: z :: ys,c2=>exact⟨_,rfl,c2⟩
  .cases k1
 cases e with
 | normal=>exact fin k'
 | ret=>exact fin k'
 | exit i=>exact k'.elim
 | goto l=>exact k'.elim
 | panic ch=>exact k'.elim
 | outgrown=>exact k'.elim
theorem aas(ok:gY P E){fn:Func}{suf:List Value} (afE:∀v∈suf,FC v=true) (hf:P.funcs[f]?=some fn) (hb:fn.body=some body) (hn:fn.ntmps=E.n) (hle:Nat.ble (aP ct.ps+aP suf) E.n=true)
 (k:∀d,ct.pre d->∃ann,wO { E with ann:=ann } body (tl fn.results) (eF (fE ct.ps d) (Ls suf)) λT e=>(ct.res d).1=T/\(ct.res d).2=e):CTX P E.cx.gd f suf ct:=by
 intro d vs h B hw hg hargs aH;have hl:aP (Ls suf)=aP suf:=by
  clear hle k afE
  induction suf with
  | nil=>rfl
  | cons v l ih=>simp[Ls,aP,ih]
 exact Rw ok hf hb hn (by rw[hl];exact hle) k d vs suf h B hw hg hargs (Uz afE) aH
theorem aat(ok:gY P E){fn:Func} (hf:P.funcs[f]?=some fn) (hb:fn.body=some body) (hn:fn.ntmps=E.n) (hle:Nat.ble (aP ct.ps) E.n=true)
 (k:∀d,ct.pre d->∃ann,wO { E with ann:=ann } body (tl fn.results) (fE ct.ps d) λT e=>(ct.res d).1=T/\(ct.res d).2=e):NQ P E.cx.gd f ct:=
 (aas (suf:=[]) ok (λv hv=>by cases hv) hf hb hn (by simpa[aP]using hle) (λd hd=>by
  obtain⟨ann,kk⟩:=k d hd;exact⟨ann,by rw[show eF (fE ct.ps d) (Ls [])=fE ct.ps d by rw[fV];simp[Ls]];exact kk⟩)).ok
abbrev lkC:List (Nat×CT)->Nat->Option CT
 | [],_=>none
 | (k,e) :: l,n=>cnd (Nat.beq k n) (some e) (lkC l n)
def Met(P:Program) (gd:Nat->Option (Sigma Sh.den)) (f:FuncId) (c:CT):Prop:=NQ P gd f c/\IU P f
def l7(P:Program) (gd:Nat->Option (Sigma Sh.den)):List (Nat×CT)->Prop
 | []=>True
 | (k,c) :: l=>Met P gd k c/\l7 P gd l
theorem l7.get{P:Program}{gd:Nat->Option (Sigma Sh.den)}:∀{l:List (Nat×CT)}{f:Nat}{c:CT},l7 P gd l->lkC l f=some c->Met P gd f c
 | [],_,_,_,e=>by simp[lkC]at e
 | (k,x) :: l,t,i,⟨h1,h2⟩,e=>by
   simp only[lkC,kJ]at e;split at e
   .rename_i hk;have:k=t:=by simpa using hk
    subst this;cases e;exact h1
   .exact l7.get h2 e
abbrev lkI:List (Nat×IP)->Nat->Option IP
 | [],_=>none
 | (k,e) :: l,n=>cnd (Nat.beq k n) (some e) (lkI l n)
def UA(P:Program) (gd:Nat->Option (Sigma Sh.den)) (f:FuncId) (c:IP):Prop:=WU P gd f c/\IU P f
def G7(P:Program) (gd:Nat->Option (Sigma Sh.den)):List (Nat×IP)->Prop
 | []=>True
 | (k,c) :: l=>UA P gd k c/\G7 P gd l
theorem G7.get{P:Program}{gd:Nat->Option (Sigma Sh.den)}:∀{l:List (Nat×IP)}{f:Nat}{c:IP},G7 P gd l->lkI l f=some c->UA P gd f c
 | [],_,_,_,e=>by simp[lkI]at e
 | (k,x) :: l,t,i,⟨h1,h2⟩,e=>by
   simp only[lkI,kJ]at e;split at e
   .rename_i hk;have:k=t:=by simpa using hk
    subst this;cases e;exact h1
   .exact G7.get h2 e
theorem Lu{il:List (Nat×IP)} (mx:P.follows .mixedOrders=true) (ti:bQ P cx.ti) (cm:l7 P cx.gd cl) (im:G7 P cx.gd il){fn:Func} (hf:P.funcs[f]?=some fn) (hb:fn.body=some (jW fn)) (hn:fn.ntmps=n) (hle:Nat.ble (aP ct.ps) n=true)
 (hs:fn.body.isSome=true) (hname:(fn.name == "runtime.NumGoroutine")=false)
 (k:∀d,ct.pre d->∃ann,wO { cx:=cx,n:=n,ct:=lkC cl,ann:=ann,ip:=lkI il,rc:=rc } (jW fn) (tl fn.results) (fE ct.ps d) λT e=>(ct.res d).1=T/\(ct.res d).2=e):Met P cx.gd f ct:=
 ⟨aat (E:={ cx:=cx,n:=n,ct:=lkC cl,ann:=λ_=>none,ip:=lkI il,rc:=rc }) ⟨λP' e=>(by cases e),λ_ _ _ e=>(by cases e),λ_ _ e=>(by cases e),mx,ti,λf c h=>⟨(cm.get h).1,(cm.get h).2⟩,λf c h=>⟨(im.get h).1,(im.get h).2⟩,λ_ _ e=>(by cases e),λ_ _ e=>(by cases e)⟩ hf hb hn hle k,⟨fn,hf,hs,hname⟩⟩
theorem akY(mx:P.follows .mixedOrders=true) (ti:bQ P cx.ti) (cm:l7 P cx.gd cl){fn:Func} (hf:P.funcs[f]?=some fn) (hb:fn.body=some (jW fn)) (hn:fn.ntmps=n) (hle:Nat.ble (aP ct.ps) n=true)
 (hs:fn.body.isSome=true) (hname:(fn.name == "runtime.NumGoroutine")=false)
 (k:∀d,ct.pre d->∃ann,wO { cx:=cx,n:=n,ct:=lkC cl,ann:=ann } (jW fn) (tl fn.results) (fE ct.ps d) λT e=>(ct.res d).1=T/\(ct.res d).2=e):Met P cx.gd f ct:=
 ⟨aat (E:={ cx:=cx,n:=n,ct:=lkC cl,ann:=λ_=>none }) ⟨λP' e=>(by cases e),λ_ _ _ e=>(by cases e),λ_ _ e=>(by cases e),mx,ti,λf c h=>⟨(cm.get h).1,(cm.get h).2⟩,λf c h=>(by cases h),λ_ _ e=>(by cases e),λ_ _ e=>(by cases e)⟩ hf hb hn hle k,⟨fn,hf,hs,hname⟩⟩
def aav(P:Program) (gd:Nat->Option (Sigma Sh.den)) (g:Nat) (m:MK):Prop:=
 ∀d h lb,m.pre d->aK gd h->capD h m.ss d lb->(m.f d).rel h (.func (.func g) #[] lb.toArray)
abbrev lkM:List (Nat×MK)->Nat->Option MK
 | [],_=>none
 | (k,e) :: l,n=>cnd (Nat.beq k n) (some e) (lkM l n)
def AU(P:Program) (gd:Nat->Option (Sigma Sh.den)):List (Nat×MK)->Prop
 | []=>True
 | (k,c) :: l=>aav P gd k c/\AU P gd l
theorem AU.get{P:Program}{gd:Nat->Option (Sigma Sh.den)}:∀{l:List (Nat×MK)}{f:Nat}{c:MK},AU P gd l->lkM l f=some c->aav P gd f c
 | [],_,_,_,e=>by simp[lkM]at e
 | (k,x) :: l,t,i,⟨h1,h2⟩,e=>by
   simp only[lkM,kJ]at e;split at e
   .rename_i hk;have:k=t:=by simpa using hk
    subst this;cases e;exact h1
   .exact AU.get h2 e
def LC(P:Program) (gd:Nat->Option (Sigma Sh.den)) (f:FuncId) (suf:List Value) (c:CT):Prop:=CTX P gd f suf c/\IU P f
abbrev lkH:List (Nat×Nat×CT)->Nat->Nat->Option CT
 | [],_,_=>none
 | (k,g,e) :: l,n,m=>cnd (dD (Nat.beq k n) (Nat.beq g m)) (some e) (lkH l n m)
def JG(P:Program) (gd:Nat->Option (Sigma Sh.den)):List (Nat×Nat×CT)->Prop
 | []=>True
 | (k,g,c) :: l=>LC P gd k [.func (.func g) #[] #[]] c/\JG P gd l
theorem JG.get{P:Program}{gd:Nat->Option (Sigma Sh.den)}:∀{l:List (Nat×Nat×CT)}{f g:Nat}{c:CT},JG P gd l->lkH l f g=some c->LC P gd f [.func (.func g) #[] #[]] c
 | [],_,_,_,_,e=>by simp[lkH]at e
 | (k,g',x) :: l,t,g,i,⟨h1,h2⟩,e=>by
   simp only[lkH,kJ,aC]at e;split at e
   .rename_i hk;rw[A8]at hk;have e1:k=t:=iE hk.1;have e2:g'=g:=iE hk.2;subst e1;subst e2;cases e;exact h1
   .exact JG.get h2 e
abbrev aaw(P:Program) (cx:Cx) (n:Nat) (cl:List (Nat×CT)) (il:List (Nat×IP)) (hl:List (Nat×Nat×CT)) (ml:List (Nat×MK)) (rc:List RC) (lits:List Nat) (ann:Nat->Option (St->kH)):Env:=
 { cx:=cx,n:=n,ct:=lkC cl,ann:=ann,ip:=lkI il,rc:=rc,lits:=lits,P:=some P,hc:=lkH hl,ZV:=lkM ml }
theorem UC{il:List (Nat×IP)}{hl:List (Nat×Nat×CT)}{lits:List Nat}{ann:Nat->Option (St->kH)}
 (mx:P.follows .mixedOrders=true) (ti:bQ P cx.ti) (cm:l7 P cx.gd cl) (im:G7 P cx.gd il) (hm:JG P cx.gd hl) (mm:AU P cx.gd ml):gY P (aaw P cx n cl il hl ml rc lits ann) where
 prog:=λP' e=>by cases e;rfl
 hc:=λf g c e=>hm.get e
 ZV:=λg fx e=>mm.get e
 mixed:=mx
 ti:=ti
 ct:=λf c h=>cm.get h
 ip:=λf c h=>im.get h
 sq:=λf c h=>by cases h
 sf:=λf c h=>by cases h
theorem oP{il:List (Nat×IP)}{hl:List (Nat×Nat×CT)}{lits:List Nat}{suf:List Value}
 (mx:P.follows .mixedOrders=true) (ti:bQ P cx.ti) (cm:l7 P cx.gd cl) (im:G7 P cx.gd il) (hm:JG P cx.gd hl) (mm:AU P cx.gd ml){fn:Func} (hf:P.funcs[f]?=some fn) (hb:fn.body=some (jW fn)) (hn:fn.ntmps=n)
 (hle:Nat.ble (aP ct.ps+aP suf) n=true) (hs:fn.body.isSome=true) (hname:(fn.name == "runtime.NumGoroutine")=false) (afE:∀v∈suf,FC v=true)
 (k:∀d,ct.pre d->∃ann,wO (aaw P cx n cl il hl ml rc lits ann) (jW fn) (tl fn.results) (eF (fE ct.ps d) (Ls suf)) λT e=>(ct.res d).1=T/\(ct.res d).2=e):LC P cx.gd f suf ct:=
 ⟨aas (E:=aaw P cx n cl il hl ml rc lits λ_=>none) (UC mx ti cm im hm mm) afE hf hb hn hle k,⟨fn,hf,hs,hname⟩⟩
def apc(P:Program) (gd:Nat->Option (Sigma Sh.den)) (f:FuncId) (q:SQ):Prop:=(∀L,CTS P gd f [.c (.abs (.seq P q.ss L))] (q.ct L))/\IU P f
abbrev lkQ:List (Nat×SQ)->Nat->Option SQ
 | [],_=>none
 | (k,e) :: l,n=>cnd (Nat.beq k n) (some e) (lkQ l n)
def afF(P:Program) (gd:Nat->Option (Sigma Sh.den)):List (Nat×SQ)->Prop
 | []=>True
 | (k,c) :: l=>apc P gd k c/\afF P gd l
theorem afF.get{P:Program}{gd:Nat->Option (Sigma Sh.den)}:∀{l:List (Nat×SQ)}{f:Nat}{c:SQ},afF P gd l->lkQ l f=some c->apc P gd f c
 | [],_,_,_,e=>by simp[lkQ]at e
 | (k,x) :: l,t,i,⟨h1,h2⟩,e=>by
   simp only[lkQ,kJ]at e;split at e
   .rename_i hk;have:k=t:=by simpa using hk
    subst this;cases e;exact h1
   .exact afF.get h2 e
def afG(P:Program) (gd:Nat->Option (Sigma Sh.den)) (f:FuncId) (q:SF):Prop:=(∀pre g,CTS P gd f [.c (.abs (.clo P q.ss q.r pre g))] (q.ct pre g))/\IU P f
abbrev lkF:List (Nat×SF)->Nat->Option SF
 | [],_=>none
 | (k,e) :: l,n=>cnd (Nat.beq k n) (some e) (lkF l n)
def Rx(P:Program) (gd:Nat->Option (Sigma Sh.den)):List (Nat×SF)->Prop
 | []=>True
 | (k,c) :: l=>afG P gd k c/\Rx P gd l
theorem Rx.get{P:Program}{gd:Nat->Option (Sigma Sh.den)}:∀{l:List (Nat×SF)}{f:Nat}{c:SF},Rx P gd l->lkF l f=some c->afG P gd f c
 | [],_,_,_,e=>by simp[lkF]at e
 | (k,x) :: l,t,i,⟨h1,h2⟩,e=>by
   simp only[lkF,kJ]at e;split at e
   .rename_i hk;have:k=t:=by simpa using hk
    subst this;cases e;exact h1
   .exact Rx.get h2 e
abbrev Ry(P:Program) (cx:Cx) (n:Nat) (cl:List (Nat×CT)) (ml:List (Nat×MK)) (fl:List (Nat×SF)) (rc:List RC) (ann:Nat->Option (St->kH)):Env:=
 { cx:=cx,n:=n,ct:=lkC cl,ann:=ann,rc:=rc,P:=some P,ZV:=lkM ml,sf:=lkF fl }
theorem LD{fl:List (Nat×SF)}{ann:Nat->Option (St->kH)}
 (mx:P.follows .mixedOrders=true) (ti:bQ P cx.ti) (cm:l7 P cx.gd cl) (mm:AU P cx.gd ml) (fm:Rx P cx.gd fl):gY P (Ry P cx n cl ml fl rc ann) where
 prog:=λP' e=>by cases e;rfl
 hc:=λf g c e=>by cases e
 ZV:=λg fx e=>mm.get e
 mixed:=mx
 ti:=ti
 ct:=λf c h=>cm.get h
 ip:=λf c h=>by cases h
 sq:=λf c h=>by cases h
 sf:=λf c h=>fm.get h
theorem akZ{fl:List (Nat×SF)}{q:SF}
 (mx:P.follows .mixedOrders=true) (ti:bQ P cx.ti) (cm:l7 P cx.gd cl) (mm:AU P cx.gd ml) (fm:Rx P cx.gd fl){fn:Func} (hf:P.funcs[f]?=some fn) (hb:fn.body=some (jW fn)) (hn:fn.ntmps=n)
 (hle:∀pre g,Nat.ble (aP (q.ct pre g).ps+1) n=true) (hs:fn.body.isSome=true) (hname:(fn.name == "runtime.NumGoroutine")=false)
 (k:∀pre g d,(q.ct pre g).pre d->∃ann,wO (Ry P cx n cl ml fl rc ann) (jW fn) (tl fn.results) (eF (fE (q.ct pre g).ps d) [.c (.abs (.clo P q.ss q.r pre g))]) λT e=>((q.ct pre g).res d).1=T/\((q.ct pre g).res d).2=e):afG P cx.gd f q:=
 ⟨λpre g=>Rw (E:=Ry P cx n cl ml fl rc λ_=>none) (LD mx ti cm mm fm) hf hb hn (hle pre g) (k pre g),⟨fn,hf,hs,hname⟩⟩
theorem afH{fl:List (Nat×SF)}
 (mx:P.follows .mixedOrders=true) (ti:bQ P cx.ti) (cm:l7 P cx.gd cl) (mm:AU P cx.gd ml) (fm:Rx P cx.gd fl){fn:Func} (hf:P.funcs[f]?=some fn) (hb:fn.body=some (jW fn)) (hn:fn.ntmps=n)
 (hle:Nat.ble (aP ct.ps) n=true) (hs:fn.body.isSome=true) (hname:(fn.name == "runtime.NumGoroutine")=false)
 (k:∀d,ct.pre d->∃ann,wO (Ry P cx n cl ml fl rc ann) (jW fn) (tl fn.results) (fE ct.ps d) λT e=>(ct.res d).1=T/\(ct.res d).2=e):Met P cx.gd f ct:=
 ⟨aat (E:=Ry P cx n cl ml fl rc λ_=>none) (LD mx ti cm mm fm) hf hb hn hle k,⟨fn,hf,hs,hname⟩⟩
theorem LC.met{gd:Nat->Option (Sigma Sh.den)}{c:CT} (h:LC P gd f [] c):Met P gd f c:=⟨h.1.ok,h.2⟩
theorem eG(ti:bQ P cx.ti) (cm:l7 P cx.gd cl){fn:Func} (hf:P.funcs[f]?=some fn)
 (k:∀d,ct.pre d->∃ann,wO (aaw P cx n cl [] [] [] rc [] ann) (jW fn) (tl fn.results) (eF (fE ct.ps d) (Ls [])) λT e=>(ct.res d).1=T/\(ct.res d).2=e)
 (mx:P.follows .mixedOrders=true:=by kernel_rfl) (hb:fn.body=some (jW fn):=by kernel_rfl) (hn:fn.ntmps=n:=by rfl) (hle:Nat.ble (aP ct.ps+aP ([]:List Value)) n=true:=by kernel_rfl)
 (hs:fn.body.isSome=true:=by kernel_rfl) (hname:(fn.name == "runtime.NumGoroutine")=false:=by kernel_rfl):Met P cx.gd f ct:=
 (oP (il:=[]) (hl:=[]) (ml:=[]) (lits:=[]) (suf:=[]) mx ti cm trivial trivial trivial hf hb hn hle hs hname (by simp) k).met
theorem kL(ti:bQ P cx.ti) (cm:l7 P cx.gd cl){fn:Func} (hf:P.funcs[f]?=some fn)
 (k:∀d,ct.pre d->∃ann,wO { cx:=cx,n:=n,ct:=lkC cl,ann:=ann } (jW fn) (tl fn.results) (fE ct.ps d) λT e=>(ct.res d).1=T/\(ct.res d).2=e)
 (mx:P.follows .mixedOrders=true:=by kernel_rfl) (hb:fn.body=some (jW fn):=by kernel_rfl) (hn:fn.ntmps=n:=by rfl) (hle:Nat.ble (aP ct.ps) n=true:=by kernel_rfl)
 (hs:fn.body.isSome=true:=by kernel_rfl) (hname:(fn.name == "runtime.NumGoroutine")=false:=by kernel_rfl):Met P cx.gd f ct:=
 akY mx ti cm hf hb hn hle hs hname k
end Go.mQ
