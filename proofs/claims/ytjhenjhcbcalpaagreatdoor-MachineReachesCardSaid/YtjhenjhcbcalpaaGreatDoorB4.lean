/- Part 4 of the proof. Conditions: the rows'. -/
import Derived.Test.YtjhenjhcbcalpaaGreatDoorB3
import Derived.Deep.LoopGhost
set_option linter.unusedSimpArgs false
set_option linter.unusedVariables false
set_option maxRecDepth 1000000
set_option maxHeartbeats 8000000
namespace Go.l9
open Go Go.RowKit
variable {P:Program}{N i n:Nat}{B:Base}{h0 h:FH}{w A:World}{a b:Act}{o:Oper}{K:St->Prop}{s:St}{β β':List RV}{ops:Array Oper}{f:FuncId}{Q:Exit->Act->World->Prop}{T:List (Gd×ak)}{body:Code}{y:Value}{acc:List (Nat×ak)}{cx:Cx}{ct:CT}{cl:List (Nat×CT)}{ml:List (Nat×MK)}
structure LA where
 α:Type
 slots:α->List (Nat×SV)
 res:α->List (Nat×ak)
 inv:α->Prop
 meas:α->Nat
 ren:List (Nat×Nat):=[]
 drop:List Nat:=[]
 nil:List (Nat×TypeId×Sh):=[]
 GH:List Nat:=[]
 pad:Nat:=0
 ug:List Nat:=[]
 deep:List (Nat×TypeId×Sh×Nat):=[]
 sD:List (Nat×Nat×TypeId×Sh):=[]
 can:List (Nat×Loc):=[]
structure RA where
 α:Type
 res:α->List (Nat×ak)
 inv:Nat->α->Prop
 drop:List Nat:=[]
 nil:List (Nat×TypeId×Sh):=[]
 GH:List Nat:=[]
 ug:List Nat:=[]
 deep:List (Nat×TypeId×Sh×Nat):=[]
 sD:List (Nat×Nat×TypeId×Sh):=[]
inductive jK where
 | inv (a:LA)
 | gen (a:LA) (gh:a.α->Nat)
 | ET (n:Nat)
 | rng (a:RA)
 | cut (a:LA)
inductive RC where
 | keep
 | data (s:Sh)
 | row (t:TypeId) (s:Sh)
 | hd (t:TypeId) (s r:Sh)
variable {rc:List RC}
structure SQ where
 ss:List Sh
 ct:List (cO ss)->CT
structure SF where
 ss:List Sh
 r:Sh
 ct:(cO ss->Prop)->(cO ss->r.den)->CT
structure Env where
 cx:Cx
 n:Nat
 ct:Nat->Option CT
 ann:Nat->Option (St->jK)
 ip:Nat->Option IP:=λ_=>none
 rc:List RC:=[]
 lits:List Nat:=[]
 P:Option Program:=none
 rd:Bool:=false
 hc:Nat->Nat->Option CT:=λ_ _=>none
 Yx:Nat->Option MK:=λ_=>none
 sq:Nat->Option SQ:=λ_=>none
 sf:Nat->Option SF:=λ_=>none
variable {E:Env}
abbrev MS:List SV->List Nat
 | []=>[]
 | v :: r=>match v with
   | .c (.row i)=>i :: MS r
   | .agg xs=>RS xs (MS r)
   | _=>MS r
abbrev Yy(E:Env) (s:St) (G:Gd) (f:Nat) (args:List Operand):List Nat:=match G with
 | _ :: _=>[]
 | []=>match E.ct f with
   | none=>[]
   | some cc=>match uK E.cx s [] args with
     | none=>[]
     | some vs=>match allL noRow vs with
       | true=>[]
       | false=>match G6 s [] vs with
         | none=>[]
         | some bs=>match yM cc.ps bs with
           | none=>[]
           | some dd=>match dG (JB (cc.res dd).2) (allL vN (cc.res dd).1) with
             | true=>[]
             | false=>MS vs
abbrev ajb(E:Env) (s:St) (G:Gd) (ps:List (Nat×Operand)):List Nat:=match G with
 | _ :: _=>[]
 | []=>rowsOf E.cx s ps
abbrev Yz(E:Env) (s:St) (p x:Operand):List Nat:=match bT E.cx s [] x with
 | some (.one v)=>match MS [v]with
   | []=>[]
   | i :: r=>match bT E.cx s [] p with
     | some (.one (.c (.own q _)))=>match eX s.T q with
       | some ([],.obj _ _ _)=>i :: r
       | _=>[]
     | some (.one (.c (.jU _ _ _ _)))=>i :: r
     | _=>[]
 | _=>[]
abbrev EU:List Operand->Option (List Operand×Nat)
 | []=>none
 | x :: l=>match l with
   | []=>match x with
     | .func g=>some ([],g)
     | _=>none
   | _ :: _=>match EU l with
     | some (m,g)=>some (x :: m,g)
     | none=>none
theorem EW{a:Act}:∀{l xs:List Operand}{g:Nat},EU l=some (xs,g)->l.map a.eval=xs.map a.eval++[.func (.func g) #[] #[]]
 | [],_,_,h=>by simp[EU]at h
 | [x],xs,g,h=>by
   simp only[EU]at h;split at h
   .cases h;rfl
   .cases h
 | x :: y :: l,xs,g,h=>by
   simp only[EU]at h;split at h
   .rename_i m g' hm;cases h;have:=EW (a:=a) (l:=y :: l) hm;simp only[UO]at this ⊢;rw[this];rfl
   .cases h
abbrev EX:List Operand->Option (List Operand×Operand)
 | []=>none
 | x :: l=>match l with
   | []=>some ([],x)
   | _ :: _=>match EX l with
     | some (m,g)=>some (x :: m,g)
     | none=>none
theorem EY{a:Act}:∀{l xs:List Operand}{g:Operand},EX l=some (xs,g)->l.map a.eval=xs.map a.eval++[a.eval g]
 | [],_,_,h=>by simp[EX]at h
 | [x],xs,g,h=>by
   simp only[EX]at h;cases h;rfl
 | x :: y :: l,xs,g,h=>by
   simp only[EX]at h;split at h
   .rename_i m g' hm;cases h;have:=EY (a:=a) (l:=y :: l) hm;simp only[UO]at this ⊢;rw[this];rfl
   .cases h
abbrev YA(ss ss':List Sh) (L:List (cO ss)):Option (List (cO ss')):=if h:ss=ss' then some (h▸L) else none
theorem YB{ss ss':List Sh}{L:List (cO ss)}{M:List (cO ss')} (h:YA ss ss' L=some M):∃e:ss=ss',e▸L=M:=by
 unfold YA at h;split at h
 .rename_i e;cases h;exact⟨e,rfl⟩
 .cases h
abbrev hcL(E:Env) (f:Nat) (args:List Operand):Option (CT×List Operand):=match EU args with
 | some (xs,g)=>match E.hc f g with
   | some ct=>some (ct,xs)
   | none=>none
 | none=>none
abbrev JV(E:Env) (ops:List Oper) (o:Oper) (s:St) (K:St->Prop):Prop:=match lV E.n o.dst with
 | false=>False
 | true=>uG E.lits s ops o.guard λG s=>match o.op with
   | .alloc t=>Jw E.cx s G o.dst t K
   | .box t x=>adH E.cx s G o.dst t x K
   | .buildSlice t n ps=>mZ E.cx (nJ s (ajb E s G (tl ps))) G o.dst t n (tl ps) K
   | .makeSlice t l c=>RG E.cx s G o.dst t l c K
   | .store t p x=>match G with
     | []=>match adU E.cx s o.dst t p x K with
       | some q=>q
       | none=>Jy E.cx (nJ s (Yz E s p x)) o.dst t p x K
     | _ :: _=>False
   | .call c=>match c.callee with
     | .value (.func f)=>match hcL E f (tl c.args) with
       | some (ct,xs)=>jq E.cx (λ_=>some ct) s G o.dst f xs K
       | none=>jq E.cx E.ct (nJ s (Yy E s G f (tl c.args))) G o.dst f (tl c.args) K
     | .builtin .append=>match G with
       | []=>match tl c.args with
         | [x,y]=>match tl c.argTypes with
           | [t,t']=>match Nat.beq t t' with
             | true=>match Sl s x λs=>vM E.cx s o.dst t x y K with
               | some q=>q
               | none=>vM E.cx s o.dst t x y K
             | false=>False
           | _=>False
         | _=>False
       | _ :: _=>False
     | .builtin .copy=>match G with
       | []=>match tl c.args with
         | [x,y]=>match tl c.argTypes with
           | [t,_]=>Sm E.cx s o.dst t x y K
           | _=>False
         | _=>False
       | _ :: _=>False
     | .builtin .min=>match G with
       | []=>match tl c.args with
         | [x,y]=>adX E.cx s o.dst x y K
         | _=>False
       | _ :: _=>False
     | .builtin .max=>match G with
       | []=>match tl c.args with
         | [x,y]=>Pz E.cx s o.dst x y K
         | _=>False
       | _ :: _=>False
     | _=>nP E.cx s G o λe=>K (s.put o.dst G e)
   | _=>nP E.cx s G o λe=>K (s.put o.dst G e)
abbrev jf(E:Env) (ops:List Oper) (o:Oper) (s:St) (K:St->Prop):Prop:=match apP E.cx s o K with
 | some p=>match lV E.n o.dst with
   | false=>False
   | true=>p
 | none=>JV E ops o s K
structure gU (P:Program) (E:Env):Prop where
 prog:∀P',E.P=some P'->P'=P
 hc:∀f g c,E.hc f g=some c->CTX P E.cx.gd f [.func (.func g) #[] #[]] c/\GV P f
 Yx:∀g m,E.Yx g=some m->∀d h lb,m.pre d->aI E.cx.gd h->capD h m.ss d lb->(m.f d).rel h (.func (.func g) #[] lb.toArray)
 mixed:P.follows .mixedOrders=true
 ti:bV P E.cx.ti
 ct:∀f c,E.ct f=some c->Md P E.cx.gd f c/\∃fn,P.funcs[f]?=some fn/\fn.body.isSome=true/\(fn.name == "runtime.NumGoroutine")=false
 ip:∀f c,E.ip f=some c->Vr P E.cx.gd f c/\∃fn,P.funcs[f]?=some fn/\fn.body.isSome=true/\(fn.name == "runtime.NumGoroutine")=false
 sq:∀f q,E.sq f=some q->(∀L,CTS P E.cx.gd f [.c (.abs (.seq P q.ss L))] (q.ct L))/\GV P f
 sf:∀f q,E.sf f=some q->(∀pre g,CTS P E.cx.gd f [.c (.abs (.clo P q.ss q.r pre g))] (q.ct pre g))/\GV P f
theorem gJ.cast{b b':Bool} (e:b=b') (h':gJ P N B h0 h w a o b' K):gJ P N B h0 h w a o b K:=by rw[e];exact h'
theorem ad5(s:St) (i:Nat):(MF s i).gl=s.gl:=by
 unfold MF;split<;>rfl
theorem qX:∀{l:List Nat}{s:St},(nJ s l).gl=s.gl
 | [],_=>rfl
 | i :: l,s=>by
   show(nJ (MF s i) l).gl=s.gl;rw[qX,ad5]
theorem gJ.le{P:Program}{N:Nat}{B:Base}{h0 h h':FH}{w:World}{a:Act}{o:Oper}{b:Bool}{K:St->Prop} (le:h.le h') (k:gJ P N B h0 h' w a o b K):gJ P N B h0 h w a o b K:=
 λNx Q next=>k Nx Q λs' h2 β' w' v k' le' q aj=>next s' h2 β' w' v k' (le.trans le') q aj
theorem VO(ok:gU P E) (aj:Sat E.n B h0 s h β w a) (hg:aI E.cx.gd h)
 (k:JV E (tl ops) o s K):gJ P E.n B h0 h w a o (Region.wanted o (yielded ops a.tmps)) K:=by
 unfold JV at k;split at k
 .cases k
 rename_i hd;obtain⟨G,s',k,aT,hw,hG⟩:=vK aj k;refine gJ.cast hw ?_;split at k
 .rename_i t ho;exact Ph ok.ti aT hG hd ho k
 .rename_i t x ho;exact XJ ok.ti aT hg hG hd ho k
 .rename_i t n ps ho;obtain⟨h',le,bH⟩:=aT.GH (l:=ajb E s' G (tl ps));have:=tu ok.ti bH (hg.mono le) (by rw[qX];exact hG) hd ho k
  rw[qX]at this;exact gJ.le le this
 .rename_i t l c ho;exact Vp ok.ti aT hg hG hd ho k
 .rename_i t p x ho;split at k
  .split at k
   .rename_i q hq;exact Yb ok.ti aT hg hd ho hq k
   .obtain⟨h',le,bH⟩:=aT.GH (l:=Yz E s' p x);have:=Pj ok.ti bH (hg.mono le) hd ho k;rw[qX]at this;exact gJ.le le this
  .cases k
 .rename_i c ho;split at k
  .rename_i f cZ;split at k
   .rename_i ct xs hl;unfold hcL at hl;split at hl
    .rename_i xs' g hlf;split at hl
     .rename_i ct' hct;cases hl;obtain⟨hc,hf⟩:=ok.hc f g ct hct;have k':jq E.cx (λf'=>if f'=f then some ct else none) s' G o.dst f xs K:=by
       unfold jq at k ⊢;simpa using k
      exact rX (suf:=[.func (.func g) #[] #[]]) (λf' c' e=>by
       split at e
       .rename_i hff;cases e;rw[hff];exact hc
       .cases e) aT hg hG hd ho cZ (λ_=>rfl) (by
       have:=EW (a:=a) hlf;rw[<-this];cases c.args;simp) hf k'
     .cases hl
    .cases hl
   .obtain⟨h',le,bH⟩:=aT.GH (l:=Yy E s' G f (tl c.args));refine gJ.le le ?_;rw[<-qX (l:=Yy E s' G f (tl c.args)) (s:=s')]at hG ⊢;generalize nJ s' (Yy E s' G f (tl c.args))=s' at k bH hG ⊢;unfold jq at k;cases hct:E.ct f with
    | none=>rw[hct]at k;cases k
    | some cc=>exact Vq (λf c e=>(ok.ct f c e).1) bH (hg.mono le) hG hd ho cZ (ok.ct f cc hct).2 k
  .rename_i cZ;split at k
   .split at k
    .rename_i x y ha;split at k
     .rename_i t t' ht;split at k
      .rename_i htt;have htt:t=t':=iC htt;subst htt;split at k
       .rename_i q hq;obtain⟨s2,β2,k2,bH,egl⟩:=adV aT hq k;have:=BR ok.ti bH hg hd ho cZ (iI ha) (iI ht) k2;rw[egl]at this;exact this
       .exact BR ok.ti aT hg hd ho cZ (iI ha) (iI ht) k
      .cases k
     .cases k
    .cases k
   .cases k
  .rename_i cZ;split at k
   .split at k
    .rename_i x y ha;split at k
     .rename_i t t' ht;exact VB ok.ti aT hg hd ho cZ (iI ha) (iI ht) k
     .cases k
    .cases k
   .cases k
  .rename_i cZ;split at k
   .split at k
    .rename_i x y ha;exact Ye aT hg hd ho cZ (iI ha) k
    .cases k
   .cases k
  .rename_i cZ;split at k
   .split at k
    .rename_i x y ha;exact VA aT hg hd ho cZ (iI ha) k
    .cases k
   .cases k
  .exact Ia ok.ti aT hg hG hd k
 .exact Ia ok.ti aT hg hG hd k
theorem qY(ok:gU P E) (aj:Sat E.n B h0 s h β w a) (hg:aI E.cx.gd h)
 (k:jf E (tl ops) o s K):gJ P E.n B h0 h w a o (Region.wanted o (yielded ops a.tmps)) K:=by
 unfold jf at k;split at k
 .rename_i p hp;split at k
  .cases k
  .rename_i hd;exact Yi ok.ti aj hg hd hp k
 .exact VO ok aj hg k
abbrev YC(E:Env) (ops:List Oper):List Oper->St->(St->Prop)->Prop
 | [],s,K=>K s
 | o :: r,s,K=>jf E ops o s λs=>YC E ops r s K
abbrev iZ(k:Nat):List Nat->Bool
 | []=>false
 | j :: l=>match Nat.beq k j with
   | true=>true
   | false=>iZ k l
theorem jy{k j:Nat}{l:List Nat}:iZ k (j :: l)=(Nat.beq k j || iZ k l):=by
 simp only[iZ];cases Nat.beq k j<;>rfl
theorem lI{k:Nat}{m:List Nat}:∀{l:List Nat},iZ k (eG l m)=(iZ k l || iZ k m)
 | []=>rfl
 | j :: l=>by rw[show eG (j :: l) m=j :: eG l m from rfl,jy,jy,lI,Bool.or_assoc]
abbrev jL:List Oper->List Nat
 | []=>[]
 | o :: l=>match o.dst with
   | some d=>d :: jL l
   | none=>jL l
def Same(ws:List Nat) (a a':Act):Prop:=∀t,iZ t ws=false->a'.tmps[t]?=a.tmps[t]?
theorem Same.refl(ws:List Nat) (a:Act):Same ws a a:=λ_ _=>rfl
theorem Same.trans{ws:List Nat}{a b c:Act} (x:Same ws a b) (y:Same ws b c):Same ws a c:=λt h=>(y t h).trans (x t h)
theorem Same.left{l m:List Nat} (x:Same l a b):Same (eG l m) a b:=λt h=>x t (by rw[lI,l7]at h;exact h.1)
theorem Same.right{l m:List Nat} (x:Same m a b):Same (eG l m) a b:=λt h=>x t (by rw[lI,l7]at h;exact h.2)
theorem Same.put{o:Oper}{l:List Oper}{a:Act}{v:Value}{b:Act} (x:Same (jL l) (a.put o.dst v) b):Same (jL (o :: l)) a b:=by
 intro t h;cases hd:o.dst with
 | none=>
   have e:jL (o :: l)=jL l:=by simp only[jL,hd]
   rw[e]at h;rw[x t h,hd];rfl
 | some d=>
   have e:jL (o :: l)=d :: jL l:=by simp only[jL,hd]
   rw[e,jy,l7]at h;rw[x t h.2,hd];have hne:d≠t:=λhh=>Xc h.1 hh.symm
   simp[Act.put,air hne]
abbrev ajc(E:Env) (s:St) (o:Oper):Option IP:=match o.guard with
 | some _=>none
 | none=>match o.op with
   | .call c=>match c.callee with
     | .value (.func f)=>match E.ip f with
       | none=>none
       | some ip=>match tl c.args with
         | []=>none
         | x :: _=>match bT E.cx s [] x with
           | some (.one (.c (.row _)))=>some ip
           | _=>none
     | _=>none
   | _=>none
abbrev YD(E:Env) (s:St) (o:Oper):Option IP:=match o.guard with
 | some _=>none
 | none=>match o.op with
   | .call c=>match c.callee with
     | .value (.func f)=>match E.ip f with
       | none=>none
       | some ip=>match tl c.args with
         | []=>none
         | x :: _=>match bT E.cx s [] x with
           | some (.one (.c (.sub _ _)))=>some ip
           | _=>none
     | _=>none
   | _=>none
abbrev nK:Op->List Operand
 | .call c=>tl c.args
 | _=>[]
abbrev ajd:Value->Option Nat
 | .func (.func f) a b=>match tl a with
   | []=>match tl b with
     | []=>some f
     | _ :: _=>none
   | _ :: _=>none
 | _=>none
abbrev CQ(sh:Sh):ak->Option SV
 | .obj _ s d=>match dG sh.isAgg s.isAgg with
   | true=>some (.dat s d)
   | false=>none
 | .blk _ xs=>match sh.isAgg with
   | true=>some (.agg xs)
   | false=>match xs with
     | [x]=>some (.c x)
     | _=>none
 | _=>none
abbrev P7(s:St):(ss:List Sh)->List Operand->Option (St×cO ss)
 | [],[]=>some (s,())
 | sh :: ss,x :: l=>match x with
   | .tmp t=>match iG s.env t with
     | some ([],.one (.c (.own i 0)))=>match eX s.T i with
       | some ([],r)=>match CQ sh r with
         | some v=>match toDat sh v with
           | some d=>match P7 { s with T:=dF s.T i ([],.gone) } ss l with
             | some (s',ds)=>some (s',(d,ds))
             | none=>none
           | none=>none
         | none=>none
       | _=>none
     | _=>none
   | _=>none
 | _,_=>none
inductive HO where
 | hc (c:CT) (xs:List Operand)
 | cc (f:Nat) (xs:List Operand)
 | mk (g:Nat) (cap:List Operand)
 | sq (P:Program) (c:CT) (xs:List Operand)
 | sf (P:Program) (ss:List Sh) (r:Sh) (pre:cO ss->Prop) (g:cO ss->r.den) (q:SF) (xs:List Operand)
abbrev anr(E:Env) (s:St) (f:Nat) (args:List Operand):Option HO:=match E.sf f with
 | none=>none
 | some q=>match EX args with
   | none=>none
   | some (xs,x)=>match bT E.cx s [] x with
     | some (.one (.c (.abs (.clo P ss r pre g))))=>some (.sf P ss r pre g q xs)
     | _=>none
abbrev ant(E:Env) (s:St) (f:Nat) (args:List Operand):Option HO:=match E.sq f with
 | none=>anr E s f args
 | some q=>match EX args with
   | none=>none
   | some (xs,x)=>match bT E.cx s [] x with
     | some (.one (.c (.abs (.seq P ss L))))=>match YA ss q.ss L with
       | some L=>some (.sq P (q.ct L) xs)
       | none=>none
     | _=>none
abbrev aje(E:Env) (s:St) (o:Oper):Option HO:=match o.guard with
 | some _=>none
 | none=>match o.op with
   | .call c=>match c.callee with
     | .value (.func f)=>match EU (tl c.args) with
       | some (xs,g)=>match E.hc f g with
         | some ct=>some (.hc ct xs)
         | none=>none
       | none=>ant E s f (tl c.args)
     | .value (.tmp t)=>match iG s.env t with
       | some ([],.one (.c (.v v)))=>match ajd v with
         | some f=>some (.cc f (tl c.args))
         | none=>none
       | some ([],.one (.c (.abs (.clo P ss r pre g))))=>some (.sq P { ps:=ss,pre:=pre,res:=λd=>([],.one (iH r (g d))) } (tl c.args))
       | _=>none
     | _=>none
   | .makeFunc (.func g) fst cap=>match tl fst with
     | []=>some (.mk g (tl cap))
     | _ :: _=>none
   | _=>none
abbrev hoK(E:Env) (s:St) (d:Option Nat) (x:HO) (K:St->Prop):Prop:=match x with
 | .hc c xs=>jq E.cx (λ_=>some c) s [] d 0 xs K
 | .cc f xs=>jq E.cx E.ct s [] d f xs K
 | .sq P c xs=>E.P=some P/\jq E.cx (λ_=>some c) s [] d 0 xs K
 | .sf P ss r pre g q xs=>E.P=some P/\∃pre' g',Gz.clo P ss r pre g=Gz.clo P q.ss q.r pre' g'/\jq E.cx (λ_=>some (q.ct pre' g')) s [] d 0 xs K
 | .mk g cap=>match E.Yx g with
   | none=>False
   | some m=>match P7 s m.ss cap with
     | none=>False
     | some (s',ds)=>m.pre ds/\K (s'.put d [] (.one (.c (.abs (m.f ds)))))
abbrev MV(E:Env) (ops:List Oper) (o:Oper) (s:St) (K:St->Prop):Prop:=match rtP E.cx s o K with
 | some p=>match lV E.n o.dst with
   | false=>False
   | true=>p
 | none=>match ai8 E.cx s o K with
 | some p=>match lV E.n o.dst with
   | false=>False
   | true=>p
 | none=>match aje E s o with
 | some x=>match lV E.n o.dst with
   | false=>False
   | true=>hoK E s o.dst x K
 | none=>match YD E s o with
 | some ip=>match lV E.n o.dst with
   | false=>False
   | true=>ai0 E.cx ip s o.dst (nK o.op) K
 | none=>match ajc E s o with
 | none=>match ai6 E.cx s o K with
   | none=>jf E ops o s K
   | some p=>match lV E.n o.dst with
     | false=>False
     | true=>p
 | some ip=>match lV E.n o.dst with
   | false=>False
   | true=>ipK E.cx ip s o.dst (nK o.op) K
abbrev ad6(E:Env) (ops:List Oper):List Oper->St->(St->Prop)->Prop
 | [],s,K=>K s
 | o :: r,s,K=>MV E ops o s λs=>ad6 E ops r s K
theorem VP{ip:IP} (e:ajc E s o=some ip):o.guard=none/\∃c f,o.op=.call c/\c.callee=.value (.func f)/\E.ip f=some ip:=by
 unfold ajc at e;split at e
 .cases e
 .rename_i hgd;split at e
  .rename_i c ho;split at e
   .rename_i f cZ;split at e
    .cases e
    .rename_i ip' RQ;split at e
     .cases e
     .split at e
      .cases e;exact⟨hgd,c,f,ho,cZ,RQ⟩
      .cases e
   .cases e
  .cases e
theorem P8{ip:IP} (e:YD E s o=some ip):o.guard=none/\∃c f,o.op=.call c/\c.callee=.value (.func f)/\E.ip f=some ip:=by
 unfold YD at e;split at e
 .cases e
 .rename_i hgd;split at e
  .rename_i c ho;split at e
   .rename_i f cZ;split at e
    .cases e
    .rename_i ip' RQ;split at e
     .cases e
     .split at e
      .cases e;exact⟨hgd,c,f,ho,cZ,RQ⟩
      .cases e
   .cases e
  .cases e
theorem ad7{v:Value}{f:Nat} (h:ajd v=some f):v=.func (.func f) #[] #[]:=by
 unfold ajd at h;split at h
 .rename_i f' x y;split at h
  .rename_i hx;split at h
   .rename_i hy;cases h;rw[iI hx,iI hy]
   .cases h
  .cases h
 .cases h
theorem ajf{s:Sh} (h:s.isAgg=false):s.size=1:=by cases s<;>simp_all[Sh.isAgg,Sh.size]
theorem SE{N:Nat}{B:Base}{h0:FH}{w:World}{a:Act}{β:List RV}:∀{ss:List Sh}{l:List Operand}{s s':St}{h:FH}{ds:cO ss},Sat N B h0 s h β w a->P7 s ss l=some (s',ds) ->
 ∃h',h.le h'/\Sat N B h0 s' h' β w a/\capD h' ss ds (l.map a.eval)
 | [],[],s,s',h,ds,aj,e=>by simp[P7]at e;subst e;exact⟨h,FH.le.refl h,aj,trivial⟩
 | [],_ :: _,s,s',h,ds,aj,e=>by simp[P7]at e
 | _ :: _,[],s,s',h,ds,aj,e=>by simp[P7]at e
 | sh :: ss,x :: l,s,s',h,ds,aj,e=>by
   unfold P7 at e;split at e
   .rename_i t;split at e
    .rename_i i hlk;split at e
     .rename_i r hT;split at e
      .rename_i v hv;split at e
       .rename_i d hd;split at e
        .rename_i s2 ds2 hc;cases e;obtain⟨z,z1,z2,_⟩:=aj.env t [] _ hlk;obtain⟨b,hb,ez⟩:∃b,β[i]?=some (.blk b)/\z=.pointer (some ⟨b,0,none⟩):=(z2 rfl:dD h β (.c (.own i 0)) z).1;have fP:=bG hT (show gv s.gl []=true from rfl)
         have hold:=aj.ok.holds i r _ fP hb;have hlive:r.live=true:=by cases r<;>first | rfl | (simp[CQ]at hv)
         obtain⟨le1,ok1⟩:=aj.ok.U8 fP hlive hb (lC.2 rfl);have jr:Sat N B h0 { s with T:=dF s.T i ([],.gone) } (h.plus w b) β w a:=aj.mem (by rw[fV];exact ok1) le1 (Ext.refl _) (by
          intro q hq;rw[gI]at hq;rcases Jg hq with hq | hq
          .exact aj.gT q hq
          .subst hq;rfl)
         obtain⟨h',iD,bH,cap⟩:=SE (l:=l) jr hc;refine⟨h',le1.trans iD,bH,⟨?_,cap⟩⟩;have ev:a.eval (.tmp t)=z:=by simp[Act.eval,z1]
         rw[ev,ez];have at_:∀(ys:List Value) (tt:TypeId),w.heap[b]?=some (.cells ys.toArray tt (0,0))->(∀u∈ys,dH u)->At h' b 0 ys:=by
          intro ys tt hw h1 j u hj;refine iD _ _ _ ?_;unfold FH.plus;rw[if_pos rfl,D6];exact ou hw (by simpa using hj) (h1 u (gZ hj)).2
         have key:∀(ys:List Value) (tt:TypeId),w.heap[b]?=some (.cells ys.toArray tt (0,0))->(sh.isAgg=true->dD h β v (.agg ys.toArray))->(sh.isAgg=false->∃y,ys=[y]/\dD h β v y) ->
          ∃b' cs,(Value.pointer (some ⟨b,0,none⟩))=.pointer (some ⟨b',0,none⟩)/\Rd h' sh cs d/\At h' b' 0 cs:=by
          intro ys tt hw k1 k2;cases hag:sh.isAgg with
          | true=>
            obtain⟨cs,e1,rd⟩:=toDat_ok hd (k1 hag);unfold mkV at e1;rw[if_pos hag]at e1;injection e1 with e1
            have e1:ys=cs:=by simpa using e1
            subst e1;exact⟨b,ys,rfl,(rd.mono le1 _).mono iD _,at_ ys tt hw (Rd.one _ rd)⟩
          | false=>
            obtain⟨y,rfl,c⟩:=k2 hag;obtain⟨cs,e1,rd⟩:=toDat_ok hd c;unfold mkV at e1;rw[if_neg (by rw[hag];simp)]at e1
            have hs:=Rd.size sh rd;rw[ajf hag]at hs;obtain⟨u,rfl⟩:=List.length_eq_one_iff.1 hs;have e1:y=u:=e1;subst e1;exact⟨b,[y],rfl,(rd.mono le1 _).mono iD _,at_ [y] tt hw (Rd.one _ rd)⟩
         cases r with
         | obj tt s0 d0=>
           simp only[CQ]at hv;split at hv
           .rename_i hag;rw[aB,bY]at hag;cases hv;obtain⟨ys,e1,rd⟩:=hold;exact key ys tt e1 (λ_=>⟨hag.2,ys,rfl,rd⟩) (λhh=>by rw[hag.1]at hh;cases hh)
           .cases hv
         | blk tt cs=>
           obtain⟨ys,e1,al⟩:=hold;simp only[CQ]at hv;split at hv
           .rename_i hag;cases hv;exact key ys tt e1 (λ_=>⟨ys,rfl,al⟩) (λhh=>by rw[hag]at hh;cases hh)
           .rename_i hag;split at hv
            .rename_i x;cases hv;cases ys with
             | nil=>exact al.elim
             | cons y ys=>
               cases ys with
               | cons _ _=>exact al.2.elim
               | nil=>exact key [y] tt e1 (λhh=>by rw[hag]at hh;cases hh) (λ_=>⟨y,rfl,al.1⟩)
            .cases hv
         | row _ _ _=>simp[CQ]at hv
         | deep _ _ _ _ _ _ _ _=>simp[CQ]at hv
         | mp _ _ _=>simp[CQ]at hv
         | OD _ _ _ _=>simp[CQ]at hv
         | it _ _ _ _=>simp[CQ]at hv
         | LC _ _ _ _=>simp[CQ]at hv
         | Hz _ _ _ _=>simp[CQ]at hv
         | gone=>simp[CQ]at hv
        .cases e
       .cases e
      .cases e
     .cases e
    .cases e
   .cases e
theorem ajg(ok:gU P E) (aj:Sat E.n B h0 s h β w a) (hg:aI E.cx.gd h){x:HO} (hx:aje E s o=some x) (hd:lV E.n o.dst=true)
 (k:hoK E s o.dst x K):gJ P E.n B h0 h w a o (Region.wanted o (yielded ops a.tmps)) K:=by
 unfold aje at hx;split at hx
 .cases hx
 rename_i hgd;rw[show Region.wanted o (yielded ops a.tmps)=gv s.gl [] by simp[Region.wanted,hgd,gv]]
 split at hx
 .rename_i c ho;split at hx
  .rename_i f cZ;split at hx
   .rename_i xs g hl;split at hx
    .rename_i ct hct;cases hx;obtain⟨hc,hf⟩:=ok.hc f g ct hct;simp only[hoK]at k;have k':jq E.cx (λf'=>if f'=f then some ct else none) s [] o.dst f xs K:=by
      unfold jq at k ⊢;simpa using k
     exact rX (suf:=[.func (.func g) #[] #[]]) (λf' c' e=>by
      split at e
      .rename_i hff;cases e;rw[hff];exact hc
      .cases e) aj hg rfl hd ho cZ (λ_=>rfl) (by
      have:=EW (a:=a) hl;rw[<-this];cases c.args;simp) hf k'
    .cases hx
   .unfold ant at hx;split at hx
    .unfold anr at hx;split at hx
     .cases hx
     rename_i q hq;split at hx
     .cases hx
     rename_i xs x hl;split at hx
     .rename_i P' ss r pre g hxe;cases hx;simp only[hoK]at k;obtain⟨eP,pre',g',eA,k⟩:=k;have:=ok.prog _ eP;subst this;obtain⟨hc,hf⟩:=ok.sf f q hq;have k':jq E.cx (λf'=>if f'=f then some (q.ct pre' g') else none) s [] o.dst f xs K:=by
       unfold jq at k ⊢;simpa using k
      rw[eA]at hxe;have Ib:dD h β (.c (.abs (.clo P' q.ss q.r pre' g'))) (a.eval x):=aK aj hg (show gv s.gl []=true from rfl) hxe
      exact xI (suf:=[a.eval x]) (λc' e d vs h' le hw hg' ha hp=>by
       have e':q.ct pre' g'=c':=by simpa using e
       subst e';exact hc pre' g' d vs [a.eval x] h' w hw hg' ha ⟨⟨(show Gz.rel h' (.clo P' q.ss q.r pre' g') (a.eval x) from Gz.yu le (show Gz.rel h (.clo P' q.ss q.r pre' g') (a.eval x) from Ib.1)),Ib.2⟩,trivial⟩ hp) aj hg rfl hd ho cZ (λ_=>rfl) (by
       have:=EY (a:=a) hl;rw[<-this];cases c.args;simp) hf k'
     .cases hx
    rename_i q hq;split at hx
    .cases hx
    rename_i xs x hl;split at hx
    .rename_i P' ss L hxe;split at hx
     .rename_i L' hL;cases hx;obtain⟨e1,e2⟩:=YB hL;simp only[hoK]at k;obtain⟨eP,k⟩:=k;have:=ok.prog _ eP;subst this;subst e1;simp only at e2;subst e2;obtain⟨hc,hf⟩:=ok.sq f q hq;have k':jq E.cx (λf'=>if f'=f then some (q.ct L) else none) s [] o.dst f xs K:=by
       unfold jq at k ⊢;simpa using k
      have Ib:dD h β (.c (.abs (.seq P' q.ss L))) (a.eval x):=aK aj hg (show gv s.gl []=true from rfl) hxe
      exact xI (suf:=[a.eval x]) (λc' e d vs h' le hw hg' ha hp=>by
       have e':q.ct L=c':=by simpa using e
       subst e';exact hc L d vs [a.eval x] h' w hw hg' ha ⟨⟨(show Gz.rel h' (.seq P' q.ss L) (a.eval x) from Gz.yu le (show Gz.rel h (.seq P' q.ss L) (a.eval x) from Ib.1)),Ib.2⟩,trivial⟩ hp) aj hg rfl hd ho cZ (λ_=>rfl) (by
       have:=EY (a:=a) hl;rw[<-this];cases c.args;simp) hf k'
     .cases hx
    .cases hx
  .rename_i t cZ;split at hx
   .rename_i v hlk;split at hx
    .rename_i f hfn;cases hx;simp only[hoK]at k;obtain⟨z,z1,z2,_⟩:=aj.env t [] _ hlk;have ez:z=.func (.func f) #[] #[]:=((z2 rfl:dD h β (.c (.v v)) z).1.1).trans (ad7 hfn);have hct:∃cc,E.ct f=some cc:=by
      unfold jq at k;cases hh:E.ct f with
      | none=>rw[hh]at k;cases k
      | some cc=>exact⟨cc,rfl⟩
     obtain⟨cc,hct⟩:=hct;exact rX (suf:=[]) (λf' c' e=>(ok.ct f' c' e).1.x) aj hg rfl hd ho cZ (λ_=>by simp[Act.eval,z1,ez]) (by cases c.args;simp) (ok.ct f cc hct).2 k
    .cases hx
   .rename_i P' ss r pre g hlk;cases hx;simp only[hoK]at k;obtain⟨eP,k⟩:=k;have:=ok.prog _ eP;subst this;obtain⟨z,z1,z2,_⟩:=aj.env t [] _ hlk;obtain⟨gn,lb,ez,hf,kk⟩:Xq P' h ss r pre g z:=(z2 rfl:dD h β (.c (.abs (.clo P' ss r pre g))) z).1;have k':jq E.cx (λf'=>if f'=gn then some { ps:=ss,pre:=pre,res:=λd=>([],.one (iH r (g d))) } else none) s [] o.dst gn (tl c.args) K:=by
     unfold jq at k ⊢;simpa using k
    exact EG (lb:=lb) (suf:=lb.toList) (λc' e d vs h' le hw hg' ha hp=>by
     have e':({ ps:=ss,pre:=pre,res:=λd=>([],.one (iH r (g d))) }:CT)=c':=by simpa using e
     subst e';rw[show(vs++lb.toList).toArray=vs.toArray++lb by simp]
     refine(kk d vs h' w le hw (EF ha) hp).mono ?_;rintro en w' ⟨v,rfl,⟨cs,rfl,rd⟩,bel,dr⟩;refine⟨h',[],_,rfl,⟨⟨bel.os,bel.tape,bel.output,bel.size,λk hk ha=>bel.block k hk⟩,dr,rfl,λi r v e _=>by simp at e,λi r v b e _ _ _=>by simp at e,λi j r r' u v b e _ _ _ _ _ _ _=>by simp at e,FH.le.refl h',λb o v hh=>(jT (bel.block b (oH (hw b o v hh)))).trans (hw b o v hh),λb o v hh=>.inl hh,λk o hh=>hh.elim⟩,jI r (rd.mono (λ_ _ _ e=>by cases e) r)⟩) aj hg rfl hd ho cZ (λ_=>by simp[Act.eval,z1,ez]) (by cases c.args;simp) hf k'
   .cases hx
  .cases hx
 .rename_i g fst cap ho;split at hx
  .rename_i apO;cases hx;simp only[hoK]at k;split at k
   .cases k
   rename_i m hm;split at k
   .cases k
   rename_i s' ds hcap;obtain⟨h',le,aT,jJ⟩:=SE aj hcap;obtain⟨hmp,k⟩:=k;have rel:=ok.Yx g m hm ds h' _ hmp (hg.mono le) jJ;intro Nx Q next
   rw[if_pos rfl];refine kK (v:=.func (.func g) #[] ((tl cap).map a.eval).toArray) ?_ (next _ _ _ _ _ k le (λ_=>nG.refl w) (aT.put (dU hd) rfl (λ_=>⟨rel,Gz.ady rel⟩) λhh=>by cases hh))
   simp only[execOp,ho,Instr.makeFunc,Sem.run_bind,Sem.run_pure,Result.andThen_ok];rw[iI apO];have:cap.map a.eval=((tl cap).map a.eval).toArray:=by cases cap;simp
   rw[this];simp
  .cases hx
 .cases hx
theorem EZ(ok:gU P E) (aj:Sat E.n B h0 s h β w a) (hg:aI E.cx.gd h)
 (k:MV E (tl ops) o s K):BU P E.n B h0 h w a o (Region.wanted o (yielded ops a.tmps)) K:=by
 unfold MV at k;split at k
 .rename_i p hp;split at k
  .cases k
  .rename_i hd;exact(Yo ok.ti aj hg hd hp k).weak
 split at k
 .rename_i p hp;split at k
  .cases k
  .rename_i hd;obtain⟨hgd,st⟩:=ad4 ok.ti aj hg hd hp k;rw[show Region.wanted o (yielded ops a.tmps)=true by simp[Region.wanted,hgd]]
   exact st
 split at k
 .rename_i x hx;split at k
  .cases k
  .rename_i hd;exact(ajg ok aj hg hx hd k).weak
 split at k
 .rename_i ip RQ;obtain⟨hgd,c,f,ho,cZ,hf⟩:=P8 RQ;split at k
  .cases k
  .rename_i hd;rw[show Region.wanted o (yielded ops a.tmps)=true by simp[Region.wanted,hgd]]
   rw[show nK o.op=tl c.args by simp only[nK,ho]]at k
   exact Yd (ok.ip f ip hf).1 (ok.ip f ip hf).2 aj hg hd ho cZ k
 split at k
 .split at k
  .exact(qY ok aj hg k).weak
  .rename_i p hp;split at k
   .cases k
   .rename_i hd;exact adY ok.ti aj hg hd hp k
 .rename_i ip RQ;obtain⟨hgd,c,f,ho,cZ,hf⟩:=VP RQ;split at k
  .cases k
  .rename_i hd;rw[show Region.wanted o (yielded ops a.tmps)=true by simp[Region.wanted,hgd]]
   rw[show nK o.op=tl c.args by simp only[nK,ho]]at k
   exact adP (ok.ip f ip hf).1 (ok.ip f ip hf).2 aj hg hd ho cZ k
theorem JW{P:Program}{E:Env} (ok:gU P E){B:Base}{h0:FH} (hg:aI E.cx.gd h0){ops:Array Oper}{R:Act->World->Prop}{K:St->Prop}:∀(l:List Oper){s:St}{h:FH}{β:List RV}{w:World}{a:Act},Sat E.n B h0 s h β w a ->
 ad6 E (tl ops) l s K->(∀s' h' β' w' a',K s'->h.le h'->Sat E.n B h0 s' h' β' w' a'->Same (jL l) a a'->R a' w')->wpL P ops R l a w
 | [],s,h,β,w,a,aj,k,next=>next _ _ _ _ _ k (FH.le.refl h) aj (Same.refl _ _)
 | o :: r,s,h,β,w,a,aj,k,next=>by
   have:=EZ ok aj (hg.mono aj.ok.hle) k (wpL P ops R r) JC λs' h' β' w' v k' le aT=>JW ok hg r aT k' λs2 h2 β2 w2 a2 k2 iD bH sm=>next s2 h2 β2 w2 a2 k2 (le.trans iD) bH sm.put
   unfold wpL;split
   .rename_i hw;rw[if_pos hw]at this;exact this
   .rename_i hw;rw[if_neg hw]at this;exact this
def YE(ops:Array Oper) (listed:Array Bool) (i:Nat):List Nat:=
 (List.range ops.size).foldl (λacc j=>if j != i && !listed.getD j true && (match ops[j]? with | some o=>o.after.any (λe=>Region.binds .any e && (e.on == i || acc.contains e.on)) | none=>false) then j :: acc else acc) []
def P9(ops:Array Oper) (listed:Array Bool) (i:Nat) (bl:List Nat):Bool:=
 (bl.all λj=>!listed.getD j true && (match ops[j]? with | some o=>o.after.any (λe=>Region.binds .any e && (e.on == i || bl.contains e.on)) | none=>false)) &&
 ((List.range ops.size).all λj=>j == i || listed.getD j true || xK ops j || bl.contains j)
theorem BX{listed:Array Bool}{bl:List Nat} (h:P9 ops listed i bl=true):
 Waits .any ops listed i bl/\∀j,j≠i->listed.getD j true=false->xK ops j=false->j∈bl:=by
 simp only[P9,bY,Q9]at h;refine⟨λj hj=>?_,λj hji hun hs=>?_⟩
 .have h1:=h.1 j hj;simp only[CO]at h1;refine⟨h1.1,?_⟩;cases ho:ops[j]? with
  | none=>rw[ho]at h1;exact absurd h1.2 (by simp)
  | some o=>
    rw[ho]at h1;obtain⟨e,he,hb⟩:=Array.any_eq_true'.1 h1.2;simp only[bY,xk,Az,adr]at hb;exact⟨o,rfl,e,he,hb.1,hb.2⟩
 .rcases Xj j ops.size with gX | hge
  .have h2:=h.2 j (adw.2 gX);simp only[xk,Az,hji,hun,hs,adr,adt,false_or]at h2;exact h2
  .have:ops[j]?=none:=adp hge;simp[xK,this]at hs
inductive DT where
 | done
 | fl (i:Nat) (t:DT)
 | op (i:Nat) (t:DT)
 | alt (i:Nat) (t m:DT)
inductive OT where
 | done
 | op (o:Oper) (t:OT)
 | alt (o:Oper) (t m:OT)
def DT.alts:DT->List Nat
 | .op i _=>[i]
 | .alt i _ m=>i :: m.alts
 | _=>[]
def Dl(ops:Array Oper) (listed:Array Bool) (i:Nat):Bool:=match ops[i]? with
 | some o=>jV o.op && Region.free .any ops listed i && (Region.ready .any ops listed).contains i && (!isLoad o.op || P9 ops listed i (YE ops listed i))
 | none=>false
def kM(ops:Array Oper):DT->Bool->Nat->Array Bool->Bool
 | .done,top,n,listed=>top && n == 0 && (Region.ready .any ops listed).isEmpty
 | .fl i t,top,n,listed=>top && n != 0 && Dl ops listed i && kM ops t true (n - 1) (listed.setIfInBounds i true)
 | .op i t,top,n,listed=>(!top || Region.ready .any ops listed == [i]) && n != 0 && (ops[i]?).isSome && kM ops t true (n - 1) (listed.setIfInBounds i true)
 | .alt i t m,top,n,listed=>(!top || Region.ready .any ops listed == i :: m.alts) && n != 0 && (ops[i]?).isSome && kM ops t true (n - 1) (listed.setIfInBounds i true) && kM ops m false n listed
def goT(g:Nat->DT):List Nat->DT
 | []=>.done
 | [i]=>.op i (g i)
 | i :: r=>.alt i (g i) (goT g r)
def VQ(ops:Array Oper):Nat->Array Bool->DT
 | 0,_=>.done
 | f+1,listed=>
   let rs:=Region.ready .any ops listed
   match rs.find? (λi=>Dl ops listed i) with
   | some i=>.fl i (VQ ops f (listed.setIfInBounds i true))
   | none=>goT (λi=>VQ ops f (listed.setIfInBounds i true)) rs
def Dn(ops:Array Oper):DT->OT
 | .done=>.done
 | .fl i t=>match ops[i]? with
   | some o=>.op o (Dn ops t)
   | none=>.done
 | .op i t=>match ops[i]? with
   | some o=>.op o (Dn ops t)
   | none=>.done
 | .alt i t m=>match ops[i]? with
   | some o=>.alt o (Dn ops t) (Dn ops m)
   | none=>.done
def ofL:List Oper->OT
 | []=>.done
 | o :: l=>.op o (ofL l)
abbrev qZ(E:Env) (ops:List Oper):OT->St->(St->Prop)->Prop
 | .done,s,K=>K s
 | .op o t,s,K=>jf E ops o s λs=>qZ E ops t s K
 | .alt o t m,s,K=>(jf E ops o s λs=>qZ E ops t s K)/\qZ E ops m s K
theorem MW{E:Env}{ops:List Oper}{K:St->Prop}:∀(l:List Oper),(λs=>qZ E ops (ofL l) s K)=λs=>YC E ops l s K
 | []=>rfl
 | o :: l=>by
   funext s
   show jf E ops o s (λs=>qZ E ops (ofL l) s K)=jf E ops o s λs=>YC E ops l s K
   rw[MW l]
theorem VR{ops:List Oper} (l:List Oper) (h:qZ E ops (ofL l) s K):YC E ops l s K:=by
 have:=congrFun (MW (E:=E) (ops:=ops) (K:=K) l) s;rw[<-this];exact h
def isPure(o:Oper):Bool:=match o.op with
 | .alloc _ | .box .. | .buildSlice .. | .makeSlice .. | .store ..=>false
 | .call c=>(match c.callee with | .value (.func _)=>false | .builtin .append=>false | .builtin .copy=>false | .builtin .min=>false | .builtin .max=>false | _=>true)
 | _=>true
def vV(ops:Array Oper):Option OT:=
 if ops.all isPure && Region.lexB .any ops then some (ofL ops.toList)
 else
  let t:=VQ ops ops.size (Array.replicate ops.size false)
  if Region.noSelect ops && kM ops t true ops.size (Array.replicate ops.size false) then some (Dn ops t) else none
section
variable {P:Program}{E:Env}{B:Base}{h0:FH}{s:St}{h:FH}{β:List RV}{w:World}{a:Act}{o:Oper}{ops:Array Oper}{K:St->Prop}
theorem MX{L:List Nat}{l:List Oper}{g:Option (Nat×Bool)}{K K':Gd->St->Prop} (hk:∀G s,K G s->K' G s) (h:uG L s l g K):uG L s l g K':=by
 unfold uG at *;split at h
 .exact hk _ _ h
 .split at h
  .cases h
  .split at h
   .split at h
    .split at h
     .split at h
      .exact hk _ _ h
      .cases h
     .split at h
      .cases h
      .exact hk _ _ h
    .cases h
   .split at h
    .split at h
     .exact hk _ _ h
     .exact hk _ _ h
    .cases h
theorem E5(hp:isPure o=true) (k:jf E (tl ops) o s K):lV E.n o.dst=true/\uG E.lits s (tl ops) o.guard λG s=>nP E.cx s G o λe=>K (s.put o.dst G e):=by
 unfold jf at k;rw[Yj (λt n ps ho=>by simp[isPure,ho]at hp) (λc ho cZ=>by simp[isPure,ho,cZ]at hp)]at k
 simp only at k;unfold JV at k;split at k
 .cases k
 rename_i hd;refine⟨hd,?_⟩;have key:∀G s,(match o.op with
  | .alloc t=>Jw E.cx s G o.dst t K
  | .box t x=>adH E.cx s G o.dst t x K
  | .buildSlice t n ps=>mZ E.cx (nJ s (ajb E s G (tl ps))) G o.dst t n (tl ps) K
  | .makeSlice t l c=>RG E.cx s G o.dst t l c K
  | .store t p x=>match G with
    | []=>match adU E.cx s o.dst t p x K with
      | some q=>q
      | none=>Jy E.cx (nJ s (Yz E s p x)) o.dst t p x K
    | _ :: _=>False
  | .call c=>match c.callee with
    | .value (.func f)=>match hcL E f (tl c.args) with
      | some (ct,xs)=>jq E.cx (λ_=>some ct) s G o.dst f xs K
      | none=>jq E.cx E.ct (nJ s (Yy E s G f (tl c.args))) G o.dst f (tl c.args) K
    | .builtin .append=>match G with
      | []=>match tl c.args with
        | [x,y]=>match tl c.argTypes with
          | [t,t']=>match Nat.beq t t' with
            | true=>match Sl s x λs=>vM E.cx s o.dst t x y K with
              | some q=>q
              | none=>vM E.cx s o.dst t x y K
            | false=>False
          | _=>False
        | _=>False
      | _ :: _=>False
    | .builtin .copy=>match G with
      | []=>match tl c.args with
        | [x,y]=>match tl c.argTypes with
          | [t,_]=>Sm E.cx s o.dst t x y K
          | _=>False
        | _=>False
      | _ :: _=>False
    | .builtin .min=>match G with
      | []=>match tl c.args with
        | [x,y]=>adX E.cx s o.dst x y K
        | _=>False
      | _ :: _=>False
    | .builtin .max=>match G with
      | []=>match tl c.args with
        | [x,y]=>Pz E.cx s o.dst x y K
        | _=>False
      | _ :: _=>False
    | _=>nP E.cx s G o λe=>K (s.put o.dst G e)
  | _=>nP E.cx s G o λe=>K (s.put o.dst G e))->nP E.cx s G o λe=>K (s.put o.dst G e):=by
  intro G s k;split at k
  .rename_i ho;simp[isPure,ho]at hp
  .rename_i ho;simp[isPure,ho]at hp
  .rename_i ho;simp[isPure,ho]at hp
  .rename_i ho;simp[isPure,ho]at hp
  .rename_i ho;simp[isPure,ho]at hp
  .rename_i c ho;split at k
   .rename_i hc;simp[isPure,ho,hc]at hp
   .rename_i hc;simp[isPure,ho,hc]at hp
   .rename_i hc;simp[isPure,ho,hc]at hp
   .rename_i hc;simp[isPure,ho,hc]at hp
   .rename_i hc;simp[isPure,ho,hc]at hp
   .exact k
  .exact k
 exact MX key k
theorem YF{x:Callee} (h:(match x with | .builtin .len=>true | _=>false)=true):x=.builtin .len:=by
 split at h
 .rfl
 .cases h
theorem Qa(hf:jV o.op=true):isPure o=true:=by
 cases ho:o.op with
 | call c=>
   rw[ho]at hf;have:c.callee=.builtin .len:=YF hf;simp[isPure,ho,this]
 | _=>
   rw[ho]at hf
   first
    | (simp[isPure,ho];done)
    | (simp[jV,mW]at hf;done)
theorem uN{x:Op} (hf:jV x=true):quietly x=true:=by
 cases x with
 | call c=>
   have:c.callee=.builtin .len:=YF hf;simp[quietly,this]
 | _=>
   first
    | rfl
    | (simp[jV,mW]at hf;done)
theorem xQ(ok:gU P E) (aj:Sat E.n B h0 s h β w a) (hg:aI E.cx.gd h) (hf:jV o.op=true) (k:jf E (tl ops) o s K):
 ∃v s',YI P ops (isLoad o.op) w o v a/\K s'/\Sat E.n B h0 s' h β w (a.put o.dst v):=by
 obtain⟨hd,k⟩:=E5 (Qa hf) k;obtain⟨G,s',k,aT,hw,hG⟩:=vK aj k;obtain⟨e,k1,k2⟩:=Vl ok.ti aT hg hf k;cases hgv:gv s'.gl G with
 | true=>
   obtain⟨v,r,c⟩:=k2 hgv;refine⟨v,_,.inl ⟨by rw[hw];exact hgv,λw' hg'=>?_⟩,k1,aT.put (dU hd) hG (λ_=>c) λhh=>by rw[hgv]at hh;cases hh⟩
   exact r w' hg'
 | false=>
   exact⟨undef,_,.inr ⟨by rw[hw];exact hgv,rfl⟩,k1,aT.put (dU hd) hG (λhh=>by rw[hgv]at hh;cases hh) λ_=>rfl⟩
theorem still_step(ok:gU P E) (aj:Sat E.n B h0 s h β w a) (hg:aI E.cx.gd h) (hp:isPure o=true) (k:jf E (tl ops) o s K){Nx:Act->Prop}
 (next:∀v s',K s'->Sat E.n B h0 s' h β w (a.put o.dst v)->Nx (a.put o.dst v)):if Region.wanted o (yielded ops a.tmps) then o.still P a w Nx else Nx (a.put o.dst undef):=by
 obtain⟨hd,k⟩:=E5 hp k;obtain⟨G,s',k,aT,hw,hG⟩:=vK aj k;obtain⟨e,k1,k2⟩:=Eu ok.ti aT hg k;rw[hw];cases hgv:gv s'.gl G with
 | true=>
   obtain⟨v,r,c⟩:=k2 hgv;rw[if_pos rfl];unfold Oper.still;rw[r,Oper.stillUpon_value];exact next _ _ k1 (aT.put (dU hd) hG (λ_=>c) λhh=>by rw[hgv]at hh;cases hh)
 | false=>
   rw[if_neg (by simp)]
   exact next _ _ k1 (aT.put (dU hd) hG (λhh=>by rw[hgv]at hh;cases hh) λ_=>rfl)
theorem MZ(ok:gU P E) (hg:aI E.cx.gd h0){R:Act->Prop}:∀(l:List Oper){s:St}{a:Act},l.all isPure=true->Sat E.n B h0 s h β w a->YC E (tl ops) l s K ->
 (∀s' a',K s'->Sat E.n B h0 s' h β w a'->Same (jL l) a a'->R a')->wpStill P ops w R l a
 | [],s,a,_,aj,k,next=>next _ _ k aj (Same.refl _ _)
 | o :: r,s,a,hp,aj,k,next=>by
   simp only[List.all_cons,bY]at hp;exact still_step ok aj (hg.mono aj.ok.hle) hp.1 k λv s' k' aT=>MZ ok hg r hp.2 aT k' λs2 a2 k2 bH sm=>next s2 a2 k2 bH sm.put
abbrev Bf(cx:Cx):List Oper->Bool
 | []=>false
 | o :: l=>match o.op with
   | .call c=>match c.callee with
     | .builtin .len=>match tl c.argTypes with
       | [t]=>match Yq cx t with
         | true=>true
         | false=>Bf cx l
       | _=>Bf cx l
     | _=>Bf cx l
   | .lookup _ _ _ _=>true
   | _=>Bf cx l
abbrev stepM(E:Env) (ops:List Oper) (o:Oper) (s:St) (K:St->Prop):Prop:=match o.guard with
 | some _=>jf E ops o s K
 | none=>match JR E.cx s o.op λe=>K (s.put o.dst [] e) with
   | some p=>match lV E.n o.dst with
     | false=>False
     | true=>p
   | none=>jf E ops o s K
abbrev VT(E:Env) (ops:List Oper):List Oper->St->(St->Prop)->Prop
 | [],s,K=>K s
 | o :: r,s,K=>stepM E ops o s λs=>VT E ops r s K
theorem Bg(ok:gU P E) (hg:aI E.cx.gd h0){R:Act->Prop}:∀(l:List Oper){s:St}{a:Act},l.all isPure=true->Sat E.n B h0 s h β w a->VT E (tl ops) l s K ->
 (∀s' a',K s'->Sat E.n B h0 s' h β w a'->Same (jL l) a a'->R a')->wpStill P ops w R l a
 | [],s,a,_,aj,k,next=>next _ _ k aj (Same.refl _ _)
 | o :: r,s,a,hp,aj,k,next=>by
   simp only[List.all_cons,bY]at hp;have old:jf E (tl ops) o s (λs=>VT E (tl ops) r s K)->wpStill P ops w R (o :: r) a:=λk=>
    still_step ok aj (hg.mono aj.ok.hle) hp.1 k λv s' k' aT=>Bg ok hg r hp.2 aT k' λs2 a2 k2 bH sm=>next s2 a2 k2 bH sm.put
   simp only[VT,stepM]at k;split at k
   .exact old k
   .rename_i hgd;split at k
    .rename_i p hp';split at k
     .cases k
     .rename_i hd;obtain⟨e,v,k1,run,c⟩:=MR ok.ti aj (hg.mono aj.ok.hle) hp' k;unfold wpStill;rw[if_pos (by simp[Region.wanted,hgd])]
      unfold Oper.still;rw[run,Oper.stillUpon_value];exact Bg ok hg r hp.2 (aj.put (dU hd) rfl (λ_=>c) λhh=>by cases hh) k1 λs2 a2 k2 bH sm=>next s2 a2 k2 bH sm.put
    .exact old k
def ad8(ops:Array Oper):Bool:=ops.all isPure && Region.lexB .any ops
theorem uO{t:Nat}:∀{l:List Oper},iZ t (jL l)=true↔∃o∈l,o.dst=some t
 | []=>by simp[jL,iZ]
 | o :: l=>by
   cases hd:o.dst with
   | none=>
     have e:jL (o :: l)=jL l:=by simp only[jL,hd]
     rw[e,uO];simp[hd]
   | some d=>
     have e:jL (o :: l)=d :: jL l:=by simp only[jL,hd]
     rw[e,jy,xk,uO];constructor
     .rintro(h | ⟨o',h1,h2⟩)
      .exact⟨o,by simp,by rw[hd,iC h]⟩
      .exact⟨o',by simp[h1],h2⟩
     .rintro⟨o',h1,h2⟩;rcases lU.1 h1 with rfl | h1
      .rw[hd]at h2;cases h2;exact .inl (Nat.beq_refl _)
      .exact .inr ⟨o',h1,h2⟩
theorem Same.sub{l m:List Oper} (hs:∀o∈l,o∈m) (x:Same (jL l) a b):Same (jL m) a b:=λt h=>x t (by
 cases hh:iZ t (jL l) with
 | false=>rfl
 | true=>
   obtain⟨o,h1,h2⟩:=uO.1 hh;rw[uO.2 ⟨o,hs o h1,h2⟩]at h;cases h)
theorem Same.put_mem{ol:List Oper} (ho:o∈ol){v:Value} (x:Same (jL ol) (a.put o.dst v) b):Same (jL ol) a b:=by
 intro t h;rw[x t h];cases hd:o.dst with
 | none=>rfl
 | some d=>
   have hne:d≠t:=by
    rintro rfl;rw[uO.2 ⟨o,ho,hd⟩]at h;cases h
   simp[Act.put,air hne]
theorem yZ(ok:gU P E) (hg:aI E.cx.gd h0) (hs:Region.noSelect ops=true){R:Act->World->Prop}:∀(t:DT){n:Nat}{listed:Array Bool}{s:St}{h:FH}{β:List RV}{w:World}{a:Act},
 Sat E.n B h0 s h β w a->qZ E (tl ops) (Dn ops t) s K->(∀s' h' β' w' a',K s'->h.le h'->Sat E.n B h0 s' h' β' w' a'->Same (jL ops.toList) a a'->R a' w') ->
 (kM ops t true n listed=true->anyI P .any ops (xK ops) R n listed a w) /\
 (kM ops t false n listed=true->∀i∈t.alts,Ak P ops i (λa' w'=>(xK ops i=true->nG w w')/\anyI P .any ops (xK ops) R (n - 1) (listed.setIfInBounds i true) a' w') a w)
 | .done,n,listed,s,h,β,w,a,aj,k,next=>by
   refine⟨λhc=>?_,λhc=>by simp[kM]at hc⟩
   simp only[kM,Hy,bY,Az]at hc;obtain⟨rfl,he⟩:=hc;exact⟨by simpa using he,next _ _ _ _ _ k (FH.le.refl h) aj (Same.refl _ _)⟩
 | .fl i t,n,listed,s,h,β,w,a,aj,k,next=>by
   refine⟨λhc=>?_,λhc=>by simp[kM]at hc⟩
   simp only[kM,Hy,bY,Lr,ne_eq]at hc;obtain⟨⟨hn,hb⟩,hc⟩:=hc;obtain⟨n,rfl⟩:∃m,n=m+1:=⟨n - 1,by omega⟩
   unfold Dl at hb;cases hi:ops[i]? with
   | none=>rw[hi]at hb;simp at hb
   | some o=>
     rw[hi]at hb;simp only[bY]at hb;simp only[Dn,hi,qZ]at k;have lH:o∈ops.toList:=gZ (i:=i) (by simpa using hi)
     obtain⟨⟨⟨hf,hfree⟩,hr⟩,hl⟩:=hb;obtain⟨v,s',hy,k',aT⟩:=xQ ok aj (hg.mono aj.ok.hle) hf k;have hq:xK ops i=true:=by
      simp only[xK,hi];exact uN hf
     refine EH (bl:=YE ops listed i) hi (Region.noSelect_spec hs) hq n listed a w (Region.free_spec hi hfree) (λe=>?_) (by simpa using hr) hy (λ_=>nG.refl w)
      ((yZ ok hg hs t aT k' λs2 h2 β2 w2 a2 k2 iD bH sm=>next s2 h2 β2 w2 a2 k2 iD bH (sm.put_mem lH)).1 hc)
     rw[e]at hl;exact BX (by simpa using hl)
 | .op i t,n,listed,s,h,β,w,a,aj,k,next=>by
   have key:n≠0->(ops[i]?).isSome=true->kM ops t true (n - 1) (listed.setIfInBounds i true)=true->Ak P ops i (λa' w'=>(xK ops i=true->nG w w')/\anyI P .any ops (xK ops) R (n - 1) (listed.setIfInBounds i true) a' w') a w:=by
    intro hn hi hc;obtain⟨o,hi⟩:=A91.1 hi;have lH:o∈ops.toList:=gZ (i:=i) (by simpa using hi)
    simp only[Dn,hi,qZ]at k;unfold Ak;simp only[hi];refine qY ok aj (hg.mono aj.ok.hle) k _ JC λs' h' β' w' v k' le AY aT=>⟨λe=>AY (by simpa[xK,hi]using e),?_⟩
    exact(yZ ok hg hs t aT k' λs2 h2 β2 w2 a2 k2 iD bH sm=>next s2 h2 β2 w2 a2 k2 (le.trans iD) bH (sm.put_mem lH)).1 hc
   refine⟨λhc=>?_,λhc j hj=>?_⟩
   .simp only[kM,U0,U1,bY,Lr,ne_eq,Az]at hc;obtain⟨⟨⟨hr,hn⟩,hi⟩,hc⟩:=hc;obtain⟨m,rfl⟩:∃m,n=m+1:=⟨n - 1,by omega⟩
    refine⟨λh0=>by rw[hr]at h0;simp at h0,λj hj=>?_⟩
    rw[hr]at hj;simp at hj;subst hj;exact key hn hi hc
   .simp only[kM,OV,U3,Hy,bY,Lr,ne_eq]at hc;simp only[DT.alts,WM]at hj;subst hj;exact key hc.1.1 hc.1.2 hc.2
 | .alt i t m,n,listed,s,h,β,w,a,aj,k,next=>by
   have key:n≠0->(ops[i]?).isSome=true->kM ops t true (n - 1) (listed.setIfInBounds i true)=true->kM ops m false n listed=true ->
    ∀j∈i :: m.alts,Ak P ops j (λa' w'=>(xK ops j=true->nG w w')/\anyI P .any ops (xK ops) R (n - 1) (listed.setIfInBounds j true) a' w') a w:=by
    intro hn hi hc hm j hj;obtain⟨o,hi⟩:=A91.1 hi;have lH:o∈ops.toList:=gZ (i:=i) (by simpa using hi)
    simp only[Dn,hi,qZ]at k;rcases lU.1 hj with rfl | hj
    .unfold Ak;simp only[hi];refine qY ok aj (hg.mono aj.ok.hle) k.1 _ JC λs' h' β' w' v k' le AY aT=>⟨λe=>AY (by simpa[xK,hi]using e),?_⟩
     exact(yZ ok hg hs t aT k' λs2 h2 β2 w2 a2 k2 iD bH sm=>next s2 h2 β2 w2 a2 k2 (le.trans iD) bH (sm.put_mem lH)).1 hc
    .exact(yZ ok hg hs m aj k.2 next).2 hm j hj
   refine⟨λhc=>?_,λhc j hj=>?_⟩
   .simp only[kM,U0,U1,bY,Lr,ne_eq,Az]at hc;obtain⟨⟨⟨⟨hr,hn⟩,hi⟩,hc⟩,hm⟩:=hc;obtain⟨q,rfl⟩:∃m,n=m+1:=⟨n - 1,by omega⟩
    refine⟨λh0=>by rw[hr]at h0;simp at h0,λj hj=>?_⟩
    rw[hr]at hj;exact key hn hi hc hm j hj
   .simp only[kM,OV,U3,Hy,bY,Lr,ne_eq]at hc;exact key hc.1.1.1 hc.1.1.2 hc.1.2 hc.2 j hj
theorem Sat.drawn(aj:Sat E.n B h0 s h β w a) (n:Nat) (hn:w.drawn<=n):Sat E.n B h0 s h β { w with drawn:=n } a where
 ok:=⟨⟨aj.ok.below.os,aj.ok.below.tape,aj.ok.below.output,aj.ok.below.size,aj.ok.below.block⟩,pI aj.ok.dr hn,aj.ok.len,λi r v h1 h2=>by
  have:=aj.ok.holds i r v h1 h2;cases r<;>cases v<;>exact this,aj.ok.own,aj.ok.inj,aj.ok.hle,aj.ok.hw,aj.ok.hg,aj.ok.kn⟩
 env:=aj.env
 gs:=aj.gs
 defers:=aj.defers
 sz:=aj.sz
 gb:=aj.gb
 gT:=aj.gT
theorem SG(ok:gU P E) (hg:aI E.cx.gd h0){id:Nat}{ol:OT} (ho:vV ops=some ol) (aj:Sat E.n B h0 s h β w a) (k:qZ E (tl ops) ol s K){F:Fence} (hF:Wd F) (hn:Dj ops.toList=true)
 (next:∀s' h' β' w' a',K s'->h.le h'->Sat E.n B h0 s' h' β' w' a'->Same (jL (tl ops)) a a'->Q .normal a' w'):(Code.region id ops true).wpIn F n P Q a w:=by
 unfold vV at ho;have et:tl ops=ops.toList:=by cases ops;rfl
 split at ho
 .rename_i hp;cases ho;simp only[bY]at hp;refine yY hF hn ok.mixed hp.2 (MZ ok hg ops.toList (by simpa using hp.1) (aj.drawn _ (AA _)) (VR _ k) λs' a' k' aT sm=>next _ _ _ _ _ k' (FH.le.refl h) aT (by rw[et];exact sm))
 .simp only at ho;split at ho
  .rename_i hp;cases ho;simp only[bY,Az]at hp;refine wpIn_region_any ok.mixed (JO (sf:=xK ops) (R:=λa w=>Q .normal a w) hF hn (λ_ _ hh=>hh) _ _ _ _ ?_)
   exact(yZ ok hg hp.1 (R:=λa w=>Q .normal a w) (VQ ops ops.size (Array.replicate ops.size false)) (aj.drawn (w.drawn+1) (AA _)) k λs' h' β' w' a' k' le aT sm=>next _ _ _ _ _ k' le aT (by rw[et];exact sm)).1 hp.2
  .cases ho
end
section
variable {P:Program}{E:Env}{B:Base}{h0:FH}{s:St}{h:FH}{β:List RV}{w:World}{a:Act}{o:Oper}{ops:Array Oper}{K:St->Prop}
theorem YG(ok:gU P E) (hg:aI E.cx.gd h0){id:Nat} (ho:ad8 ops=true) (aj:Sat E.n B h0 s h β w a) (k:VT E (tl ops) (tl ops) s K){F:Fence} (hF:Wd F) (hn:Dj ops.toList=true)
 (next:∀s' h' β' w' a',K s'->h.le h'->Sat E.n B h0 s' h' β' w' a'->Same (jL (tl ops)) a a'->Q .normal a' w'):(Code.region id ops true).wpIn F n P Q a w:=by
 unfold ad8 at ho;have et:tl ops=ops.toList:=by cases ops;rfl
 simp only[bY]at ho;rw[et]at next
 refine yY hF hn ok.mixed ho.2 (Bg ok hg ops.toList (by simpa using ho.1) (aj.drawn _ (AA _)) (by rw[et]at k ⊢;exact k) λs' a' k' aT sm=>next _ _ _ _ _ k' (FH.le.refl h) aT sm)
end
abbrev ad9:Op->Bool
 | .call _=>true
 | _=>false
def Bh:Op->Bool
 | .call c=>(match c.callee with
   | .builtin .len=>true
   | _=>false)
 | o=>quietly o
def Na(ops:Array Oper) (i:Nat):Bool:=match ops[i]? with
 | some o=>Bh o.op
 | none=>true
def Qb(ops:Array Oper) (listed:Array Bool) (i:Nat) (bl:List Nat):Bool:=
 (bl.all λj=>!listed.getD j true && (match ops[j]? with | some o=>o.after.any (λe=>Region.binds .any e && (e.on == i || bl.contains e.on)) | none=>false)) &&
 ((List.range ops.size).all λj=>j == i || listed.getD j true || Na ops j || bl.contains j)
theorem Nb{listed:Array Bool}{bl:List Nat} (h:Qb ops listed i bl=true):
 Waits .any ops listed i bl/\∀j,j≠i->listed.getD j true=false->Na ops j=false->j∈bl:=by
 simp only[Qb,bY,Q9]at h;refine⟨λj hj=>?_,λj hji hun hs=>?_⟩
 .have h1:=h.1 j hj;simp only[CO]at h1;refine⟨h1.1,?_⟩;cases ho:ops[j]? with
  | none=>rw[ho]at h1;exact absurd h1.2 (by simp)
  | some o=>
    rw[ho]at h1;obtain⟨e,he,hb⟩:=Array.any_eq_true'.1 h1.2;simp only[bY,xk,Az,adr]at hb;exact⟨o,rfl,e,he,hb.1,hb.2⟩
 .rcases Xj j ops.size with gX | hge
  .have h2:=h.2 j (adw.2 gX);simp only[xk,Az,hji,hun,hs,adr,adt,false_or]at h2;exact h2
  .have:ops[j]?=none:=adp hge;simp[Na,this]at hs
def JX(ops:Array Oper) (listed:Array Bool) (i:Nat):Bool:=match ops[i]? with
 | some o=>jV o.op && Region.free .any ops listed i && (Region.ready .any ops listed).contains i && (!isLoad o.op || Qb ops listed i (YE ops listed i))
 | none=>false
def uh(ops:Array Oper):DT->Bool->Nat->Array Bool->Bool
 | .done,top,n,listed=>top && n == 0 && (Region.ready .any ops listed).isEmpty
 | .fl i t,top,n,listed=>top && n != 0 && JX ops listed i && uh ops t true (n - 1) (listed.setIfInBounds i true)
 | .op i t,top,n,listed=>(!top || Region.ready .any ops listed == [i]) && n != 0 && (ops[i]?).isSome && uh ops t true (n - 1) (listed.setIfInBounds i true)
 | .alt i t m,top,n,listed=>(!top || Region.ready .any ops listed == i :: m.alts) && n != 0 && (ops[i]?).isSome && uh ops t true (n - 1) (listed.setIfInBounds i true) && uh ops m false n listed
def SH(ops:Array Oper):Nat->Array Bool->DT
 | 0,_=>.done
 | f+1,listed=>
   let rs:=Region.ready .any ops listed
   match rs.find? (λi=>JX ops listed i) with
   | some i=>.fl i (SH ops f (listed.setIfInBounds i true))
   | none=>goT (λi=>SH ops f (listed.setIfInBounds i true)) rs
def y5(ops:Array Oper):Option OT:=
 let t:=SH ops ops.size (Array.replicate ops.size false)
 if Region.noSelect ops && uh ops t true ops.size (Array.replicate ops.size false) then some (Dn ops t) else none
abbrev Nc(E:Env) (ops:List Oper) (o:Oper) (s:St) (K:St->Prop):Prop:=match jV o.op with
 | true=>jf E ops o s K
 | false=>match rtP E.cx s o K with
 | some p=>match lV E.n o.dst with
   | false=>False
   | true=>p
 | none=>match ad9 o.op with
   | true=>MV E ops o s K
   | false=>jf E ops o s K
abbrev qy(E:Env) (ops:List Oper):OT->St->(St->Prop)->Prop
 | .done,s,K=>K s
 | .op o t,s,K=>Nc E ops o s λs=>qy E ops t s K
 | .alt o t m,s,K=>(Nc E ops o s λs=>qy E ops t s K)/\qy E ops m s K
abbrev Nh(E:Env):List Oper->Bool
 | []=>false
 | o :: l=>match o.op with
   | .call c=>match c.callee with
     | .value (.func f)=>match E.ip f with
       | some _=>true
       | none=>Nh E l
     | _=>Nh E l
   | _=>Nh E l
section
variable {P:Program}{E:Env}{B:Base}{h0:FH}{s:St}{h:FH}{β:List RV}{w:World}{a:Act}{o:Oper}{ops:Array Oper}{K:St->Prop}
theorem Nj(ok:gU P E) (aj:Sat E.n B h0 s h β w a) (hg:aI E.cx.gd h) (hi:ops[i]?=some o) (k:Nc E (tl ops) o s K){R:Act->World->Prop}
 (next:∀s' h' β' w' v,K s'->h.le h'->(Na ops i=true->nG w w')->Sat E.n B h0 s' h' β' w' (a.put o.dst v)->R (a.put o.dst v) w'):Ak P ops i R a w:=by
 unfold Ak;simp only[hi];unfold Nc at k;have plain:Bh o.op=quietly o.op->jf E (tl ops) o s K->if Region.wanted o (yielded ops a.tmps)=true then o.wp P a w R JC else R (a.put o.dst undef) w:=λhq k=>
  qY ok aj hg k R JC λs' h' β' w' v k' le AY aT=>next s' h' β' w' v k' le (λe=>AY (by rw[<-hq];simpa[Na,hi]using e)) aT
 split at k
 .rename_i hf;refine plain ?_ k;cases ho:o.op with
  | call c=>
    rw[ho]at hf;have:c.callee=.builtin .len:=YF hf;simp[Bh,quietly,this]
  | _=>rfl
 .rename_i hf;split at k
  .rename_i p hp;split at k
   .cases k
   .rename_i hd;refine Yo ok.ti aj hg hd hp k R JC λs' h' β' w' v k' le AY aT=>next s' h' β' w' v k' le (λe=>AY ?_) aT
    simp only[Na,hi]at e;revert e;unfold Bh;split
    .rename_i c hc;split
     .rename_i h2;intro _;rw[hc];simp[quietly,h2]
     .intro e;cases e
    .exact λe=>e
  split at k
  .rename_i hc;refine EZ ok aj hg k R JC λs' h' β' w' v k' le aT=>next s' h' β' w' v k' le (λe=>?_) aT
   exfalso;cases ho:o.op with
   | call c=>
     rw[ho]at hf;simp only[Na,hi,ho,Bh]at e;have h1:c.callee=.builtin .len:=by
      revert e;split
      .rename_i h2;intro _;exact h2
      .intro e;cases e
     have:jV (Op.call c)=true:=by simp[jV,mW,h1]
     rw[this]at hf;cases hf
   | _=>rw[ho]at hc;cases hc
  .rename_i hc;refine plain ?_ k;cases ho:o.op with
   | call c=>rw[ho]at hc;cases hc
   | _=>rfl
theorem uP(ok:gU P E) (hg:aI E.cx.gd h0) (hs:Region.noSelect ops=true){R:Act->World->Prop}:∀(t:DT){n:Nat}{listed:Array Bool}{s:St}{h:FH}{β:List RV}{w:World}{a:Act},
 Sat E.n B h0 s h β w a->qy E (tl ops) (Dn ops t) s K->(∀s' h' β' w' a',K s'->h.le h'->Sat E.n B h0 s' h' β' w' a'->Same (jL ops.toList) a a'->R a' w') ->
 (uh ops t true n listed=true->anyI P .any ops (Na ops) R n listed a w) /\
 (uh ops t false n listed=true->∀i∈t.alts,Ak P ops i (λa' w'=>(Na ops i=true->nG w w')/\anyI P .any ops (Na ops) R (n - 1) (listed.setIfInBounds i true) a' w') a w)
 | .done,n,listed,s,h,β,w,a,aj,k,next=>by
   refine⟨λhc=>?_,λhc=>by simp[uh]at hc⟩
   simp only[uh,Hy,bY,Az]at hc;obtain⟨rfl,hr⟩:=hc;exact⟨by simpa using hr,next _ _ _ _ _ k (FH.le.refl h) aj (Same.refl _ _)⟩
 | .fl i t,n,listed,s,h,β,w,a,aj,k,next=>by
   refine⟨λhc=>?_,λhc=>by simp[uh]at hc⟩
   simp only[uh,Hy,bY,Lr,ne_eq]at hc;obtain⟨⟨hn0,hb⟩,hc⟩:=hc;obtain⟨n,rfl⟩:∃m,n=m+1:=⟨n - 1,by omega⟩
   unfold JX at hb;cases hi:ops[i]? with
   | none=>rw[hi]at hb;simp at hb
   | some o=>
     rw[hi]at hb;simp only[bY]at hb;simp only[Dn,hi,qy]at k;have lH:o∈ops.toList:=gZ (i:=i) (by simpa using hi)
     obtain⟨⟨⟨hf,hfree⟩,hr⟩,hl⟩:=hb;have k:jf E (tl ops) o s λs=>qy E (tl ops) (Dn ops t) s K:=by
      unfold Nc at k;rw[hf]at k;exact k
     obtain⟨v,s',hy,k',aT⟩:=xQ ok aj (hg.mono aj.ok.hle) hf k;have hq:Na ops i=true:=by
      simp only[Na,hi];cases ho:o.op with
      | call c=>
        rw[ho]at hf;have:c.callee=.builtin .len:=YF hf;simp[Bh,this]
      | _=>
        have:=uN hf;rw[ho]at this;exact this
     refine EH (bl:=YE ops listed i) hi (Region.noSelect_spec hs) hq n listed a w (Region.free_spec hi hfree) (λe=>?_) (by simpa using hr) hy (λ_=>nG.refl w)
      ((uP ok hg hs t aT k' λs2 h2 β2 w2 a2 k2 iD bH sm=>next s2 h2 β2 w2 a2 k2 iD bH (sm.put_mem lH)).1 hc)
     rw[e]at hl;exact Nb (by simpa using hl)
 | .op i t,n,listed,s,h,β,w,a,aj,k,next=>by
   have key:n≠0->(ops[i]?).isSome=true->uh ops t true (n - 1) (listed.setIfInBounds i true)=true->Ak P ops i (λa' w'=>(Na ops i=true->nG w w')/\anyI P .any ops (Na ops) R (n - 1) (listed.setIfInBounds i true) a' w') a w:=by
    intro hn0 hi hc;obtain⟨o,hi⟩:=A91.1 hi;have lH:o∈ops.toList:=gZ (i:=i) (by simpa using hi)
    simp only[Dn,hi,qy]at k;exact(Nj ok aj (hg.mono aj.ok.hle) hi k λs' h' β' w' v k' le AY aT=>⟨AY,(uP ok hg hs t aT k' λs2 h2 β2 w2 a2 k2 iD bH sm=>next s2 h2 β2 w2 a2 k2 (le.trans iD) bH (sm.put_mem lH)).1 hc⟩)
   refine⟨λhc=>?_,λhc j hj=>?_⟩
   .simp only[uh,U0,U1,bY,Lr,ne_eq,Az]at hc;obtain⟨⟨⟨hr,hn0⟩,hi⟩,hc⟩:=hc;obtain⟨m,rfl⟩:∃m,n=m+1:=⟨n - 1,by omega⟩
    refine⟨λh0=>by rw[hr]at h0;simp at h0,λj hj=>?_⟩
    rw[hr]at hj;simp at hj;subst hj;exact key hn0 hi hc
   .simp only[uh,OV,U3,Hy,bY,Lr,ne_eq]at hc;simp only[DT.alts,WM]at hj;subst hj;exact key hc.1.1 hc.1.2 hc.2
 | .alt i t mm,n,listed,s,h,β,w,a,aj,k,next=>by
   have key:n≠0->(ops[i]?).isSome=true->uh ops t true (n - 1) (listed.setIfInBounds i true)=true->uh ops mm false n listed=true ->
    ∀j∈i :: mm.alts,Ak P ops j (λa' w'=>(Na ops j=true->nG w w')/\anyI P .any ops (Na ops) R (n - 1) (listed.setIfInBounds j true) a' w') a w:=by
    intro hn0 hi hc hm j hj;obtain⟨o,hi⟩:=A91.1 hi;have lH:o∈ops.toList:=gZ (i:=i) (by simpa using hi)
    simp only[Dn,hi,qy]at k;rcases lU.1 hj with rfl | hj
    .exact(Nj ok aj (hg.mono aj.ok.hle) hi k.1 λs' h' β' w' v k' le AY aT=>⟨AY,(uP ok hg hs t aT k' λs2 h2 β2 w2 a2 k2 iD bH sm=>next s2 h2 β2 w2 a2 k2 (le.trans iD) bH (sm.put_mem lH)).1 hc⟩)
    .exact(uP ok hg hs mm aj k.2 next).2 hm j hj
   refine⟨λhc=>?_,λhc j hj=>?_⟩
   .simp only[uh,U0,U1,bY,Lr,ne_eq,Az]at hc;obtain⟨⟨⟨⟨hr,hn0⟩,hi⟩,hc⟩,hm⟩:=hc;obtain⟨q,rfl⟩:∃m,n=m+1:=⟨n - 1,by omega⟩
    refine⟨λh0=>by rw[hr]at h0;simp at h0,λj hj=>?_⟩
    rw[hr]at hj;exact key hn0 hi hc hm j hj
   .simp only[uh,OV,U3,Hy,bY,Lr,ne_eq]at hc;exact key hc.1.1.1 hc.1.1.2 hc.1.2 hc.2 j hj
theorem YH(ok:gU P E) (hg:aI E.cx.gd h0){id:Nat}{ol:OT} (ho:y5 ops=some ol) (aj:Sat E.n B h0 s h β w a) (k:qy E (tl ops) ol s K){F:Fence} (hF:Wd F) (hn:Dj ops.toList=true)
 (next:∀s' h' β' w' a',K s'->h.le h'->Sat E.n B h0 s' h' β' w' a'->Same (jL (tl ops)) a a'->Q .normal a' w'):(Code.region id ops true).wpIn F n P Q a w:=by
 unfold y5 at ho;have et:tl ops=ops.toList:=by cases ops;rfl
 simp only at ho;split at ho
 .rename_i hp;cases ho;simp only[bY,Az]at hp;refine wpIn_region_any ok.mixed (JO (sf:=Na ops) (R:=λa w=>Q .normal a w) hF hn (λ_ _ hh=>hh) _ _ _ _ ?_)
  exact(uP ok hg hp.1 (R:=λa w=>Q .normal a w) (SH ops ops.size (Array.replicate ops.size false)) (aj.drawn (w.drawn+1) (AA _)) k λs' h' β' w' a' k' le aT sm=>next _ _ _ _ _ k' le aT (by rw[et];exact sm)).1 hp.2
 .cases ho
end
abbrev isNil{α:Type}:List α->Bool
 | []=>true
 | _ :: _=>false
abbrev uQ(seen:List Nat):List (Nat×Gd×bg)->List (Nat×Gd×bg)
 | []=>[]
 | (k,g,e) :: l=>match iZ k seen with
   | true=>uQ seen l
   | false=>match isNil g with
     | true=>(k,g,e) :: uQ (k :: seen) l
     | false=>uQ (k :: seen) l
abbrev mJ:List (Gd×ak)->List (Gd×ak)
 | []=>[]
 | (g,r) :: l=>match isNil g with
   | true=>([],r) :: mJ l
   | false=>([],.gone) :: mJ l
abbrev clean(s:St):St:={ env:=uQ [] s.env,T:=mJ s.T,gl:=[],gs:=[] }
theorem sF:∀{l:List (Nat×Gd×bg)}{seen:List Nat}{t:Nat}{G:Gd}{e:bg},iG (uQ seen l) t=some (G,e)->iZ t seen=false/\iG l t=some (G,e)/\G=[]
 | [],_,_,_,_,h=>by simp[uQ,iG]at h
 | (k,g,e0) :: l,seen,t,G,e,h=>by
   unfold uQ at h;split at h
   .rename_i hm;obtain⟨h1,h2,h3⟩:=sF h;refine⟨h1,?_,h3⟩;rw[aX,if_neg]
    .exact h2
    .rintro rfl;rw[hm]at h1;cases h1
   .rename_i hm;have sub:iG (uQ (k :: seen) l) t=some (G,e)->iZ t seen=false/\iG ((k,g,e0) :: l) t=some (G,e)/\G=[]:=by
     intro h;obtain⟨h1,h2,h3⟩:=sF h;rw[jy,l7]at h1;refine⟨h1.2,?_,h3⟩;rw[aX,if_neg]
     .exact h2
     .rintro rfl;exact Xc h1.1 rfl
    split at h
    .rename_i hn;rw[aX]at h;split at h
     .rename_i hk;subst hk;cases h;refine⟨hm,by rw[aX,if_pos rfl],?_⟩
      cases g with
      | nil=>rfl
      | cons _ _=>cases hn
     .exact sub h
    .exact sub h
theorem E8(gl:List Bool):∀(T:List (Gd×ak)) (i:Nat) (r:ak),(eff [] (mJ T))[i]?=some r->r.live=true->(eff gl T)[i]?=some r
 | [],i,r,h,_=>by simp[mJ,eff]at h
 | (g,r0) :: l,i,r,h,hl=>by
   have e1:eff [] (mJ ((g,r0) :: l))=(match isNil g with | true=>r0 | false=>ak.gone) :: eff [] (mJ l):=by
    simp only[mJ];cases isNil g<;>rfl
   rw[e1]at h;cases i with
   | zero=>
     simp only[UQ,WO]at h;cases g with
     | nil=>simp only[isNil]at h;subst h;rfl
     | cons _ _=>simp only[isNil]at h;subst h;cases hl
   | succ i=>
     simp only[ado,eff]at h ⊢
     exact E8 gl l i r h hl
theorem Fa:∀(T:List (Gd×ak)),(mJ T).length=T.length
 | []=>rfl
 | (g,r) :: l=>by simp only[mJ];split<;>simp[Fa l]
theorem xR:∀{T:List (Gd×ak)}{p:Gd×ak},p∈mJ T->p.1=[]
 | [],p,h=>by simp[mJ]at h
 | (g,r) :: l,p,h=>by
   simp only[mJ]at h;split at h
   .rcases lU.1 h with rfl | h
    .rfl
    .exact xR h
   .rcases lU.1 h with rfl | h
    .rfl
    .exact xR h
theorem OK.weaken{T T':List ak} (ok:OK B h0 T h β w) (hl:T'.length=T.length) (sub:∀(i:Nat) r,T'[i]?=some r->r.live=true->T[i]?=some r):OK B h0 T' h β w where
 below:=ok.below
 dr:=ok.dr
 len:=by rw[hl];exact ok.len
 holds:=by
  intro i r v e e';cases hr:r.live with
  | true=>exact ok.holds i r v (sub i r e hr) e'
  | false=>cases r<;>first | (cases hr;done) | (cases v<;>trivial)
 own:=λi r v b e l e' hb=>ok.own i r v b (sub i r e l) l e' hb
 inj:=λi j r r' u v b e l e' l' f f' hb hb'=>ok.inj i j r r' u v b (sub i r e l) l (sub j r' e' l') l' f f' hb hb'
 hle:=ok.hle
 hw:=ok.hw
 hg:=ok.hg
 kn:=ok.kn
theorem Sat.clean{N:Nat}{B:Base}{h0:FH}{s:St}{h:FH}{β:List RV}{w:World}{a:Act} (aj:Sat N B h0 s h β w a):Sat N B h0 (clean s) h β w a:=by
 refine⟨?_,?_,?_,aj.defers,aj.sz,?_,?_⟩
 .exact aj.ok.weaken (by simp[jh,Fa]) λi r e l=>E8 s.gl s.T i r e l
 .intro t G e ht;obtain⟨_,h1,rfl⟩:=sF ht;exact aj.env t [] e h1
 .intro d i hi;have hi:Xv [] d=some i:=hi;cases hi
 .intro t G e ht;obtain⟨_,h1,rfl⟩:=sF ht;rfl
 .intro p hp;rw[xR hp]
abbrev writes:Code->List Nat
 | .region _ ops _=>jL (tl ops)
 | .seq a b=>eG (writes a) (writes b)
 | .cond _ a b=>eG (writes a) (writes b)
 | .block _ c=>writes c
 | .loop c=>writes c
 | _=>[]
abbrev keyOf:Code->Nat
 | .region id _ _=>id
 | .seq a _=>keyOf a
 | .cond _ a _=>keyOf a
 | .block _ c=>keyOf c
 | .loop c=>keyOf c
 | _=>0
abbrev Dp(n:Nat):SC->Bool
 | .own i _=>Nat.ble (i+1) n
 | .row i=>Nat.ble (i+1) n
 | .jU i _ _ _=>Nat.ble (i+1) n
 | .sub i _=>Nat.ble (i+1) n
 | .lX i _ _ _ _=>Nat.ble (i+1) n
 | _=>true
abbrev y7(n:Nat):SV->Bool
 | .c x=>Dp n x
 | .agg xs=>allL (Dp n) xs
 | _=>true
abbrev lJ(n:Nat):ak->Bool
 | .blk _ xs=>allL (Dp n) xs
 | _=>true
abbrev kU:SC->Bool
 | .v _=>true
 | .sl _ _=>true
 | .one _ _=>true
 | .fp _ _=>true
 | .abs _=>true
 | .junk=>true
 | _=>false
abbrev Bj:SV->Bool
 | .c x=>kU x
 | .agg xs=>allL kU xs
 | _=>true
abbrev sG:bg->Bool
 | .one v=>Bj v
 | .iJ vs=>allL Bj vs
abbrev qc(ws seen:List Nat):List (Nat×Gd×bg)->List (Nat×Gd×bg)
 | []=>[]
 | (k,g,e) :: l=>match iZ k seen with
   | true=>qc ws seen l
   | false=>match iZ k ws with
     | true=>qc ws (k :: seen) l
     | false=>match dG (isNil g) (sG e) with
       | true=>(k,g,e) :: qc ws (k :: seen) l
       | false=>qc ws (k :: seen) l
abbrev keepR(n:Nat) (ws seen:List Nat):List (Nat×Gd×bg)->List (Nat×SV)
 | []=>[]
 | (k,g,e) :: l=>match iZ k seen with
   | true=>keepR n ws seen l
   | false=>match iZ k ws with
     | true=>keepR n ws (k :: seen) l
     | false=>match isNil g with
       | true=>match e with
         | .one (.c (.own i off))=>match Nat.ble (i+1) n with
           | true=>(k,.c (.own i off)) :: keepR n ws (k :: seen) l
           | false=>keepR n ws (k :: seen) l
         | .one (.c (.row i))=>match Nat.ble (i+1) n with
           | true=>(k,.c (.row i)) :: keepR n ws (k :: seen) l
           | false=>keepR n ws (k :: seen) l
         | _=>keepR n ws (k :: seen) l
       | false=>keepR n ws (k :: seen) l
abbrev Fb(s:St):List (Nat×SV)->Bool
 | []=>true
 | (k,.c (.own i off)) :: l=>match iG s.env k with
   | some ([],.one (.c (.own i' off')))=>dG (dG (Nat.beq i i') (Nat.beq off off')) (Fb s l)
   | _=>false
 | (k,.c (.row i)) :: l=>match iG s.env k with
   | some ([],.one (.c (.row i')))=>dG (Nat.beq i i') (Fb s l)
   | _=>false
 | _=>false
abbrev Fe:List (Nat×SV)->List (Nat×Gd×bg)
 | []=>[]
 | (k,v) :: l=>(k,[],.one v) :: Fe l
abbrev kD:List (Nat×ak)->List (Gd×ak)->List (Gd×ak)
 | [],T=>T
 | (i,r) :: l,T=>kD l (dF T i ([],r))
abbrev qA(ws:List Nat) (s:St) (sl:List (Nat×SV)) (rs:List (Nat×ak)):St:=
 { env:=eG (Fe sl) (eG (Fe (keepR (aN s.T) ws [] s.env)) (qc ws [] s.env)),T:=kD rs s.T,gl:=[],gs:=[] }
abbrev YJ:SV->SV
 | .c x=>match x with
   | .abs (.U6 sh l)=>.c (.sl sh l)
   | x=>.c x
 | v=>v
abbrev G9(s:St):List (Nat×SV)->Prop
 | []=>True
 | (k,v) :: l=>(match iG s.env k with
   | some ([],.one u)=>YJ u=v
   | _=>False)/\G9 s l
abbrev wR(n:Nat) (T:List (Gd×ak)):Bool:=allL (λp=>dG (isNil p.1) (lJ n p.2)) T
abbrev Io(n:Nat) (ws:List Nat) (sl:List (Nat×SV)):Bool:=allL (λp=>dG (y7 n p.2) (iZ p.1 ws)) sl
abbrev YK(s:St) (k:Nat) (t:TypeId) (sh:Sh):St:=match iG s.env k with
 | some ([],.one (.c (.v (.slice none 0 0))))=>{ s with T:=snoc s.T ([],.row t sh []),env:=(k,[],.one (.c (.row (aN s.T)))) :: s.env,gs:=rmG s.gs k }
 | some ([],.one (.c (.own i 0)))=>match eX s.T i with
   | some ([],.blk t' [.v (.slice none 0 0)])=>{ s with T:=dF s.T i ([],.blk t' [.sl sh []]) }
   | _=>s
 | _=>s
abbrev JY(s:St) (k:Nat):St:=match iG s.env k with
 | some ([],.one (.c (.row r)))=>MF s r
 | some ([],.one (.c (.abs (.U6 sh l))))=>{ s with env:=(k,[],.one (.c (.sl sh l))) :: s.env,gs:=rmG s.gs k }
 | _=>s
abbrev ru(s:St):List Nat->St
 | []=>s
 | k :: l=>ru (JY s k) l
theorem Sat.ru{N:Nat}{B:Base}{h0:FH}{w:World}{a:Act}{β:List RV}:∀(l:List Nat){s:St}{h:FH},Sat N B h0 s h β w a->∃h',h.le h'/\Sat N B h0 (ru s l) h' β w a
 | [],s,h,aj=>⟨h,FH.le.refl h,aj⟩
 | k :: l,s,h,aj=>by
   have h1:∃h',h.le h'/\Sat N B h0 (JY s k) h' β w a:=by
    unfold JY;split
    .exact aj.aiY _
    .rename_i sh l hk;refine⟨h,FH.le.refl h,aj.ok,?_,?_,aj.defers,aj.sz,?_,aj.gT⟩
     .intro t' G e ht;rw[aX]at ht;split at ht
      .rename_i hkt;subst hkt;cases ht;obtain⟨z,z1,z2,z3⟩:=aj.env k _ _ hk;have c:dD h β (.c (.abs (.U6 sh l))) z:=z2 rfl;exact⟨z,z1,λ_=>⟨c.1.1,c.2⟩,λhh=>by cases hh⟩
      .exact aj.env t' G e ht
     .intro d i hi;obtain⟨hne,hi⟩:=AO _ _ _ _ hi;obtain⟨G,b,q1,q2⟩:=aj.gs d i hi;exact⟨G,b,by rw[aX,if_neg (Ne.symm hne)];exact q1,q2⟩
     .intro t' G e ht;rw[aX]at ht;split at ht
      .cases ht;rfl
      .exact aj.gb _ _ _ ht
    .exact⟨h,FH.le.refl h,aj⟩
   obtain⟨h1,le1,jr⟩:=h1;obtain⟨h2,iD,bH⟩:=Sat.ru l jr;exact⟨h2,le1.trans iD,bH⟩
abbrev Ip(s:St):List (Nat×TypeId×Sh)->St
 | []=>s
 | (k,t,sh) :: l=>Ip (YK s k t sh) l
theorem Sat.YK{N:Nat}{B:Base}{h0:FH}{s:St}{h:FH}{β:List RV}{w:World}{a:Act} (aj:Sat N B h0 s h β w a) (k:Nat) (t:TypeId) (sh:Sh):∃β',Sat N B h0 (YK s k t sh) h β' w a:=by
 unfold l9.YK;split
 .rename_i hk;obtain⟨z,z1,z2,_⟩:=aj.env k _ _ hk;have ez:z=.slice none 0 0:=(z2 rfl:dD h β (.c (.v (.slice none 0 0))) z).1.1;subst ez;have ok:OK B h0 (eff s.gl (snoc s.T ([],.row t sh []))) h (β++[.row (.slice none 0 0)]) w:=by
   rw[iU];exact aj.ok.add (r:=.row t sh []) (v:=.row (.slice none 0 0)) (dh w none) (λb hb=>by rw[aZ]at hb;simp[aA]at hb) (.inl ⟨rfl,rfl⟩)
  have gT:∀p∈snoc s.T (([]:Gd),ak.row t sh []),vF s.gl.length p.1=true:=by
   intro p hp;rw[iM,CX]at hp;rcases hp with hp | hp
   .exact aj.gT p hp
   .simp at hp;subst hp;rfl
  have sm:=aj.mem ok (FH.le.refl h) (Ext.append _ _) gT;refine⟨_,ok,?_,?_,aj.defers,aj.sz,?_,gT⟩
  .intro t' G e ht;rw[aX]at ht;split at ht
   .rename_i hkt;subst hkt;cases ht;refine⟨_,z1,λ_=>⟨?_,rfl,rfl⟩,λhh=>by cases hh⟩
    refine⟨.row (.slice none 0 0),?_,rfl⟩;have:aN s.T=β.length:=by rw[aj.ok.len,jh,bF]
    rw[this];simp
   .exact sm.env t' G e ht
  .intro d i hi;obtain⟨hne,hi⟩:=AO _ _ _ _ hi;obtain⟨G,b,q1,q2⟩:=aj.gs d i hi;exact⟨G,b,by rw[aX,if_neg (Ne.symm hne)];exact q1,q2⟩
  .intro t' G e ht;rw[aX]at ht;split at ht
   .cases ht;rfl
   .exact aj.gb _ _ _ ht
 .rename_i i hk;split
  .rename_i t' hT;refine⟨β,?_,aj.env,aj.gs,aj.defers,aj.sz,aj.gb,?_⟩
   .show OK B h0 (eff s.gl (dF s.T i ([],.blk t' [.sl sh []]))) h β w;rw[fV];refine aj.ok.PV (bG hT (show gv s.gl []=true from rfl)) rfl λv hv=>?_
    cases v with
    | blk b=>
      obtain⟨ys,e1,al⟩:=hv;refine⟨ys,e1,?_⟩;cases ys with
      | nil=>exact al.elim
      | cons y ys=>
        cases ys with
        | cons _ _=>exact al.2.elim
        | nil=>
          obtain⟨⟨c,o⟩,_⟩:=al;obtain rfl:y=.slice none 0 0:=c.1;exact⟨⟨.inl ⟨rfl,rfl⟩,o⟩,trivial⟩
    | row _=>exact hv.elim
    | deep _ _=>exact hv.elim
    | no=>exact hv.elim
   .intro p hp;rw[gI]at hp;rcases Jg hp with hp | hp
    .exact aj.gT p hp
    .subst hp;rfl
  .exact⟨β,aj⟩
 .exact⟨β,aj⟩
theorem Sat.Ip{N:Nat}{B:Base}{h0 h:FH}{w:World}{a:Act}:∀(l:List (Nat×TypeId×Sh)){s:St}{β:List RV},Sat N B h0 s h β w a->∃β',Sat N B h0 (Ip s l) h β' w a
 | [],s,β,aj=>⟨β,aj⟩
 | (k,t,sh) :: l,s,β,aj=>by
   obtain⟨β1,jr⟩:=aj.YK k t sh;exact Sat.Ip l jr
abbrev anv(body:St->(Exit->St->Prop)->Prop) (ws:List Nat) (la:LA) (s:St) (K:Exit->St->Prop):Prop:=
 (∃x,la.inv x/\G9 s (la.slots x)/\s.T=kD (la.res x) s.T) /\
 ∀x,la.inv x->match dG (wR (aN s.T) (kD (la.res x) s.T)) (Io (aN s.T) ws (la.slots x)) with
   | false=>False
   | true=>body (qA ws s (la.slots x) (la.res x)) λe s'=>match e with
     | .normal=>match Fb (tZ la.can (nR la.ren s')) (keepR (aN s.T) ws [] s.env) with
       | true=>∃x',la.inv x'/\G9 (tZ la.can (nR la.ren s')) (la.slots x')/\qK (aN s.T) (tZ la.can (nR la.ren s')).T=kD (la.res x') s.T/\la.meas x' < la.meas x
       | false=>False
     | e=>K e s'
abbrev JZ(body:St->(Exit->St->Prop)->Prop):Nat->St->(Exit->St->Prop)->Prop
 | 0,_,_=>False
 | n+1,s,K=>body s λe s'=>match e with
   | .normal=>JZ body n s' K
   | e=>K e s'
abbrev aea(E:Env) (c:Code) (s:St):Option jK:=match E.ann (keyOf c) with
 | some f=>some (f s)
 | none=>none
abbrev gq(s:St) (t:Nat):Int:=match iG s.env t with
 | some (_,.one (.c (.v (.int _ n))))=>n
 | _=>0
abbrev YL(s:St) (t:Nat):ByteArray:=match iG s.env t with
 | some (_,.one (.c (.v (.string b))))=>b
 | _=>ByteArray.empty
abbrev slotL(sh:Sh) (s:St) (t:Nat):List sh.den:=match iG s.env t with
 | some (_,.one v)=>match Pn s sh v with
   | some l=>l
   | none=>[]
 | _=>[]
abbrev br(b:Bool) (X Y:Prop):Prop:=match b with
 | true=>X
 | false=>Y
theorem ah{b:Bool}{X Y:Prop}:br b X Y↔(b=true->X)/\(b=false->Y):=by cases b<;>simp[br]
abbrev Nk:(ps:List Nat)->(ss:List Sh)->cO ss->List (Nat×Gd×bg)
 | p :: ps,s :: ss,d=>(p,[],.one (iH s d.1)) :: Nk ps ss d.2
 | _,_,_=>[]
abbrev wS(n:Nat):List Nat->List Sh->Bool
 | [],[]=>true
 | p :: ps,_ :: ss=>dG (dG (Nat.ble (p+1) n) (!(iZ p ps))) (wS n ps ss)
 | _,_=>false
abbrev rdE(ws dr:List Nat) (s:St):List (Nat×Gd×bg):=eG (Fe (keepR (aN s.T) ws [] s.env)) (qc dr [] s.env)
abbrev Qc(n:Nat) (body:St->(Exit->St->Prop)->Prop) (ws:List Nat) (ra:RA) (ps:List Nat) (ss:List Sh) (L:List (cO ss)) (s:St) (K:Exit->St->Prop):Prop:=
 match wS n ps ss with
 | false=>False
 | true=>
 (∃x,ra.inv 0 x/\s.T=kD (ra.res x) s.T) /\
 (∀i x d,ra.inv i x->L[i]?=some d->match wR (aN s.T) (kD (ra.res x) s.T) with
  | false=>False
  | true=>body { env:=eG (Nk ps ss d) (rdE ws (eG ra.drop ps) s),T:=kD (ra.res x) s.T,gl:=[],gs:=[] } λe s'=>match Fb s' (keepR (aN s.T) ws [] s.env) with
    | false=>False
    | true=>match e with
      | .normal=>∃x',ra.inv (i+1) x'/\qK (aN s.T) s'.T=kD (ra.res x') s.T
      | .ret=>K .ret { env:=rdE ws ra.drop s,T:=s'.T,gl:=s'.gl,gs:=[] }
      | .exit j=>K (.exit j) { env:=rdE ws ra.drop s,T:=s'.T,gl:=s'.gl,gs:=[] }
      | _=>False) /\
 ∀x,ra.inv (aN L) x->match wR (aN s.T) (kD (ra.res x) s.T) with
   | false=>False
   | true=>K .normal { env:=rdE ws ra.drop s,T:=kD (ra.res x) s.T,gl:=[],gs:=[] }
abbrev tJ(s:St) (GH ug:List Nat) (nl:List (Nat×TypeId×Sh)) (sD:List (Nat×Nat×TypeId×Sh)) (dp:List (Nat×TypeId×Sh×Nat)):St:=vU (Ii (Ip (Bc (ru s GH) ug) nl) sD) dp
theorem Sat.tJ{N:Nat}{B:Base}{h0 h:FH}{w:World}{a:Act}{s:St}{β:List RV} (aj:Sat N B h0 s h β w a) (GH ug:List Nat) (nl:List (Nat×TypeId×Sh)) (sD:List (Nat×Nat×TypeId×Sh)) (dp:List (Nat×TypeId×Sh×Nat)):∃h' β',h.le h'/\Sat N B h0 (tJ s GH ug nl sD dp) h' β' w a:=by
 obtain⟨h1,le1,jr⟩:=Sat.ru GH aj;obtain⟨h2,β2,iD,bH⟩:=Sat.Bc (l:=ug) jr;obtain⟨β3,Qd⟩:=Sat.Ip nl bH;obtain⟨β4,YM⟩:=Sat.Ii sD Qd;obtain⟨β5,apQ⟩:=Sat.vU dp YM;exact⟨h2,β5,le1.trans iD,apQ⟩
abbrev xU:Nat->St->St
 | 0,s=>s
 | n+1,s=>xU n { s with T:=snoc s.T ([],.gone) }
theorem Sat.xU{N:Nat}{B:Base}{h0 h:FH}{w:World}{a:Act}:∀(n:Nat){s:St}{β:List RV},Sat N B h0 s h β w a->∃β',Sat N B h0 (xU n s) h β' w a
 | 0,s,β,aj=>⟨β,aj⟩
 | n+1,s,β,aj=>by
   refine Sat.xU n (β:=β++[.no]) (s:={ s with T:=snoc s.T ([],.gone) }) ?_
   refine aj.mem ?_ (FH.le.refl h) (Ext.append _ _) λp hp=>?_
   .rw[iU];exact aj.ok.add (r:=.gone) (v:=.no) (dh w none) (λb hb=>(OY hb).elim) trivial
   .rw[iM,CX]at hp;rcases hp with hp | hp
    .exact aj.gT p hp
    .simp at hp;subst hp;rfl
abbrev apR(E:Env) (c:Code) (s:St):Option LA:=match aea E c s with
 | some (.cut la)=>some la
 | _=>none
abbrev anw(ws:List Nat) (la:LA) (s s':St):Prop:=match Fb (tZ la.can (nR la.ren (tJ s' la.GH la.ug la.nil la.sD la.deep))) (keepR (aN s.T) ws [] s.env) with
 | true=>∃v,la.inv v/\G9 (tZ la.can (nR la.ren (tJ s' la.GH la.ug la.nil la.sD la.deep))) (la.slots v)/\qK (aN s.T) (tZ la.can (nR la.ren (tJ s' la.GH la.ug la.nil la.sD la.deep))).T=kD (la.res v) s.T
 | false=>False
abbrev jv:Env->Code->St->(Exit->St->Prop)->Prop
 | E,.skip,s,K=>K .normal s
 | E,.region _ ops draw,s,K=>match Dj (tl ops) with
   | false=>False
   | true=>match draw with
     | false=>ad6 E (tl ops) (tl ops) s λs=>K .normal (clean s)
     | true=>match Bf E.cx (tl ops) with
       | true=>match ad8 ops with
         | true=>VT E (tl ops) (tl ops) s λs=>K .normal (clean s)
         | false=>False
       | false=>match orB E.cx.rt (Nh E (tl ops)) with
         | true=>match y5 ops with
           | some l=>qy E (tl ops) l s λs=>K .normal (clean s)
           | none=>False
         | false=>match vV ops with
           | some l=>qZ E (tl ops) l s λs=>K .normal (clean s)
           | none=>False
 | E,.seq x y,s,K=>match apR E y s with
   | some la=>(jv E x (xU la.pad s) λe s'=>match e with
    | .normal=>anw (eG la.drop (writes x)) la (xU la.pad s) s'
    | e=>K e s')/\∀v,la.inv v->match dG (wR (aN (xU la.pad s).T) (kD (la.res v) (xU la.pad s).T)) (Io (aN (xU la.pad s).T) (eG la.drop (writes x)) (la.slots v)) with
      | false=>False
      | true=>jv E y (qA (eG la.drop (writes x)) (xU la.pad s) (la.slots v) (la.res v)) K
   | none=>jv E x s λe s'=>match e with
     | .normal=>jv E y s' K
     | e=>K e s'
 | E,.cond c x y,s,K=>match bT E.cx s [] c with
   | some (.one (.c (.v (.bool b))))=>br b (jv E x s K) (jv E y s K)
   | _=>False
 | E,.block id c,s,K=>jv E c s λe s'=>match e with
   | .exit i=>match Nat.beq i id with
     | true=>K .normal s'
     | false=>K (.exit i) s'
   | e=>K e s'
 | E,.loop c,s,K=>match aea E c s with
   | some (.inv la)=>anv (jv E c) (eG la.drop (writes c)) la (xU la.pad (tJ s la.GH la.ug la.nil la.sD la.deep)) K
   | some (.ET n)=>JZ (jv E c) n s K
   | _=>False
 | E,.rangeFunc g ps GI c,s,K=>match E.rd with
   | true=>False
   | false=>match bT E.cx s [] g with
     | some (.one (.c (.abs (.seq P' ss L))))=>match aea E c s with
       | some (.rng ra)=>E.P=some P'/\Qc E.n (λs K=>jv { E with rd:=true } GI s λe s'=>match e with
         | .normal=>jv { E with rd:=true } c s' K
         | _=>False) (eG ra.drop (eG (tl ps) (eG (writes GI) (writes c)))) ra (tl ps) ss L (tJ s ra.GH ra.ug ra.nil ra.sD ra.deep) K
       | _=>False
     | _=>False
 | E,.exit i,s,K=>K (.exit i) s
 | E,.ret,s,K=>K .ret s
 | _,_,_,_=>False
abbrev xW(D:Nat):Deferred:={ target:=.collected D,args:=#[] }
theorem aec(w:World) (a b:Obj) (G:Nat->Prop):Gs G w ((w.alloc a).alloc b):=
 ⟨rfl,rfl,rfl,by simp;omega,o9 _,λk hk _=>by
  rw[Below.heap_alloc _ _ _ (by simp;omega),Below.heap_alloc _ _ _ hk]⟩
def ajh(A:World) (l D:Nat) (G:Nat->Prop) (I:World->Prop) (Ix:Code->World->Prop):Exit->Act->World->Prop
 | .normal,_,A'=>(∀b,b=l\/b=D\/G b->A'.heap[b]?=A.heap[b]?)/\I A'
 | .ret,_,A'=>(∀b,b=l\/b=D\/G b->A'.heap[b]?=A.heap[b]?)/\Ix .ret A'
 | .exit id,_,A'=>(∀b,b=l\/b=D\/G b->A'.heap[b]?=A.heap[b]?)/\Ix (.exit id) A'
 | .goto t,_,_=>False
 | .panic _,_,_=>False
 | .outgrown,_,_=>False
theorem VU{ss:List Sh}{L:List (cO ss)}{g:Operand}{ps:Array Tmp}{GI:Code}
 (gv:Gives P h ss L (a.eval g)) (hps:ps.size=ss.length)
 (I:Nat->(Nat->Prop)->World->Prop) (Ix:Code->(Nat->Prop)->World->Prop) (hI:∀i G A,I i G A->HW h A) (hX:∀c G A,Ix c G A->HW h A)
 (hIg:∀i G G' A A',I i G A->Gs G A A'->Own' G G' A A'->I i G' A') (hXg:∀c G G' A A',Ix c G A->Gs G A A'->Own' G G' A A'->Ix c G' A')
 (hIp:∀i G A l o o',I i G A->w.heap.size<=l->A.heap[l]?=some o->ours o=false->I i G (A.putObj l o'))
 (hXp:∀c G A l o o',Ix c G A->w.heap.size<=l->A.heap[l]?=some o->ours o=false->Ix c G (A.putObj l o'))
 (h0:I 0 (λ_=>False) w)
 (hbody:∀(i:Nat) (d:cO ss) (vs:List Value) (G:Nat->Prop) (A:World) (l:Nat) (o1 VW o2:Obj),L[i]?=some d->BP h ss d vs->I i G A->w.heap.size < l->A.heap[l]?=some o1->ours o1=false->ours VW=false->A.heap[w.heap.size]?=some o2->ours o2=false->¬G l ->
  GI.wpIn (Fence.wide.inRound l) 0 P (Exit.then (λa1 A1=>(∀b,b=l\/b=w.heap.size\/G b->A1.heap[b]?=A.heap[b]?) /\
   body.wpIn (Fence.wide.inRound l) 0 P (ajh (A1.putObj l VW) l w.heap.size G (I (i+1) G) (λc=>Ix c G)) a1 (A1.putObj l VW)) (λ_ _ _=>False)) { tmps:=(ps.zip vs.toArray).foldl (λt (p,v)=>t.setIfInBounds p v) a.tmps,defers:=[] } A)
 (hdone:∀G A,I L.length G A->A.heap[w.heap.size]?=some (.deferred (some []))->Q .normal { a with defers:=xW w.heap.size :: a.defers } A)
 (hret:∀G A,Ix .ret G A->A.heap[w.heap.size]?=some (.deferred (some []))->Q .ret { a with defers:=xW w.heap.size :: a.defers } A)
 (anx:∀j G A,Ix (.exit j) G A->A.heap[w.heap.size]?=some (.deferred (some []))->Q (.exit j) { a with defers:=xW w.heap.size :: a.defers } A):
 (Code.rangeFunc g ps GI body).wpIn Fence.wide n P Q a w:=by
 refine wpIn_rangeFunc λfn hfn=>?_
 obtain⟨gf,lb,hg,⟨fng,hfg,hbg,hng⟩,gives⟩:=gv;obtain⟨rec,hrec⟩:∃rec:LoopState->Option Code->Loop,rec=λst pe=>{ state:=st,pending:=pe,fn,tmps:=a.tmps,params:=ps,assign:=GI,body,defers:=w.heap.size }:=⟨_,rfl⟩
 obtain⟨W1,hW1⟩:∃W1,(w.alloc (.deferred (some []))).alloc (.loop (rec .ready none))=W1:=⟨_,rfl⟩;have hL1:W1.heap[w.heap.size+1]?=some (.loop (rec .ready none)):=by
  rw[<-hW1];have:=World.alloc_heap_new (w.alloc (.deferred (some []))) (.loop (rec .ready none));rwa [World.size_alloc]at this
 have hD1:W1.heap[w.heap.size]?=some (.deferred (some [])):=by
  rw[<-hW1];exact(Below.heap_alloc _ _ _ (by simp)).trans (World.alloc_heap_new w _)
 have hI1:I 0 (λ_=>False) W1:=hIg 0 _ _ _ _ h0 (by rw[<-hW1];exact aec w _ _ _) (λb hb=>hb.elim)
 have kd:∀{G G':Nat->Prop}{A A':World}{k:Nat}{o:Obj},A.heap[k]?=some o->¬G k->Gs G A A'->Own' G G' A A'->A'.heap[k]?=some o/\¬G' k:=λhk hn hgs ho=>
  ⟨(hgs.block _ (DZ.1 hk).1 hn).trans hk,λhh=>by
    have h1:=(DZ.1 hk).1;rcases(ho _ hh).2 with h2 | h2
    .exact hn h2
    .omega⟩
 refine⟨w.heap.size+1,[xW w.heap.size],W1,{ target:=.fn (.func gf) lb,args:=#[.func (.yield (w.heap.size+1)) #[] #[]] },W1,gf,
  #[.func (.yield (w.heap.size+1)) #[] #[]]++lb,W1,?_,?_,?_,?_,λhh=>(by cases hh),?_⟩
 .rw[<-hW1,hrec];exact run_enterLoop_outer _ _ _ _ _
 .simp only[resolve,hg];simp[go_sem]
 .intro f' hf';trivial
 .have e:(callFunc gf (#[.func (.yield (w.heap.size+1)) #[] #[]]++lb)).run P W1=.ok (.enter gf (#[.func (.yield (w.heap.size+1)) #[] #[]]++lb)) W1:=by
   simp only[callFunc,Sem.run_bind,run_program,Result.andThen_ok,hfg,hng];simp[hbg];cases hb:fng.body with
   | none=>rw[hb]at hbg;cases hbg
   | some _=>simp
  simp[invoke,go_sem,e]
 .have hc:=gives (w.heap.size+1)
   (λi G A=>match i with
    | some i=>I i G A/\(A.heap[w.heap.size+1]?=some (.loop (rec .ready none))/\¬G (w.heap.size+1))/\(A.heap[w.heap.size]?=some (.deferred (some []))/\¬G w.heap.size)
    | none=>∃c,(c=.ret\/∃j,c=.exit j)/\Ix c G A/\(A.heap[w.heap.size+1]?=some (.loop (rec .done (some c)))/\¬G (w.heap.size+1))/\(A.heap[w.heap.size]?=some (.deferred (some []))/\¬G w.heap.size)) W1
   (λi G A x=>by
    cases i with
    | some i=>exact hI i G A x.1
    | none=>obtain⟨c,_,x1,_⟩:=x;exact hX c G A x1)
   (λi G G' A A' x hgs ho=>by
    cases i with
    | some i=>exact⟨hIg i _ _ _ _ x.1 hgs ho,kd x.2.1.1 x.2.1.2 hgs ho,kd x.2.2.1 x.2.2.2 hgs ho⟩
    | none=>
      obtain⟨c,hc,x1,x2,x3⟩:=x;exact⟨c,hc,hXg c _ _ _ _ x1 hgs ho,kd x2.1 x2.2 hgs ho,kd x3.1 x3.2 hgs ho⟩)
   (λi d vs G A hd hv x=>by
    obtain⟨x1,⟨x2,y2n⟩,x3,y3n⟩:=x;have gX:w.heap.size+1 < A.heap.size:=(DZ.1 x2).1;have hvl:vs.length=ss.length:=by
     have:∀{ss:List Sh}{d:cO ss}{vs:List Value},BP h ss d vs->vs.length=ss.length:=by
      intro ss
      induction ss with
      | nil=>intro d vs x;cases vs with | nil=>rfl | cons _ _=>exact x.elim
      | cons s l ih=>intro d vs x;cases vs with | nil=>exact x.elim | cons v vs=>simp[ih x.2]
     exact this hv
    have hy:=run_yield (P:=P) (args:=vs.toArray) x2 (by rw[hrec];simp[hps,hvl])
    rw[hrec]at hy;refine⟨fn,_,GI,body,hy,(roundIn_of_wpIn (F:=Fence.wide) (n:=0) trivial ?_:RoundIn Fence.wide _ P _ _ _ _ _ _ _)⟩;refine wpIn_mono (hbody i d vs G A (w.heap.size+1) _ (.loop { rec .ready none with state:=.busy }) _ hd hv x1 (by omega) x2 rfl rfl x3 rfl y2n) ?_
    intro e0 a1 A1 h1;cases e0 with
    | exit j=>exact h1
    | goto j=>exact h1
    | ret=>exact h1
    | panic c=>exact h1
    | outgrown=>exact h1
    | normal=>
    obtain⟨k1,h1⟩:=h1;have z2:A1.heap[w.heap.size+1]?=some (.loop (rec .ready none)):=(k1 _ (.inl rfl)).trans x2;have z3:A1.heap[w.heap.size]?=some (.deferred (some [])):=(k1 _ (.inr (.inl rfl))).trans x3;have hlt1:w.heap.size+1 < A1.heap.size:=(DZ.1 z2).1;refine⟨_,run_beginRound z2 (by rw[hrec]),?_⟩
    have y2:(A1.putObj (w.heap.size+1) (.loop { rec .ready none with state:=.busy })).heap[w.heap.size+1]?=some (.loop { rec .ready none with state:=.busy }):=World.putObj_heap_same hlt1
    have y3:(A1.putObj (w.heap.size+1) (.loop { rec .ready none with state:=.busy })).heap[w.heap.size]?=some (.deferred (some [])):=(World.putObj_heap_other (by omega)).trans z3
    have fin:∀(jump:Option Code) (A3:World),A3.heap[w.heap.size+1]?=some (.loop { rec .ready none with state:=.busy })->A3.heap[w.heap.size]?=some (.deferred (some [])) ->
     (Instr.endRound (w.heap.size+1) jump).run P A3=.ok (.bool jump.isNone) (A3.putObj (w.heap.size+1) (.loop (rec (if jump.isNone then .ready else .done) jump))) /\
     (A3.putObj (w.heap.size+1) (.loop (rec (if jump.isNone then .ready else .done) jump))).heap[w.heap.size+1]?=some (.loop (rec (if jump.isNone then .ready else .done) jump)) /\
     (A3.putObj (w.heap.size+1) (.loop (rec (if jump.isNone then .ready else .done) jump))).heap[w.heap.size]?=some (.deferred (some [])):=λjump A3 h3 h4=>by
     have:=run_endRound (P:=P) jump h3;rw[hrec]at this ⊢;exact⟨this,World.putObj_heap_same (DZ.1 h3).1,(World.putObj_heap_other (by omega)).trans h4⟩
    have kg:∀(A3:World) (o':Obj),(∀b,b=w.heap.size+1\/b=w.heap.size\/G b->A3.heap[b]?=(A1.putObj (w.heap.size+1) (.loop { rec .ready none with state:=.busy })).heap[b]?)->∀b,G b->(A3.putObj (w.heap.size+1) o').heap[b]?=A.heap[b]?:=by
     intro A3 o' hk b hb;have hne:b≠w.heap.size+1:=by rintro rfl;exact y2n hb
     rw[World.putObj_heap_other hne,hk b (.inr (.inr hb)),World.putObj_heap_other hne,k1 b (.inr (.inr hb))]
    refine wpIn_mono h1 ?_;rintro e a3 A3 hp;cases e with
    | normal=>
      obtain⟨p0,p3⟩:=hp;have p1:=p0 _ (.inl rfl);have p2:=p0 _ (.inr (.inl rfl));rw[y2]at p1;rw[y3]at p2;obtain⟨q1,q2,q3⟩:=fin none A3 p1 p2;exact⟨_,_,q1,kg A3 _ p0,.inl ⟨rfl,hIp _ _ _ _ _ _ p3 (by omega) p1 rfl,⟨q2,y2n⟩,q3,y3n⟩⟩
    | ret=>
      obtain⟨p0,p3⟩:=hp;have p1:=p0 _ (.inl rfl);have p2:=p0 _ (.inr (.inl rfl));rw[y2]at p1;rw[y3]at p2;obtain⟨q1,q2,q3⟩:=fin (some .ret) A3 p1 p2;exact⟨_,_,q1,kg A3 _ p0,.inr ⟨rfl,.ret,.inl rfl,hXp _ _ _ _ _ _ p3 (by omega) p1 rfl,⟨q2,y2n⟩,q3,y3n⟩⟩
    | exit id=>
      obtain⟨p0,p3⟩:=hp;have p1:=p0 _ (.inl rfl);have p2:=p0 _ (.inr (.inl rfl));rw[y2]at p1;rw[y3]at p2;obtain⟨q1,q2,q3⟩:=fin (some (.exit id)) A3 p1 p2;exact⟨_,_,q1,kg A3 _ p0,.inr ⟨rfl,.exit id,.inr ⟨id,rfl⟩,hXp _ _ _ _ _ _ p3 (by omega) p1 rfl,⟨q2,y2n⟩,q3,y3n⟩⟩
    | goto t=>exact hp.elim
    | panic ch=>exact hp.elim
    | outgrown=>exact hp.elim)
   ⟨hI1,⟨hL1,λhh=>hh⟩,hD1,λhh=>hh⟩
  refine CallsIn.mono (F:=Fence.wide) (n:=n - 1) (callsIn_wide.2 (callsIn_wide.1 hc)) ?_;rintro e W2 ⟨⟨v,rfl⟩,G,hJ⟩;rcases hJ with⟨x1,⟨x2,_⟩,x3,_⟩ | ⟨c,hc,x1,⟨x2,_⟩,x3,_⟩
  .refine⟨none,_,by have:=run_endLoop (P:=P) x2 (by rw[hrec];simp);rw[hrec]at this;exact this,?_⟩
   exact hdone G _ (hIp _ _ _ _ _ _ x1 (by omega) x2 rfl) ((World.putObj_heap_other (by omega)).trans x3)
  .refine⟨some c,_,by have:=run_endLoop (P:=P) x2 (by rw[hrec];simp);rw[hrec]at this;exact this,?_⟩
   have y1:=hXp _ _ _ _ _ (.loop { rec .done (some c) with state:=.exhausted }) x1 (show w.heap.size<=w.heap.size+1 by omega) x2 rfl
   have y3:(W2.putObj (w.heap.size+1) (.loop { rec .done (some c) with state:=.exhausted })).heap[w.heap.size]?=some (.deferred (some [])):=(World.putObj_heap_other (by omega)).trans x3
   rw[hrec]at y1 y3;rcases hc with rfl | ⟨j,rfl⟩
   .exact wpIn_ret (hret G _ y1 y3)
   .exact wpIn_exit (anx _ G _ y1 y3)
theorem qg:∀{l m:List (Nat×Gd×bg)}{t:Nat},iG (eG l m) t=match iG l t with | some x=>some x | none=>iG m t
 | [],m,t=>rfl
 | (k,x) :: l,m,t=>by
   rw[show eG ((k,x) :: l) m=(k,x) :: eG l m from rfl,aX,aX]
   split
   .rfl
   .exact qg
theorem oC:∀{l:List (Nat×SV)}{t:Nat}{G:Gd}{e:bg},iG (Fe l) t=some (G,e)->∃v,e=.one v/\G=[]/\(t,v)∈l
 | [],_,_,_,h=>by simp[Fe,iG]at h
 | (k,v) :: l,t,G,e,h=>by
   simp only[Fe]at h;rw[aX]at h;split at h
   .rename_i hk;subst hk;cases h;exact⟨v,rfl,rfl,by simp⟩
   .obtain⟨u,h1,h2,h3⟩:=oC h;exact⟨u,h1,h2,by simp[h3]⟩
theorem kV{ws:List Nat}:∀{l:List (Nat×Gd×bg)}{seen:List Nat}{t:Nat}{G:Gd}{e:bg},iG (qc ws seen l) t=some (G,e) ->
 iZ t seen=false/\iZ t ws=false/\iG l t=some (G,e)/\G=[]/\sG e=true
 | [],_,_,_,_,h=>by simp[qc,iG]at h
 | (k,g,e0) :: l,seen,t,G,e,h=>by
   have skip:iG (qc ws (k :: seen) l) t=some (G,e)->iZ t seen=false/\iZ t ws=false/\iG ((k,g,e0) :: l) t=some (G,e)/\G=[]/\sG e=true:=by
    intro h;obtain⟨h1,h2,h3,h4⟩:=kV h;rw[jy,l7]at h1;refine⟨h1.2,h2,?_,h4⟩;rw[aX,if_neg]
    .exact h3
    .rintro rfl;exact Xc h1.1 rfl
   unfold qc at h;split at h
   .rename_i hm;obtain⟨h1,h2,h3,h4⟩:=kV h;refine⟨h1,h2,?_,h4⟩;rw[aX,if_neg]
    .exact h3
    .rintro rfl;rw[hm]at h1;cases h1
   .rename_i hm;split at h
    .exact skip h
    .rename_i hw;split at h
     .rename_i hc;rw[aB,bY]at hc;rw[aX]at h;split at h
      .rename_i hk;subst hk;cases h;refine⟨hm,hw,by rw[aX,if_pos rfl],?_,hc.2⟩
       cases g with
       | nil=>rfl
       | cons _ _=>have:=hc.1;cases this
      .exact skip h
     .exact skip h
theorem Nl{s:St}:∀{l:List (Nat×SV)},G9 s l->∀p∈l,∃u,iG s.env p.1=some ([],.one u)/\YJ u=p.2
 | [],_,p,hp=>by simp at hp
 | (k,v) :: l,⟨h1,h2⟩,p,hp=>by
   rcases lU.1 hp with rfl | hp
   .split at h1
    .rename_i u hu;exact⟨u,hu,h1⟩
    .cases h1
   .exact Nl h2 p hp
theorem aed{u v:SV}{z:Value} (e:YJ u=v) (hv:dD h β' v z\/dD h β u z) (hb:u=v->dD h β u z->dD h β' v z):dD h β' v z:=by
 rcases hv with hv | hu
 .exact hv
 .unfold YJ at e;split at e
  .split at e
   .subst e;exact⟨hu.1.1,hu.2⟩
   .exact hb e hu
  .exact hb e hu
theorem rC{s:St}:∀{l:List (Nat×SV)},Fb s l=true->∀p∈l,iG s.env p.1=some ([],.one p.2)
 | [],_,p,hp=>by simp at hp
 | (k,.c (.own i off)) :: l,h,p,hp=>by
   simp only[Fb]at h;split at h
   .rename_i i' off' hu;rw[aB,aB,bY,bY]at h;rcases lU.1 hp with rfl | hp
    .have e1:=iC h.1.1;have e2:=iC h.1.2;rw[hu,e1,e2]
    .exact rC h.2 p hp
   .cases h
 | (k,.c (.row i)) :: l,h,p,hp=>by
   simp only[Fb]at h;split at h
   .rename_i i' hu;rw[aB,bY]at h;rcases lU.1 hp with rfl | hp
    .have e1:=iC h.1;rw[hu,e1]
    .exact rC h.2 p hp
   .cases h
 | (k,.c (.v _)) :: l,h,p,hp=>by cases h
 | (k,.c (.sl _ _)) :: l,h,p,hp=>by cases h
 | (k,.c (.fp _ _)) :: l,h,p,hp=>by cases h
 | (k,.c (.jU _ _ _ _)) :: l,h,p,hp=>by cases h
 | (k,.c (.abs _)) :: l,h,p,hp=>by cases h
 | (k,.c .junk) :: l,h,p,hp=>by cases h
 | (k,.agg _) :: l,h,p,hp=>by cases h
 | (k,.dat _ _) :: l,h,p,hp=>by cases h
 | (k,.und) :: l,h,p,hp=>by cases h
theorem qh{n:Nat}{ws:List Nat}:∀{l:List (Nat×Gd×bg)}{seen:List Nat},∀p∈keepR n ws seen l,y7 n p.2=true
 | [],_,p,hp=>by simp[keepR]at hp
 | (k,g,e) :: l,seen,p,hp=>by
   unfold keepR at hp
   repeat' (split at hp)
   all_goals first
    | exact qh p hp
    | (
     rcases lU.1 hp with rfl | hp
     .assumption
     .exact qh p hp)
theorem rD{n:Nat}{ws:List Nat}:∀{l:List (Nat×Gd×bg)}{seen:List Nat},∀p∈keepR n ws seen l,iZ p.1 seen=false/\iG l p.1=some ([],.one p.2)
 | [],_,p,hp=>by simp[keepR]at hp
 | (k,g,e) :: l,seen,p,hp=>by
   have anA:iZ k seen=true->p∈keepR n ws seen l->iZ p.1 seen=false/\iG ((k,g,e) :: l) p.1=some ([],.one p.2):=by
    intro hm hp;obtain⟨h1,h2⟩:=rD p hp;refine⟨h1,?_⟩;rw[aX,if_neg]
    .exact h2
    .rintro rfl;rw[hm]at h1;cases h1
   have Fg:p∈keepR n ws (k :: seen) l->iZ p.1 seen=false/\iG ((k,g,e) :: l) p.1=some ([],.one p.2):=by
    intro hp;obtain⟨h1,h2⟩:=rD p hp;rw[jy,l7]at h1;refine⟨h1.2,?_⟩;rw[aX,if_neg]
    .exact h2
    .rintro rfl;exact Xc h1.1 rfl
   unfold keepR at hp;split at hp
   .rename_i hm;exact anA hm hp
   .rename_i hm;split at hp
    .exact Fg hp
    .split at hp
     .rename_i hn;have hg:g=[]:=by cases g with | nil=>rfl | cons _ _=>simp[isNil]at hn
      subst hg;split at hp
      .split at hp
       .rcases lU.1 hp with rfl | hp
        .exact⟨hm,by rw[aX,if_pos rfl]⟩
        .exact Fg hp
       .exact Fg hp
      .split at hp
       .rcases lU.1 hp with rfl | hp
        .exact⟨hm,by rw[aX,if_pos rfl]⟩
        .exact Fg hp
       .exact Fg hp
      .exact Fg hp
     .exact Fg hp
theorem kN{α:Type}{l:List α} (h:i < n):(l.take n)[i]?=l[i]?:=by
 rw[vk,if_pos h]
theorem dX.below:∀{x:SC}{y:Value},Dp n x=true->dX h β x y->dX h (β.take n) x y
 | .v _,_,_,c=>c
 | .sl _ _,_,_,c=>c
 | .fp _ _,_,_,c=>c
 | .one _ _,_,_,c=>c
 | .own i _,_,f,⟨b,e,e'⟩=>⟨b,by rw[kN (by have:=qo f;omega)];exact e,e'⟩
 | .row i,_,f,⟨v,e,e'⟩=>⟨v,by rw[kN (by have:=qo f;omega)];exact e,e'⟩
 | .sub i _,_,f,⟨v,us,e,e'⟩=>⟨v,us,by rw[kN (by have:=qo f;omega)];exact e,e'⟩
 | .lX i _ _ _ _,_,f,⟨v,us,g,e,e'⟩=>⟨v,us,g,by rw[kN (by have:=qo f;omega)];exact e,e'⟩
 | .jU i _ _ _,_,f,⟨v,g,e,e'⟩=>⟨v,g,by rw[kN (by have:=qo f;omega)];exact e,e'⟩
 | .abs _,_,_,c=>c
 | .junk,_,_,_=>trivial
theorem dD.below{h:FH}{β:List RV}{n:Nat}:∀{x:SV}{y:Value},y7 n x=true->dD h β x y->dD h (β.take n) x y
 | .c _,_,f,c=>⟨c.1.below f,c.2⟩
 | .agg _,_,f,⟨ys,e,a⟩=>⟨ys,e,a.allL (λ_ _ f ⟨p,q⟩=>⟨p.below f,q⟩) f⟩
 | .dat _ _,_,_,c=>c
 | .und,_,_,c=>c
theorem Holds.below{h:FH}{β:List RV}{w:World}{n:Nat}:∀{r:ak}{v:RV},lJ n r=true->Holds h β w r v->Holds h (β.take n) w r v
 | .blk _ _,.blk _,f,⟨ys,e,a⟩=>⟨ys,e,a.allL (λ_ _ f ⟨p,q⟩=>⟨p.below f,q⟩) f⟩
 | .row _ _ _,.row _,_,c=>c
 | .obj _ _ _,.blk _,_,c=>c
 | .deep _ _ _ _ _ _ _ _,.deep _ _,_,c=>c
 | .mp _ _ _,.row _,_,c=>c
 | .OD _ _ _ _,.deep _ _,_,c=>c
 | .it _ _ _ _,.blk _,_,c=>c
 | .LC _ _ _ _,.row _,_,c=>c
 | .Hz _ _ _ _,.deep _ _,_,c=>c
 | .gone,_,_,_=>trivial
theorem dX.lK:∀{x:SC}{y:Value},kU x=true->dX h β x y->∀β',dX h β' x y
 | .v _,_,_,c=>λ_=>c
 | .sl _ _,_,_,c=>λ_=>c
 | .fp _ _,_,_,c=>λ_=>c
 | .abs _,_,_,c=>λ_=>c
 | .junk,_,_,_=>λ_=>trivial
 | .one _ _,_,_,c=>λ_=>c
 | .own _ _,_,f,_=>by simp[kU]at f
 | .row _,_,f,_=>by simp[kU]at f
 | .jU _ _ _ _,_,f,_=>by simp[kU]at f
 | .sub _ _,_,f,_=>by simp[kU]at f
 | .lX _ _ _ _ _,_,f,_=>by simp[kU]at f
theorem dD.lK{h:FH}{β:List RV} (β':List RV):∀{x:SV}{y:Value},Bj x=true->dD h β x y->dD h β' x y
 | .c _,_,f,c=>⟨c.1.lK f β',c.2⟩
 | .agg _,_,f,⟨ys,e,a⟩=>⟨ys,e,a.allL (λ_ _ f ⟨p,q⟩=>⟨p.lK f β',q⟩) f⟩
 | .dat _ _,_,_,c=>c
 | .und,_,_,c=>c
theorem jS.lK{h:FH}{β:List RV} (β':List RV):∀{x:bg}{y:Value},sG x=true->jS h β x y->jS h β' x y
 | .one _,_,f,c=>dD.lK β' f c
 | .iJ _,_,f,⟨ys,e,a⟩=>⟨ys,e,a.allL (R':=dD h β') (λ_ _ f c=>dD.lK β' f c) f⟩
theorem OK.take{B:Base}{h0:FH}{T:List ak}{h:FH}{β:List RV}{w:World} (ok:OK B h0 T h β w){n:Nat} (hn:n<=T.length) (below:∀r∈T.take n,lJ n r=true):OK B h0 (T.take n) h (β.take n) w where
 below:=ok.below
 dr:=ok.dr
 len:=by simp[ok.len]
 holds:=by
  intro i r v e e';have hi:i < n:=by have:=(A8.1 e).1;simp at this;omega
  have hm:=below r (gZ e);rw[kN hi]at e e';exact(ok.holds i r v e e').below hm
 own:=by
  intro i r v b e l e' hb;have hi:i < n:=by have:=(A8.1 e).1;simp at this;omega
  rw[kN hi]at e e';exact ok.own i r v b e l e' hb
 inj:=by
  intro i j r r' u v b e l e' l' f f' hb hb';have hi:i < n:=by have:=(A8.1 e).1;simp at this;omega
  have hj:j < n:=by have:=(A8.1 e').1;simp at this;omega
  rw[kN hi]at e f;rw[kN hj]at e' f';exact ok.inj i j r r' u v b e l e' l' f f' hb hb'
 hle:=ok.hle
 hw:=ok.hw
 hg:=ok.hg
 kn:=ok.kn
theorem y8{α:Type}{p:α->Bool}:∀{l:List α},allL p l=true->∀x∈l,p x=true
 | [],_,x,hx=>by simp at hx
 | y :: l,h,x,hx=>by
   simp only[allL,aB,bY]at h;rcases lU.1 hx with rfl | hx
   .exact h.1
   .exact y8 h.2 x hx
theorem nY{gl:List Bool}:∀{T:List (Gd×ak)}{n:Nat},(∀p∈T.take n,p.1=[])->eff [] (T.take n)=(eff gl T).take n
 | [],n,_=>by simp[eff]
 | (g,r) :: l,0,_=>by simp[eff]
 | (g,r) :: l,n+1,h=>by
   have hg:g=[]:=h (g,r) (by simp)
   subst hg;simp only[aix,eff];rw[nY (gl:=gl) (T:=l) λp hp=>h p (by simp[hp])]
theorem y9:∀(rs:List (Nat×ak)) (T:List (Gd×ak)),(kD rs T).length=T.length
 | [],_=>rfl
 | (i,r) :: l,T=>by simp only[kD];rw[y9,gI,wK]
theorem zf{s':St} (aj:Sat N B h0 s' h β w a){ws:List Nat}{sl:List (Nat×SV)}{rs:List (Nat×ak)}
 (hT:qK (aN s.T) s'.T=kD rs s.T) (gT:wR (aN s.T) (kD rs s.T)=true) (gS:Io (aN s.T) ws sl=true) (hE:G9 s' sl)
 (hR:∀p∈keepR (aN s.T) ws [] s.env,iG s'.env p.1=some ([],.one p.2))
 (D:∀t e,iG (qc ws [] s.env) t=some ([],e)->∃z,a.tmps[t]?=some z/\jS h [] e z):
 Sat N B h0 (qA ws s sl rs) h (β.take (aN s.T)) w a:=by
 have e1:=hT;rw[jH]at e1;have g1:∀p∈kD rs s.T,p.1=[]/\lJ (aN s.T) p.2=true:=by
  intro p hp;have:=y8 gT p hp;rw[aB,bY]at this;refine⟨?_,this.2⟩;have h2:=this.1;cases hh:p.1 with
  | nil=>rfl
  | cons _ _=>rw[hh]at h2;simp[isNil]at h2
 have hlen:aN s.T<=s'.T.length:=by
  have:=tX List.length e1;rw[y9,lu,bF]at this;rw[bF];omega
 have look:∀{v:SV}{t:Nat},y7 (aN s.T) v=true->iG s'.env t=some ([],.one v)->∃z,a.tmps[t]?=some z/\dD h (β.take (aN s.T)) v z:=by
  intro v t hb hl;obtain⟨z,q1,q2,_⟩:=aj.env t [] _ hl;exact⟨z,q1,dD.below hb (q2 rfl)⟩
 have anB:∀{v:SV}{t:Nat},y7 (aN s.T) v=true->(∃u,iG s'.env t=some ([],.one u)/\YJ u=v)->∃z,a.tmps[t]?=some z/\dD h (β.take (aN s.T)) v z:=by
  rintro v t hb ⟨u,hl,hu⟩;obtain⟨z,q1,q2,_⟩:=aj.env t [] _ hl;exact⟨z,q1,aed hu (.inr (q2 rfl)) λe c=>dD.below hb (e▸c)⟩
 refine⟨?_,?_,?_,aj.defers,aj.sz,?_,?_⟩
 .show OK B h0 (eff [] (kD rs s.T)) h (β.take (aN s.T)) w;rw[<-e1,nY (gl:=s'.gl) λp hp=>by rw[e1]at hp;exact(g1 p hp).1]
  refine aj.ok.take (by rw[jh];exact hlen) ?_
  rw[<-nY (gl:=s'.gl) λp hp=>by rw[e1]at hp;exact(g1 p hp).1]
  rw[e1];have:∀{l:List (Gd×ak)},(∀p∈l,p.1=[]/\lJ (aN s.T) p.2=true)->∀r∈eff [] l,lJ (aN s.T) r=true:=by
   intro l
   induction l with
   | nil=>intro _ r hr;simp[eff]at hr
   | cons q l ih=>
     obtain⟨g,r0⟩:=q;intro hh r hr;have hg:=hh (g,r0) (by simp)
     have hg1:g=[]:=hg.1;subst hg1;simp only[eff]at hr;rcases lU.1 hr with rfl | hr
     .exact hg.2
     .exact ih (λp hp=>hh p (by simp[hp])) r hr
  exact this g1
 .intro t G e ht;simp only[qA]at ht ⊢;rw[qg]at ht;split at ht
  .rename_i x hx;cases ht;obtain⟨v,rfl,rfl,hm⟩:=oC hx;have hb:=y8 gS _ hm;rw[aB,bY]at hb;obtain⟨z,q1,q2⟩:=anB hb.1 (Nl hE _ hm);exact⟨z,q1,λ_=>q2,λhh=>by cases hh⟩
  .rw[qg]at ht;split at ht
   .rename_i x hx;cases ht;obtain⟨v,rfl,rfl,hm⟩:=oC hx;obtain⟨z,q1,q2⟩:=look (qh _ hm) (hR _ hm);exact⟨z,q1,λ_=>q2,λhh=>by cases hh⟩
   .obtain⟨_,_,_,rfl,hf⟩:=kV ht;obtain⟨z,q1,q2⟩:=D t e ht;exact⟨z,q1,λ_=>jS.lK _ hf q2,λhh=>by cases hh⟩
 .intro d i hi;cases hi
 .intro t G e ht;simp only[qA]at ht;rw[qg]at ht;split at ht
  .rename_i x hx;cases ht;obtain⟨_,_,rfl,_⟩:=oC hx;rfl
  .rw[qg]at ht;split at ht
   .rename_i x hx;cases ht;obtain⟨_,_,rfl,_⟩:=oC hx;rfl
   .obtain⟨_,_,_,rfl,_⟩:=kV ht;rfl
 .intro p hp;rw[(g1 p hp).1]
def Base.leB(B B':Base):Prop:=B'.toWorld=B.toWorld/\B'.al=B.al/\∀k o,B.nc k o->B'.nc k o
theorem Base.leB.refl(B:Base):B.leB B:=⟨rfl,rfl,λ_ _ h=>h⟩
theorem Base.leB.trans{A B C:Base} (x:A.leB B) (y:B.leB C):A.leB C:=⟨y.1.trans x.1,y.2.1.trans x.2.1,λk o h=>y.2.2 k o (x.2.2 k o h)⟩
def Base.YN(r:Bool) (B B':Base):Prop:=B.leB B'/\(r=true->B'=B)
theorem Base.YN.refl{r:Bool} (B:Base):Base.YN r B B:=⟨.refl B,λ_=>rfl⟩
theorem Base.YN.trans{r:Bool}{A B C:Base} (x:Base.YN r A B) (y:Base.YN r B C):Base.YN r A C:=⟨x.1.trans y.1,λh=>(y.2 h).trans (x.2 h)⟩
theorem OK.Qe{B':Base}{T:List ak} (ok:OK B h0 T h β w) (e:B'.toWorld=B.toWorld) (ea:B'.al=B.al) (kn:∀k o,B'.nc k o->w.heap[k]?=some o):OK B' h0 T h β w where
 below:=⟨by rw[e];exact ok.below.os,by rw[e];exact ok.below.tape,by rw[e];exact ok.below.output,by rw[e];exact ok.below.size,by rw[e,ea];exact ok.below.block⟩
 dr:=by rw[e];exact ok.dr
 len:=ok.len
 holds:=ok.holds
 own:=by rw[ea];exact ok.own
 inj:=ok.inj
 hle:=ok.hle
 hw:=ok.hw
 hg:=by rw[ea];exact ok.hg
 kn:=kn
def ownB(T:List ak) (β:List RV) (b:Nat):Prop:=∃(i:Nat) (r:ak) (v:RV),T[i]?=some r/\r.live=true/\β[i]?=some v/\v.has b
abbrev Base.rd(B:Base) (T:List ak) (β:List RV) (A:World):Base:=
 { A with nc:=B.nc,cell:=B.cell,al:=λk=>ownB T β k\/A.heap.size<=k,up:=λ_ h=>.inr h }
theorem OK.enter{T:List ak} (ok:OK B h0 T h β A):OK (B.rd T β A) h T h β A where
 below:=⟨rfl,rfl,rfl,o9 _,λ_ _ _=>rfl⟩
 dr:=o9 _
 len:=ok.len
 holds:=ok.holds
 own:=λi r v b e hl e' hb=>⟨.inl ⟨i,r,v,e,hl,e',hb⟩,(ok.own i r v b e hl e' hb).2⟩
 inj:=ok.inj
 hle:=FH.le.refl h
 hw:=ok.hw
 hg:=λb o v hh=>.inl hh
 kn:=ok.kn
theorem OK.leave{T:List ak} (ok:OK B h0 T h β A){T':List ak}{h':FH}{A':World}{Br:Base} (e:Br.toWorld=A) (ea:Br.al=(B.rd T β A).al) (en:∀k o,B.nc k o->Br.nc k o) (ok':OK Br h T' h' β' A'):OK B h0 T' h' β' A':=by
 have toB:∀k,Br.al k->B.al k:=by
  intro k hk;rw[ea]at hk;rcases hk with⟨i,r,v,h1,h2,h3,h4⟩ | hk
  .exact(ok.own i r v k h1 h2 h3 h4).1
  .exact B.up k (pI ok.below.size hk)
 subst e;have cell:∀k,ownB T β k->∃o,Br.heap[k]?=some o/\ours o=true:=by
  rintro k ⟨i,r,v,h1,h2,h3,h4⟩;exact(ok.holds i r v h1 h3).cells h2 h4
 refine⟨⟨ok'.below.os.trans ok.below.os,ok'.below.tape.trans ok.below.tape,ok'.below.output.trans ok.below.output,pI ok.below.size ok'.below.size,λk hk ha=>?_⟩,pI ok.dr ok'.dr,ok'.len,ok'.holds,
  λi r v b e1 l1 e2 hb=>⟨toB b (ok'.own i r v b e1 l1 e2 hb).1,(ok'.own i r v b e1 l1 e2 hb).2⟩,ok'.inj,ok.hle.trans ok'.hle,ok'.hw,λb o v hh=>?_,λk o hk=>ok'.kn k o (en k o hk)⟩
 .exact(ok'.below.block k (OI hk ok.below.size) (λhh=>ha (toB k hh))).trans (ok.below.block k hk ha)
 .rcases ok'.hg b o v hh with h1 | h1
  .exact ok.hg b o v h1
  .exact .inr (toB b h1)
theorem OK.gs{B:Base}{h0:FH}{T:List ak}{h:FH}{β:List RV}{A A':World} (ok:OK B h0 T h β A){G:Nat->Prop} (gs:Gs G A A') (hB:∀k,G k->B.heap.size<=k) (hO:∀k,ownB T β k->¬G k) (hF:∀k o v,h k o=some v->¬G k) (hN:∀k o,B.nc k o->¬G k):OK B h0 T h β A':=by
 have cl:∀b o v,h b o=some v->vis A' b o=some v:=by
  intro b o v hh;have h1:=ok.hw b o v hh;exact(jT (gs.block b (oH h1) (hF b o v hh))).trans h1
 exact {
  below:=⟨gs.os.trans ok.below.os,gs.tape.trans ok.below.tape,gs.output.trans ok.below.output,pI ok.below.size gs.size,λk hk ha=>(gs.block k (OI hk ok.below.size) (λhg=>by have:=hB k hg;omega)).trans (ok.below.block k hk ha)⟩
  dr:=pI ok.dr gs.dr
  len:=ok.len
  holds:=λi r v e e'=>(ok.holds i r v e e').move (FH.le.refl h) (Ext.refl _) λhl b hb=>gs.block b (ok.own i r v b e hl e' hb).2.1 (hO b ⟨i,r,v,e,hl,e',hb⟩)
  own:=λi r v b e hl e' hb=>by
   obtain⟨h1,h2,h3⟩:=ok.own i r v b e hl e' hb;exact⟨h1,OI h2 gs.size,h3⟩
  inj:=ok.inj
  hle:=ok.hle
  hw:=cl
  hg:=ok.hg
  kn:=λk o hk=>by
   have h1:=ok.kn k o hk;exact(gs.block k (DZ.1 h1).1 (hN k o hk)).trans h1 }
theorem OK.turn{T:List ak} (ok:OK B h0 T h β w){l:Nat}{o o':Obj} (hB:B.al l) (hn:∀k u,B.nc k u->k≠l) (hl:w.heap[l]?=some o) (ho:ours o=false):OK B h0 T h β (w.putObj l o'):=by
 have cl:∀{b i:Nat}{v:Value},vis w b i=some v->vis (w.putObj l o') b i=some v:=by
  intro b i v hv;have hne:b≠l:=by
   intro e;unfold vis at hv;rw[e,hl]at hv;cases o<;>simp_all[ours]
  exact(jT (World.putObj_heap_other hne)).trans hv
 exact {
  below:=ok.below.grown (row:=some l) ⟨rfl,rfl,rfl,by simp,λk _ hk=>World.putObj_heap_other (λe=>hk (by rw[e]))⟩ (λk e=>by cases e;exact hB)
  dr:=ok.dr
  len:=ok.len
  holds:=λi r v e e'=>(ok.holds i r v e e').move (FH.le.refl h) (Ext.refl _) λhlv b hb=>World.putObj_heap_other (by
   rintro rfl;obtain⟨o1,h1,h2⟩:=(ok.holds i r v e e').cells hlv hb;rw[hl]at h1;cases h1;rw[ho]at h2;cases h2)
  own:=λi r v b e hlv e' hb=>by
   obtain⟨h1,h2,h3⟩:=ok.own i r v b e hlv e' hb;exact⟨h1,by simpa using h2,h3⟩
  inj:=ok.inj
  hle:=ok.hle
  hw:=λb o v hh=>cl (ok.hw b o v hh)
  hg:=ok.hg
  kn:=λk u hk=>(World.putObj_heap_other (hn k u hk)).trans (ok.kn k u hk) }
theorem zh{n:Nat}{ws:List Nat}:∀{l:List (Nat×Gd×bg)}{seen:List Nat},∀p∈keepR n ws seen l,iZ p.1 ws=false
 | [],_,p,hp=>by simp[keepR]at hp
 | (k,g,e) :: l,seen,p,hp=>by
   unfold keepR at hp
   repeat' (split at hp)
   all_goals first
    | exact zh p hp
    | (
     rcases lU.1 hp with rfl | hp
     .assumption
     .exact zh p hp)
theorem uS(h:wR n T=true):∀p∈T,p.1=[]/\lJ n p.2=true:=by
 intro p hp;have:=y8 h p hp;rw[aB,bY]at this;refine⟨?_,this.2⟩;have h2:=this.1;cases hh:p.1 with
 | nil=>rfl
 | cons _ _=>rw[hh]at h2;simp[isNil]at h2
theorem SI{gl:List Bool}:∀{T:List (Gd×ak)},(∀p∈T,p.1=[])->eff [] T=eff gl T
 | [],_=>rfl
 | (g,r) :: l,h=>by
   have hg:g=[]:=h (g,r) (by simp)
   subst hg;simp only[eff];rw[SI (gl:=gl) (T:=l) λp hp=>h p (by simp[hp])]
theorem J3(aj:Sat N B h0 s h β w a){ws dr:List Nat}{h':FH} (le:h.le h')
 (refs:∀p∈keepR (aN s.T) ws [] s.env,∃z,a.tmps[p.1]?=some z/\dD h' β' p.2 z):∀t G e,iG (rdE ws dr s) t=some (G,e)->G=[]/\(iZ t ws=false\/iZ t dr=false)/\∃z,a.tmps[t]?=some z/\jS h' β' e z:=by
 intro t G e ht;simp only[rdE]at ht;rw[qg]at ht;split at ht
 .rename_i x hx;cases ht;obtain⟨v,rfl,rfl,hm⟩:=oC hx;obtain⟨z,q1,q2⟩:=refs _ hm;exact⟨rfl,.inl (zh _ hm),z,q1,q2⟩
 .obtain⟨_,hd,hl,rfl,hf⟩:=kV ht;obtain⟨z,q1,q2,_⟩:=aj.env t [] e hl;exact⟨rfl,.inr hd,z,q1,(jS.lK β' hf (q2 rfl)).mono le (Ext.refl _)⟩
theorem YO{B':Base} (aj:Sat N B h0 s h β w a){ws dr:List Nat}{h':FH}{a':Act} (le:h.le h')
 (refs:∀p∈keepR (aN s.T) ws [] s.env,∃z,a.tmps[p.1]?=some z/\dD h' β' p.2 z){gl:List Bool} (ok:OK B' h0 (eff gl T) h' β' A) (gT:∀p∈T,vF gl.length p.1=true) (ht:a'.tmps=a.tmps) (df:OZ B' a'):
 Sat N B' h0 { env:=rdE ws dr s,T:=T,gl:=gl,gs:=[] } h' β' A a' where
 ok:=ok
 env:=λt G e h1=>by
  obtain⟨rfl,_,z,q1,q2⟩:=J3 aj le refs t G e h1;exact⟨z,by rw[ht];exact q1,λ_=>q2,λhh=>by cases hh⟩
 gs:=λd i hi=>by cases hi
 defers:=df
 sz:=by rw[ht];exact aj.sz
 gb:=λt G e h1=>by
  obtain⟨rfl,_⟩:=J3 aj le refs t G e h1;rfl
 gT:=gT
theorem fold_size:∀(l:List (Nat×Value)) (t:Array Value),(l.foldl (λt (p:Nat×Value)=>t.setIfInBounds p.1 p.2) t).size=t.size
 | [],_=>rfl
 | _ :: l,t=>by simp only[Jk];rw[fold_size l];simp
theorem xX{k:Nat}:∀(l:List (Nat×Value)) (t:Array Value),(∀p∈l,p.1≠k)->(l.foldl (λt (p:Nat×Value)=>t.setIfInBounds p.1 p.2) t)[k]?=t[k]?
 | [],_,_=>rfl
 | (p,v) :: l,t,h=>by
   simp only[Jk];rw[xX l _ λq hq=>h q (by simp[hq])]
   exact air (h (p,v) (by simp))
theorem Fh(ps:Array Tmp) (vs:List Value) (t:Array Value):(ps.zip vs.toArray).foldl (λt (p,v)=>t.setIfInBounds p v) t=((tl ps).zip vs).foldl (λt (p:Nat×Value)=>t.setIfInBounds p.1 p.2) t:=by
 cases ps with
 | mk l=>simp
theorem YP{h:FH}{n:Nat}:∀{ps:List Nat}{ss:List Sh}{d:cO ss}{vs:List Value}{t:Array Value},t.size=n->wS n ps ss=true->BP h ss d vs ->
 (∀k G e,iG (Nk ps ss d) k=some (G,e)->G=[]/\∃z,((ps.zip vs).foldl (λt (p:Nat×Value)=>t.setIfInBounds p.1 p.2) t)[k]?=some z/\∀β,jS h β e z) /\
 (∀k,iG (Nk ps ss d) k=none->iZ k ps=false)
 | [],[],d,vs,t,_,_,_=>⟨λk G e hh=>by simp[Nk,iG]at hh,λk _=>rfl⟩
 | [],_ :: _,d,vs,t,_,hp,_=>by simp[wS]at hp
 | _ :: _,[],d,vs,t,_,hp,_=>by simp[wS]at hp
 | p :: ps,s :: ss,d,vs,t,hn,hp,hv=>by
   cases vs with
   | nil=>exact hv.elim
   | cons v vs=>
     simp only[wS,aB,bY]at hp;obtain⟨⟨hp1,hp2⟩,hp3⟩:=hp;have hp2:iZ p ps=false:=by simpa using hp2
     have hp1:=qo hp1;obtain⟨i1,i2⟩:=YP (t:=t.setIfInBounds p v) (by simp[hn]) hp3 hv.2
     have hnot:∀q∈ps.zip vs,q.1≠p:=by
      intro q hq e;have hm:q.1∈ps:=(List.of_mem_zip hq).1;rw[e]at hm;have:∀{l:List Nat},p∈l->iZ p l=true:=by
       intro l
       induction l with
       | nil=>intro h;cases h
       | cons x l ih=>
         intro h;rw[jy];rcases lU.1 h with rfl | h
         .simp
         .rw[ih h];simp
      rw[this hm]at hp2;cases hp2
     refine⟨λk G e hh=>?_,λk hh=>?_⟩
     .simp only[Nk]at hh;rw[aX]at hh;split at hh
      .rename_i hk;subst hk;cases hh;refine⟨rfl,v,?_,λβ=>?_⟩
       .simp only[List.zip_cons_cons,Jk];rw[xX _ _ hnot];rw[Array.getElem?_setIfInBounds_self_of_lt (by omega)]
       .obtain⟨cs,rfl,r⟩:=hv.1;exact jI s r
      .simpa only[List.zip_cons_cons,Jk]using i1 k G e hh
     .simp only[Nk]at hh;rw[aX]at hh;split at hh
      .cases hh
      .rename_i hk;rw[jy,i2 k hh,Bool.or_false];cases hb:Nat.beq k p with
       | false=>rfl
       | true=>exact absurd (iC hb).symm hk
def Apt(n:Nat) (T:List ak) (h:FH) (β:List RV) (G:Nat->Prop):Prop:=(∀b,G b->n<=b)/\(∀b,ownB T β b->¬G b)/\∀b o v,h b o=some v->¬G b
theorem Iq{T:List ak}{G:Nat->Prop} (ok':OK B h0 T h β A) (ap:Apt n T h β G) (apb:∀b,G b->b < A.heap.size)
 {B2:Base}{s2:St}{h2:FH}{β2:List RV}{A2:World}{a2:Act} (Am:(B.rd T β A).leB B2) (bH:Sat N B2 h s2 h2 β2 A2 a2):
 OK B h0 (eff s2.gl s2.T) h2 β2 A2/\Apt n (eff s2.gl s2.T) h2 β2 G/\A.heap.size<=A2.heap.size/\(∀k,k < A.heap.size->¬ownB T β k->A2.heap[k]?=A.heap[k]?) /\
  (∀k o,A.heap[k]?=some o->ours o=false->¬ownB T β k):=by
 have same:∀k,k < A.heap.size->¬ownB T β k->A2.heap[k]?=A.heap[k]?:=by
  intro k hk hn;have h1:=bH.ok.below;have h2:=Am.1;have h3:B2.al k↔(ownB T β k\/A.heap.size<=k):=by rw[Am.2.1]
  have h4:=h1.block k (by rw[h2];exact hk) (λhh=>by rcases h3.1 hh with hh | hh<;>first | exact hn hh | omega)
  rw[h2]at h4;exact h4
 refine⟨ok'.leave Am.1 Am.2.1 Am.2.2 bH.ok,⟨ap.1,?_,?_⟩,?_,same,?_⟩
 .rintro b ⟨i,r,v,e1,e2,e3,e4⟩ hb;have hh:=(bH.ok.own i r v b e1 e2 e3 e4).1;rw[Am.2.1]at hh;rcases hh with hh | hh
  .exact ap.2.1 b hh hb
  .have:=apb b hb;omega
 .intro b o v hh hb;rcases bH.ok.hg b o v hh with h1 | h1
  .exact ap.2.2 b o v h1 hb
  .rw[Am.2.1]at h1;rcases h1 with h1 | h1
   .exact ap.2.1 b h1 hb
   .have:=apb b hb;omega
 .have:=bH.ok.below.size;rw[Am.1]at this;exact this
 .rintro k o hk ho ⟨i,r,v,e1,e2,e3,e4⟩;obtain⟨o',q1,q2⟩:=(ok'.holds i r v e1 e3).cells e2 e4;rw[hk]at q1;cases q1;rw[ho]at q2;cases q2
theorem YQ{GI c:Code} (rec:∀(c':Code),c'=GI\/c'=c->∀(h0:FH) (E:Env) (B:Base) (s:St) (h:FH) (β:List RV) (w:World) (a:Act) (K:Exit->St->Prop) (Q:Exit->Act->World->Prop) (l:Nat),gU P E->aI E.cx.gd h0->E.rd=true->Sat E.n B h0 s h β w a ->
 jv E c' s K->(∀e s' h' β' w' a' B',Base.YN E.rd B B'->K e s'->h.le h'->Sat E.n B' h0 s' h' β' w' a'->Same (writes c') a a'->Q e a' w')->c'.wpIn (Fence.wide.inRound l) 0 P Q a w)
 (ok:gU P E) (hg:aI E.cx.gd h0){K:Exit->St->Prop} (aj:Sat E.n B h0 s h β w a)
 {g:Operand}{ss:List Sh}{L:List (cO ss)} (gv:Gives P h ss L (a.eval g)){ps:Array Tmp}{ra:RA}
 (k:Qc E.n (λs K=>jv { E with rd:=true } GI s λe s'=>match e with
  | .normal=>jv { E with rd:=true } c s' K
  | _=>False) (eG ra.drop (eG (tl ps) (eG (writes GI) (writes c)))) ra (tl ps) ss L s K)
 (hrd:E.rd=false) (next:∀e s' h' β' w' a' B',Base.YN E.rd B B'->K e s'->h.le h'->Sat E.n B' h0 s' h' β' w' a'->Same [] a a'->Q e a' w'):(Code.rangeFunc g ps GI c).wpIn Fence.wide n P Q a w:=by
 unfold Qc at k;split at k
 .cases k
 rename_i hpar;obtain⟨⟨x0,i0,t0⟩,kr,kd⟩:=k;obtain⟨ws,hws⟩:∃ws,ws=eG ra.drop (eG (tl ps) (eG (writes GI) (writes c))):=⟨_,rfl⟩;rw[<-hws]at kr kd;have good:∀i x,i<=L.length->ra.inv i x->wR (aN s.T) (kD (ra.res x) s.T)=true:=by
  intro i x hi hx;cases hd:L[i]? with
  | some d=>
    have:=kr i x d hx hd;split at this
    .cases this
    .rename_i hh;exact hh
  | none=>
    have he:i=aN L:=by rw[bF];have:=List.getElem?_eq_none_iff.1 hd;omega
    subst he;have:=kd x hx;split at this
    .cases this
    .rename_i hh;exact hh
 have apV:∀x,aN s.T=(kD (ra.res x) s.T).length:=λx=>by rw[y9,bF]
 have hpl:ps.size=ss.length:=by
  have:∀{l:List Nat}{ss:List Sh},wS E.n l ss=true->l.length=ss.length:=by
   intro l
   induction l with
   | nil=>intro ss h;cases ss with | nil=>rfl | cons _ _=>simp[wS]at h
   | cons x l ih=>
     intro ss h;cases ss with
     | nil=>simp[wS]at h
     | cons s ss=>
       simp only[wS,aB,bY]at h;simp[ih h.2]
  have h1:=this hpar;cases ps;simpa using h1
 have psw:∀t,iZ t ws=false->iZ t (tl ps)=false/\iZ t (writes GI)=false/\iZ t (writes c)=false:=by
  intro t ht;rw[hws,lI,lI,lI,l7,l7,l7]at ht;exact⟨ht.2.1,ht.2.2.1,ht.2.2.2⟩
 have SK:∀(vs:List Value) t,iZ t (tl ps)=false->((ps.zip vs.toArray).foldl (λt (p,v)=>t.setIfInBounds p v) a.tmps)[t]?=a.tmps[t]?:=by
  intro vs t ht;rw[Fh];refine xX _ _ λq hq e=>?_
  have hm:q.1∈tl ps:=(List.of_mem_zip hq).1;rw[e]at hm;have:∀{l:List Nat},t∈l->iZ t l=true:=by
   intro l
   induction l with
   | nil=>intro h;cases h
   | cons x l ih=>
     intro h;rw[jy];rcases lU.1 h with rfl | h
     .simp
     .rw[ih h];simp
  rw[this hm]at ht;cases ht
 have anC:∀p∈keepR (aN s.T) ws [] s.env,∃z,a.tmps[p.1]?=some z/\dD h β p.2 z:=by
  intro p hp;obtain⟨z,q1,q2,_⟩:=aj.env _ _ _ (rD p hp).2;exact⟨z,q1,q2 rfl⟩
 have YR:∀kk o,B.nc kk o->kk < w.heap.size:=λkk o hk=>(DZ.1 (aj.ok.kn kk o hk)).1
 have hBs:B.heap.size<=w.heap.size:=aj.ok.below.size
 -- the iterator's blocks are no one else's
 let Ap:List ak->FH->List RV->(Nat->Prop)->Prop:=λT h' β' G=>Apt w.heap.size T h' β' G
 have apG:∀{T:List ak}{h':FH}{β':List RV}{G G':Nat->Prop}{A A':World},OK B h0 T h' β' A->w.heap.size<=A.heap.size->Ap T h' β' G->Own' G G' A A'->Ap T h' β' G':=by
  intro T h' β' G G' A A' ok' hsz ⟨a1,a2,a3⟩ ho;refine⟨λb hb=>?_,λb hb hg=>?_,λb o v hb hg=>?_⟩
  .rcases(ho b hb).2 with h1 | h1
   .exact a1 b h1
   .omega
  .rcases(ho b hg).2 with h1 | h1
   .exact a2 b hb h1
   .obtain⟨i,r,v,e1,e2,e3,e4⟩:=hb;have:=(ok'.own i r v b e1 e2 e3 e4).2.1;omega
  .rcases(ho b hg).2 with h1 | h1
   .exact a3 b o v hb h1
   .have:=oH (ok'.hw b o v hb);omega
 have gsO:∀{T:List ak}{h':FH}{β':List RV}{G:Nat->Prop}{A A':World},OK B h0 T h' β' A->Ap T h' β' G->Gs G A A'->OK B h0 T h' β' A':=λok' ⟨a1,a2,a3⟩ gs=>
  ok'.gs gs (λk hk=>pI hBs (a1 k hk)) a2 a3 (λk o hk hg=>by have:=YR k o hk;have:=a1 k hg;omega)
 -- what holds between the rounds;what holds where a round has left
 let I:Nat->(Nat->Prop)->World->Prop:=λi G A=>i<=L.length/\(w.heap.size<=A.heap.size/\∀b,G b->b < A.heap.size)/\∃x h' β',Ap (eff [] (kD (ra.res x) s.T)) h' β' G/\ra.inv i x/\h.le h'/\OK B h0 (eff [] (kD (ra.res x) s.T)) h' β' A/\∀p∈keepR (aN s.T) ws [] s.env,∃z,a.tmps[p.1]?=some z/\dD h' β' p.2 z
 let Ix:Code->(Nat->Prop)->World->Prop:=λcc G A=>w.heap.size<=A.heap.size/\∃e T gl h' β',Ap (eff gl T) h' β' G/\((cc=.ret/\e=Exit.ret)\/∃j,cc=.exit j/\e=Exit.exit j)/\K e { env:=rdE ws ra.drop s,T:=T,gl:=gl,gs:=[] }/\h.le h'/\OK B h0 (eff gl T) h' β' A /\
  (∀p∈T,vF gl.length p.1=true)/\∀p∈keepR (aN s.T) ws [] s.env,∃z,a.tmps[p.1]?=some z/\dD h' β' p.2 z
 have dfr:∀A,A.heap[w.heap.size]?=some (.deferred (some []))->∃B':Base,B.leB B'/\OZ B' { a with defers:=xW w.heap.size :: a.defers }/\(∀{T h' β'},OK B h0 T h' β' A->OK B' h0 T h' β' A):=by
  intro A hA;refine⟨{ B with nc:=λk o=>B.nc k o\/(k=w.heap.size/\o=.deferred (some [])),cell:=λk o hh=>hh.elim (B.cell k o) λhh=>by rw[hh.2] },⟨rfl,rfl,λk o hh=>.inl hh⟩,?_,λok'=>ok'.Qe rfl rfl (λk o hh=>hh.elim (ok'.kn k o) λhh=>by rw[hh.1,hh.2];exact hA)⟩
  obtain⟨X,x1,x2,x3⟩:=aj.defers;refine⟨w.heap.size :: X,by simp[x1,xW],?_,?_⟩
  .refine OU.2 ⟨λhm=>?_,x2⟩
   have:=YR _ _ (x3 _ hm).2;omega
  .intro D hD;rcases lU.1 hD with rfl | hD
   .exact⟨B.up _ hBs,.inr ⟨rfl,rfl⟩⟩
   .exact⟨(x3 D hD).1,.inl (x3 D hD).2⟩
 have fin:∀e cc G A,((cc=.ret/\e=Exit.ret)\/∃j,cc=.exit j/\e=Exit.exit j)->Ix cc G A->A.heap[w.heap.size]?=some (.deferred (some []))->Q e { a with defers:=xW w.heap.size :: a.defers } A:=by
  rintro e cc G A he ⟨_,e',T,gl,h',β',_,he',kk,le,ok',gT,refs⟩ hA;have hee:e'=e:=by
   rcases he with⟨rfl,rfl⟩ | ⟨j,rfl,rfl⟩<;>rcases he' with⟨h1,h2⟩ | ⟨j',h1,h2⟩<;>first | (cases h1;exact h2) | cases h1
  subst hee;obtain⟨B',lb,df,up⟩:=dfr A hA;exact next _ _ h' β' A _ B' ⟨lb,λhh=>(by rw[hrd]at hh;cases hh)⟩ kk le (YO aj le refs (up ok') gT rfl df) λ_ _=>rfl
 refine VU gv hpl I Ix ?_ ?_ ?_ ?_ ?_ ?_ ?_ ?_ ?_ (λG A hA=>fin .ret .ret G A (.inl ⟨rfl,rfl⟩) hA) (λj G A hA=>fin (.exit j) (.exit j) G A (.inr ⟨j,rfl,rfl⟩) hA)
 .rintro i G A ⟨_,_,x,h',β',_,_,le,ok',_⟩;exact HW.mono le ok'.hw
 .rintro cc G A ⟨_,e,T,gl,h',β',_,he,kk,le,ok',_⟩;exact HW.mono le ok'.hw
 .rintro i G G' A A' ⟨hi,hsz,x,h',β',ap,i1,le,ok',refs⟩ gs ho;exact⟨hi,⟨pI hsz.1 gs.size,λb hb=>(ho b hb).1⟩,x,h',β',apG ok' hsz.1 ap ho,i1,le,gsO ok' ap gs,refs⟩
 .rintro cc G G' A A' ⟨hsz,e,T,gl,h',β',ap,he,kk,le,ok',gT,refs⟩ gs ho;exact⟨pI hsz gs.size,e,T,gl,h',β',apG ok' hsz ap ho,he,kk,le,gsO ok' ap gs,gT,refs⟩
 .rintro i G A l o o' ⟨hi,hsz,x,h',β',ap,i1,le,ok',refs⟩ hl hA ho;exact⟨hi,⟨by simpa using hsz.1,by simpa using hsz.2⟩,x,h',β',ap,i1,le,ok'.turn (B.up _ (pI hBs hl)) (λkk u hk e=>by have:=YR kk u hk;omega) hA ho,refs⟩
 .rintro cc G A l o o' ⟨hsz,e,T,gl,h',β',ap,he,kk,le,ok',gT,refs⟩ hl hA ho;exact⟨by simpa using hsz,e,T,gl,h',β',ap,he,kk,le,ok'.turn (B.up _ (pI hBs hl)) (λkk u hk e=>by have:=YR kk u hk;omega) hA ho,gT,refs⟩
 .refine⟨Ji _,⟨o9 _,λb hb=>hb.elim⟩,x0,h,β,⟨λb hb=>hb.elim,λb _ hb=>hb.elim,λb o v _ hb=>hb.elim⟩,i0,FH.le.refl h,?_,anC⟩
  have g0:=good 0 x0 (Ji _) i0;rw[SI (gl:=s.gl) λp hp=>(uS g0 p hp).1,<-t0]
  exact aj.ok
 .rintro i d vs G A l o1 VW o2 hd hv ⟨hi,⟨hsz,apb⟩,x,h',β',ap,i1,le,ok',refs⟩ hl hA1 ho1 apW hA2 ho2 hGl;have kk:=kr i x d i1 hd;have gx:=good i x hi i1;rw[gx]at kk;simp only at kk;have blen:β'.length=aN s.T:=by rw[ok'.len,jh,<-apV]
  obtain⟨p1,p2⟩:=YP (t:=a.tmps) (n:=E.n) aj.sz hpar hv;have apX:Sat E.n (B.rd (eff [] (kD (ra.res x) s.T)) β' A) h'
   { env:=eG (Nk (tl ps) ss d) (rdE ws (eG ra.drop (tl ps)) s),T:=kD (ra.res x) s.T,gl:=[],gs:=[] } h' β' A { tmps:=(ps.zip vs.toArray).foldl (λt (p,v)=>t.setIfInBounds p v) a.tmps,defers:=[] }:=by
   refine⟨ok'.enter,?_,?_,OZ.nil rfl,?_,?_,?_⟩
   .intro t G e ht;simp only at ht ⊢;rw[qg]at ht;split at ht
    .rename_i y hy;cases ht;obtain⟨rfl,z,z1,z2⟩:=p1 t G e hy;refine⟨z,by rw[Fh];exact z1,λ_=>(z2 β').mono le (Ext.refl _),λhh=>by cases hh⟩
    .rename_i hy;obtain⟨rfl,hm,z,z1,z2⟩:=J3 aj le refs t G e ht;have hps:iZ t (tl ps)=false:=p2 t hy;exact⟨z,by rw[SK vs t hps];exact z1,λ_=>z2,λhh=>by cases hh⟩
   .intro dd ii hh;cases hh
   .rw[Fh,fold_size];exact aj.sz
   .intro t G e ht;simp only at ht;rw[qg]at ht;split at ht
    .rename_i y hy;cases ht;obtain⟨rfl,_⟩:=p1 t G e hy;rfl
    .obtain⟨rfl,_⟩:=J3 aj le refs t G e ht;rfl
   .intro p hp;rw[(uS gx p hp).1]
  have YT:gU P { E with rd:=true }:=⟨ok.prog,ok.hc,ok.Yx,ok.mixed,ok.ti,ok.ct,ok.ip,ok.sq,ok.sf⟩
  refine rec GI (.inl rfl) h' { E with rd:=true } _ _ h' β' A _ _ _ l YT (hg.mono ok'.hle) rfl apX kk ?_
  rintro e1 s1 h1 β1 A1 a1 B1 ⟨lb1,lr1⟩ k1 le1 jr sm1;cases e1 with
  | exit j=>exact k1.elim
  | goto j=>exact k1.elim
  | ret=>exact k1.elim
  | panic c=>exact k1.elim
  | outgrown=>exact k1.elim
  | normal=>
  obtain⟨q1,q2,q3,q4,q5⟩:=Iq ok' ap apb lb1 jr;have YU:∀b,b=l\/b=w.heap.size\/G b->A1.heap[b]?=A.heap[b]?:=by
   rintro b (rfl | rfl | hb)
   .exact q4 _ (DZ.1 hA1).1 (q5 _ _ hA1 ho1)
   .exact q4 _ (DZ.1 hA2).1 (q5 _ _ hA2 ho2)
   .exact q4 b (apb b hb) (λhh=>ap.2.1 b hh hb)
  refine⟨YU,?_⟩;have hB1:A1.heap[l]?=some o1:=(YU l (.inl rfl)).trans hA1;have hl1:l < A1.heap.size:=(DZ.1 hB1).1
  -- the record is turned;all else stands
  have okt:OK B h0 (eff s1.gl s1.T) h1 β1 (A1.putObj l VW):=q1.turn (B.up _ (pI hBs (by omega))) (λkk u hk e=>by have:=YR kk u hk;omega) hB1 ho1
  have anD:Sat E.n (B.rd (eff s1.gl s1.T) β1 (A1.putObj l VW)) h1 s1 h1 β1 (A1.putObj l VW) a1:=by
   have hd1:a1.defers=[]:=by
    obtain⟨X,x1,x2,x3⟩:=jr.defers;cases X with
    | nil=>simpa using x1
    | cons D X=>
      exfalso;obtain⟨d1,d2⟩:=x3 D (by simp)
      rw[lr1 rfl]at d1 d2;have hk:=ok'.kn D _ d2;rcases d1 with d1 | d1
      .obtain⟨i,r,v,e1,e2,e3,e4⟩:=d1;obtain⟨o',q1,q2⟩:=(ok'.holds i r v e1 e3).cells e2 e4;rw[hk]at q1;cases q1;cases q2
      .have:=(DZ.1 hk).1;omega
   exact⟨okt.enter,jr.env,jr.gs,OZ.nil hd1,jr.sz,jr.gb,jr.gT⟩
  have hsz1:w.heap.size<=(A1.putObj l VW).heap.size:=by simp;omega
  have aji:∀b,G b->b < (A1.putObj l VW).heap.size:=λb hb=>by have:=apb b hb;simp;omega
  have hT2:(A1.putObj l VW).heap[w.heap.size]?=some o2:=(World.putObj_heap_other (by omega)).trans ((YU _ (.inr (.inl rfl))).trans hA2)
  have hT1:(A1.putObj l VW).heap[l]?=some VW:=World.putObj_heap_same hl1;refine rec c (.inr rfl) h1 { E with rd:=true } _ _ h1 β1 _ _ _ _ l YT (hg.mono (ok'.hle.trans le1)) rfl anD k1 ?_
  rintro e s2 h2 β2 A2 a2 B2 ⟨Am,_⟩ k2 iD bH wU;obtain⟨ok2,ap2,q8,q9,q10⟩:=Iq okt q2 aji Am bH;have keep:∀b,b=l\/b=w.heap.size\/G b->A2.heap[b]?=(A1.putObj l VW).heap[b]?:=by
   rintro b (rfl | rfl | hb)
   .exact q9 _ (DZ.1 hT1).1 (q10 _ _ hT1 apW)
   .exact q9 _ (DZ.1 hT2).1 (q10 _ _ hT2 ho2)
   .exact q9 b (aji b hb) (λhh=>q2.2.1 b hh hb)
  split at k2
  .cases k2
  rename_i hR;have hsz2:w.heap.size<=A2.heap.size:=pI hsz1 q8;have YV:∀p∈keepR (aN s.T) ws [] s.env,∃z,a.tmps[p.1]?=some z/\dD h2 β2 p.2 z:=by
   intro p hp;obtain⟨z,q1,q2,_⟩:=bH.env _ _ _ (rC hR p hp);obtain⟨w1,w2,w3⟩:=psw _ (zh p hp);have e1:=wU p.1 w3;have e2:=sm1 p.1 w2;simp only at e2;rw[e1,e2,SK vs _ w1]at q1;exact⟨z,q1,q2 rfl⟩
  cases e with
  | normal=>
    simp only at k2;obtain⟨x',j1,j2⟩:=k2;have hi1:i+1<=L.length:=(A8.1 hd).1;have gx':=good (i+1) x' hi1 j1;have et:eff [] (kD (ra.res x') s.T)=(eff s2.gl s2.T).take (aN s.T):=by
     rw[jH]at j2;rw[<-j2,nY (gl:=s2.gl) λp hp=>by rw[j2]at hp;exact(uS gx' p hp).1]
    refine⟨keep,hi1,⟨hsz2,λb hb=>OI (aji b hb) q8⟩,x',h2,β2.take (aN s.T),?_,j1,(le.trans le1).trans iD,?_,λp hp=>?_⟩
    .refine⟨ap2.1,?_,ap2.2.2⟩;rintro b ⟨i,r,v,e1,e2,e3,e4⟩ hb;rw[et]at e1;have hi:i < aN s.T:=by have:=(A8.1 e1).1;simp at this;omega
     rw[kN hi]at e1 e3;exact ap2.2.1 b ⟨i,r,v,e1,e2,e3,e4⟩ hb
    .rw[et];rw[jH]at j2;have hlen:aN s.T<=s2.T.length:=by
      have:=tX List.length j2;rw[y9,lu,bF]at this;rw[bF];omega
     refine ok2.take (by rw[jh];exact hlen) ?_
     rw[<-et];have:∀{l:List (Gd×ak)},(∀p∈l,p.1=[]/\lJ (aN s.T) p.2=true)->∀r∈eff [] l,lJ (aN s.T) r=true:=by
      intro l
      induction l with
      | nil=>intro _ r hr;simp[eff]at hr
      | cons q l ih=>
        obtain⟨g,r0⟩:=q;intro hh r hr;have hg:=hh (g,r0) (by simp)
        have hg1:g=[]:=hg.1;subst hg1;simp only[eff]at hr;rcases lU.1 hr with rfl | hr
        .exact hg.2
        .exact ih (λp hp=>hh p (by simp[hp])) r hr
     exact this (uS gx')
    .obtain⟨z,q1,q2⟩:=YV p hp;exact⟨z,q1,dD.below (qh p hp) q2⟩
  | ret=>exact⟨keep,hsz2,.ret,s2.T,s2.gl,h2,β2,ap2,.inl ⟨rfl,rfl⟩,k2,(le.trans le1).trans iD,ok2,bH.gT,YV⟩
  | exit j=>exact⟨keep,hsz2,.exit j,s2.T,s2.gl,h2,β2,ap2,.inr ⟨j,rfl,rfl⟩,k2,(le.trans le1).trans iD,ok2,bH.gT,YV⟩
  | goto t=>exact k2.elim
  | panic ch=>exact k2.elim
  | outgrown=>exact k2.elim
 .rintro G A ⟨_,_,x,h',β',_,i1,le,ok',refs⟩ hA;have kk:=kd x (by rw[bF];exact i1)
  have gx:=good _ x (o9 _) i1;rw[gx]at kk;simp only at kk;obtain⟨B',lb,df,up⟩:=dfr A hA;exact next _ _ h' β' A _ B' ⟨lb,λhh=>(by rw[hrd]at hh;cases hh)⟩ kk le (YO aj le refs (up ok') (λp hp=>by rw[(uS gx p hp).1]) rfl df) λ_ _=>rfl
theorem jc{P:Program}{n:Nat}:∀(c:Code){h0:FH}{E:Env} (ok:gU P E) (hg:aI E.cx.gd h0){F:Fence} (hF:Wd F) (hr:E.rd=false->F=Fence.wide){B:Base}{s:St}{h:FH}{β:List RV}{w:World}{a:Act}{K:Exit->St->Prop}{Q:Exit->Act->World->Prop},Sat E.n B h0 s h β w a ->
 jv E c s K->(∀e s' h' β' w' a' B',Base.YN E.rd B B'->K e s'->h.le h'->Sat E.n B' h0 s' h' β' w' a'->Same (writes c) a a'->Q e a' w')->c.wpIn F n P Q a w
 | .skip,h0,E,ok,hg,F,hF,hr,B,s,h,β,w,a,K,Q,aj,k,next=>wpIn_skip (next _ _ _ _ _ _ _ (.refl _) k (FH.le.refl h) aj (Same.refl _ _))
 | .exit i,h0,E,ok,hg,F,hF,hr,B,s,h,β,w,a,K,Q,aj,k,next=>wpIn_exit (next _ _ _ _ _ _ _ (.refl _) k (FH.le.refl h) aj (Same.refl _ _))
 | .ret,h0,E,ok,hg,F,hF,hr,B,s,h,β,w,a,K,Q,aj,k,next=>wpIn_ret (next _ _ _ _ _ _ _ (.refl _) k (FH.le.refl h) aj (Same.refl _ _))
 | .region id ops false,h0,E,ok,hg,F,hF,hr,B,s,h,β,w,a,K,Q,aj,k,next=>by
   simp only[jv]at k;split at k
   .cases k
   rename_i hnd;have et:tl ops=ops.toList:=by cases ops;rfl
   rw[et]at hnd k;refine PZ (R:=λa w=>Q .normal a w) hF (λ_ _ hh=>hh) hnd (JW ok hg ops.toList aj (by rw[et];exact k) λs' h' β' w' a' k' le aT sm=>next .normal _ _ _ _ _ _ (.refl _) k' le aT.clean ?_)
   simp only[writes];rw[et];exact sm
 | .seq x y,h0,E,ok,hg,F,hF,hr,B,s,h,β,w,a,K,Q,aj,k,next=>by
   simp only[jv]at k;split at k
   .rename_i la _;obtain⟨β0,ajj⟩:=aj.xU la.pad;clear aj;generalize xU la.pad s=s at ajj k;generalize β0=β at ajj;have aj:=ajj;obtain⟨k1,k2⟩:=k;have D0:∀h' a',h.le h'->Same (writes x) a a'->∀t e,iG (qc (eG la.drop (writes x)) [] s.env) t=some ([],e)->∃z,a'.tmps[t]?=some z/\jS h' [] e z:=by
     intro h' a' le sm t e ht;obtain⟨_,hw,hl,_,hf⟩:=kV ht;obtain⟨z,q1,q2,_⟩:=aj.env t [] e hl;exact⟨z,by rw[sm t (by rw[lI,l7]at hw;exact hw.2)];exact q1,(jS.lK [] hf (q2 rfl)).mono le (Ext.refl _)⟩
    refine wpIn_seq (jc x ok hg hF hr aj k1 λe s' h' β' w' a' B1 lb k' le aT sm=>?_)
    cases e with
    | normal=>
      simp only at k';unfold anw at k';obtain⟨h1,β1,le1,bH⟩:=Sat.tJ aT la.GH la.ug la.nil la.sD la.deep;obtain⟨β20,anF⟩:=bH.nR la.ren;obtain⟨β2,Qd⟩:=anF.tZ la.can;split at k'
      .rename_i hR;obtain⟨v,j1,j2,j3⟩:=k';have kk:=k2 v j1;split at kk
       .cases kk
       .rename_i hc;rw[aB,bY]at hc;exact jc y ok hg hF hr (zf Qd j3 hc.1 hc.2 j2 (rC hR) (D0 h1 a' (le.trans le1) sm)) kk λe s2 h2 β3 w2 a2 B2 Am k3 iD YM wU=>next e s2 h2 β3 w2 a2 B2 (lb.trans Am) k3 ((le.trans le1).trans iD) YM (sm.left.trans wU.right)
      .exact k'.elim
    | exit i=>exact next _ _ _ _ _ _ _ lb k' le aT sm.left
    | goto l=>exact next _ _ _ _ _ _ _ lb k' le aT sm.left
    | ret=>exact next _ _ _ _ _ _ _ lb k' le aT sm.left
    | panic ch=>exact next _ _ _ _ _ _ _ lb k' le aT sm.left
    | outgrown=>exact next _ _ _ _ _ _ _ lb k' le aT sm.left
   .refine wpIn_seq (jc x ok hg hF hr aj k λe s' h' β' w' a' B1 lb k' le aT sm=>?_)
    cases e with
    | normal=>exact jc y ok hg hF hr aT k' λe s2 h2 β2 w2 a2 B2 Am k2 iD bH wU=>next e s2 h2 β2 w2 a2 B2 (lb.trans Am) k2 (le.trans iD) bH (sm.left.trans wU.right)
    | exit i=>exact next _ _ _ _ _ _ _ lb k' le aT sm.left
    | goto l=>exact next _ _ _ _ _ _ _ lb k' le aT sm.left
    | ret=>exact next _ _ _ _ _ _ _ lb k' le aT sm.left
    | panic ch=>exact next _ _ _ _ _ _ _ lb k' le aT sm.left
    | outgrown=>exact next _ _ _ _ _ _ _ lb k' le aT sm.left
 | .cond c x y,h0,E,ok,hg,F,hF,hr,B,s,h,β,w,a,K,Q,aj,k,next=>by
   simp only[jv]at k;split at k
   .rename_i b hb;have hc:a.eval c=.bool b:=(aK aj (hg.mono aj.ok.hle) (show gv s.gl []=true from rfl) hb).1.1
    refine wpIn_cond_split hc (λht=>jc x ok hg hF hr aj ((ah.1 k).1 ht) λe s' h' β' w' a' B1 lb k' le aT sm=>next _ _ _ _ _ _ _ lb k' le aT sm.left)
     (λhf=>jc y ok hg hF hr aj ((ah.1 k).2 hf) λe s' h' β' w' a' B1 lb k' le aT sm=>next _ _ _ _ _ _ _ lb k' le aT sm.right)
   .cases k
 | .block id c,h0,E,ok,hg,F,hF,hr,B,s,h,β,w,a,K,Q,aj,k,next=>by
   refine wpIn_block (jc c ok hg hF hr aj k λe s' h' β' w' a' B1 lb k' le aT sm=>?_)
   cases e with
   | normal=>exact next _ _ _ _ _ _ _ lb k' le aT sm
   | exit i=>
     simp only at k';simp only[Exit.inBlock];split at k'
     .rename_i hi;have:i=id:=iC hi;rw[if_pos this];exact next _ _ _ _ _ _ _ lb k' le aT sm
     .rename_i hi;have:¬i=id:=λhh=>by rw[hh]at hi;simp at hi
      rw[if_neg this];exact next _ _ _ _ _ _ _ lb k' le aT sm
   | goto l=>exact next _ _ _ _ _ _ _ lb k' le aT sm
   | ret=>exact next _ _ _ _ _ _ _ lb k' le aT sm
   | panic ch=>exact next _ _ _ _ _ _ _ lb k' le aT sm
   | outgrown=>exact next _ _ _ _ _ _ _ lb k' le aT sm
 | .loop c,h0,E,ok,hg,F,hF,hr,B,s,h,β,w,a,K,Q,aj,k,next=>by
   simp only[jv]at k;split at k
   .rename_i la _;obtain⟨h1,β1,le1,jr⟩:=Sat.tJ aj la.GH la.ug la.nil la.sD la.deep
    replace next:=λe s' h' β' w' a' B1 lb k' le aT sm=>next e s' h' β' w' a' B1 lb k' (le1.trans le) aT sm
    clear le1 aj;clear h
    rename FH=>h
    generalize tJ s la.GH la.ug la.nil la.sD la.deep=s at jr k;obtain⟨β2,aj⟩:=jr.xU la.pad;clear jr;have jr:=aj;clear aj;generalize xU la.pad s=s at jr k;have aj:=jr;clear jr;obtain⟨⟨x,i1,i2,i3⟩,k2⟩:=k;have good:∀x,la.inv x->wR (aN s.T) (kD (la.res x) s.T)=true/\Io (aN s.T) (eG la.drop (writes c)) (la.slots x)=true /\
     jv E c (qA (eG la.drop (writes c)) s (la.slots x) (la.res x)) (λe s'=>match e with
      | .normal=>match Fb (tZ la.can (nR la.ren s')) (keepR (aN s.T) (eG la.drop (writes c)) [] s.env) with
        | true=>∃x',la.inv x'/\G9 (tZ la.can (nR la.ren s')) (la.slots x')/\qK (aN s.T) (tZ la.can (nR la.ren s')).T=kD (la.res x') s.T/\la.meas x' < la.meas x
        | false=>False
      | e=>K e s'):=by
     intro x hx;have:=k2 x hx;split at this
     .cases this
     .rename_i hc;rw[aB,bY]at hc;exact⟨hc.1,hc.2,this⟩
    have D0:∀h' a',h.le h'->Same (writes c) a a'->∀t e,iG (qc (eG la.drop (writes c)) [] s.env) t=some ([],e)->∃z,a'.tmps[t]?=some z/\jS h' [] e z:=by
     intro h' a' le sm t e ht;obtain⟨_,hw,hl,_,hf⟩:=kV ht;obtain⟨z,q1,q2,_⟩:=aj.env t [] e hl;exact⟨z,by rw[sm t (by rw[lI,l7]at hw;exact hw.2)];exact q1,(jS.lK [] hf (q2 rfl)).mono le (Ext.refl _)⟩
    refine wpIn_loop_ghost (λn a' w'=>∃x h' β' B1,Base.YN E.rd B B1/\la.meas x=n/\la.inv x/\h.le h'/\Sat E.n B1 h0 (qA (eG la.drop (writes c)) s (la.slots x) (la.res x)) h' β' w' a'/\Same (writes c) a a') (la.meas x) ?_ ?_
    .obtain⟨g1,g2,_⟩:=good x i1;refine⟨x,h,_,B,.refl _,rfl,i1,FH.le.refl h,zf aj ?_ g1 g2 i2 (λp hp=>(rD p hp).2) (D0 h a (FH.le.refl h) (Same.refl _ _)),Same.refl _ _⟩
     rw[<-i3,jH,bF,UW]
    .rintro n a' w' ⟨x,h',β',B1,lb,rfl,hx,le,aT,sm⟩;obtain⟨g1,g2,kk⟩:=good x hx;refine jc c ok hg hF hr aT kk λe s2 h2 β2 w2 a2 B2 Am k2 iD bH wU=>?_
     cases e with
     | normal=>
       simp only at k2;split at k2
       .rename_i hR;obtain⟨x',j1,j2,j3,j4⟩:=k2;obtain⟨g1',g2',_⟩:=good x' j1;obtain⟨β30,anG⟩:=bH.nR la.ren;obtain⟨β3,bH⟩:=anG.tZ la.can;refine⟨la.meas x',j4,x',h2,_,B2,lb.trans Am,rfl,j1,le.trans iD,zf bH j3 g1' g2' j2 (rC hR) (D0 h2 a2 (le.trans iD) (sm.trans wU)),sm.trans wU⟩
       .cases k2
     | exit i=>exact next _ _ _ _ _ _ _ (lb.trans Am) k2 (le.trans iD) bH (sm.trans wU)
     | goto l=>exact next _ _ _ _ _ _ _ (lb.trans Am) k2 (le.trans iD) bH (sm.trans wU)
     | ret=>exact next _ _ _ _ _ _ _ (lb.trans Am) k2 (le.trans iD) bH (sm.trans wU)
     | panic ch=>exact next _ _ _ _ _ _ _ (lb.trans Am) k2 (le.trans iD) bH (sm.trans wU)
     | outgrown=>exact next _ _ _ _ _ _ _ (lb.trans Am) k2 (le.trans iD) bH (sm.trans wU)
   .rename_i m _;refine wpIn_loop_rounds m ?_;have key:∀(m:Nat){B:Base}{s:St}{h:FH}{β:List RV}{w:World}{a:Act}{K:Exit->St->Prop}{Q:Exit->Act->World->Prop},Sat E.n B h0 s h β w a->JZ (jv E c) m s K ->
     (∀e s' h' β' w' a' B',Base.YN E.rd B B'->K e s'->h.le h'->Sat E.n B' h0 s' h' β' w' a'->Same (writes c) a a'->Q e a' w')->Code.roundsIn F n P c Q m a w:=by
     intro m
     induction m with
     | zero=>intro B s h β w a K Q aj k next;cases k
     | succ m ih=>
       intro B s h β w a K Q aj k next
       rw[roundsIn_succ];refine jc c ok hg hF hr aj k λe s2 h2 β2 w2 a2 B2 Am k2 iD bH wU=>?_
       cases e with
       | normal=>exact ih bH k2 λe s3 h3 β3 w3 a3 B3 lb3 k3 le3 Qd sm3=>next e s3 h3 β3 w3 a3 B3 (Am.trans lb3) k3 (iD.trans le3) Qd (wU.trans sm3)
       | exit i=>exact next _ _ _ _ _ _ _ Am k2 iD bH wU
       | goto l=>exact next _ _ _ _ _ _ _ Am k2 iD bH wU
       | ret=>exact next _ _ _ _ _ _ _ Am k2 iD bH wU
       | panic ch=>exact next _ _ _ _ _ _ _ Am k2 iD bH wU
       | outgrown=>exact next _ _ _ _ _ _ _ Am k2 iD bH wU
    exact key m aj k next
   .cases k
 | .region id ops true,h0,E,ok,hg,F,hF,hr,B,s,h,β,w,a,K,Q,aj,k,next=>by
   simp only[jv]at k;split at k
   .cases k
   rename_i hnd;have et:tl ops=ops.toList:=by cases ops;rfl
   cases hma:Bf E.cx (tl ops) with
   | true=>
     rw[hma]at k;simp only at k;cases hlx:ad8 ops with
     | false=>rw[hlx]at k;cases k
     | true=>
       rw[hlx]at k;exact YG ok hg hlx aj k hF (by rw[et]at hnd;exact hnd) λs' h' β' w' a' k' le aT sm=>next .normal _ _ _ _ _ _ (.refl _) k' le aT.clean sm
   | false=>
   rw[hma]at k;simp only at k;cases RQ:orB E.cx.rt (Nh E (tl ops)) with
   | true=>
     rw[RQ]at k;simp only at k;cases hd:y5 ops with
     | none=>rw[hd]at k;cases k
     | some l=>
       rw[hd]at k;exact YH ok hg hd aj k hF (by rw[et]at hnd;exact hnd) λs' h' β' w' a' k' le aT sm=>next .normal _ _ _ _ _ _ (.refl _) k' le aT.clean sm
   | false=>
   rw[RQ]at k;simp only at k;cases hd:vV ops with
   | none=>rw[hd]at k;cases k
   | some l=>
     rw[hd]at k;exact SG ok hg hd aj k hF (by rw[et]at hnd;exact hnd) λs' h' β' w' a' k' le aT sm=>next .normal _ _ _ _ _ _ (.refl _) k' le aT.clean sm
 | .rangeFunc g ps GI c,h0,E,ok,hg,F,hF,hr,B,s,h,β,w,a,K,Q,aj,k,next=>by
   simp only[jv]at k;split at k
   .cases k
   rename_i hrd;have hF':=hr hrd;subst hF';split at k
   .rename_i P' ss L hgE;split at k
    .rename_i ra _;obtain⟨hP,k⟩:=k;have hP:=ok.prog _ hP;subst hP;have gv0:Gives P' h ss L (a.eval g):=(aK aj (hg.mono aj.ok.hle) (show gv s.gl []=true from rfl) hgE).1
     obtain⟨h1,β1,le1,bH⟩:=Sat.tJ aj ra.GH ra.ug ra.nil ra.sD ra.deep
     replace next:=λe s' h' β' w' a' B1 lb k' le aT sm=>next e s' h' β' w' a' B1 lb k' (le1.trans le) aT sm
     have gv1:=Gz.yu (x:=.seq P' ss L) le1 gv0;generalize tJ s ra.GH ra.ug ra.nil ra.sD ra.deep=s2 at bH k;refine YQ (λc' hc' h0' E' B' s' h' β' w' a' K' Q' l ok' hg' he aT k' next'=>?_) ok hg bH gv1 k hrd next
     rcases hc' with rfl | rfl
     .exact jc _ ok' hg' (F:=Fence.wide.inRound l) (.inr ⟨l,rfl⟩) (λhh=>by rw[he]at hh;cases hh) aT k' next'
     .exact jc _ ok' hg' (F:=Fence.wide.inRound l) (.inr ⟨l,rfl⟩) (λhh=>by rw[he]at hh;cases hh) aT k' next'
    .cases k
   .cases k
 | .scope _,h0,E,ok,hg,F,hF,hr,B,s,h,β,w,a,K,Q,aj,k,next=>k.elim
 | .label _,h0,E,ok,hg,F,hF,hr,B,s,h,β,w,a,K,Q,aj,k,next=>k.elim
 | .goto _,h0,E,ok,hg,F,hF,hr,B,s,h,β,w,a,K,Q,aj,k,next=>k.elim
 | .refuse _,h0,E,ok,hg,F,hF,hr,B,s,h,β,w,a,K,Q,aj,k,next=>k.elim
abbrev resV(cx:Cx) (s:St) (r:ResultVar) (K:SV->Prop):Prop:=match r with
 | .tmp t=>match iG s.env t with
   | some ([],.one v)=>K v
   | _=>False
 | .cell p t=>match iG s.env p with
   | some ([],.one (.c q))=>uw cx s [] t q λe=>match e with
     | .one v=>K v
     | _=>False
   | _=>False
abbrev YW(cx:Cx) (s:St):List ResultVar->(List SV->Prop)->Prop
 | [],K=>K []
 | r :: l,K=>resV cx s r λv=>YW cx s l λvs=>K (v :: vs)
abbrev Qg(i:Nat):List (Nat×ak)->Bool
 | []=>false
 | (j,_) :: l=>match Nat.beq i j with
   | true=>true
   | false=>Qg i l
abbrev selC(T:List (Gd×ak)) (x:SC) (acc:List (Nat×ak)):Option (SC×List (Nat×ak)):=match x with
 | .v u=>some (.v u,acc)
 | .sl sh l=>some (.sl sh l,acc)
 | .fp sh d=>some (.fp sh d,acc)
 | .one sh d=>some (.one sh d,acc)
 | .abs x=>some (.abs x,acc)
 | .row i=>match eX T i with
   | some ([],.row t sh l)=>match Qg i acc with
     | true=>none
     | false=>some (.row (aN acc),snoc acc (i,.row t sh l))
   | some ([],.deep t sh l tt e so own hs)=>match Qg i acc with
     | true=>none
     | false=>some (.row (aN acc),snoc acc (i,.deep t sh l tt e so own hs))
   | some ([],.mp k sh l)=>match Qg i acc with
     | true=>none
     | false=>some (.row (aN acc),snoc acc (i,.mp k sh l))
   | _=>none
 | _=>none
abbrev Np(T:List (Gd×ak)):List SC->List (Nat×ak)->Option (List SC×List (Nat×ak))
 | [],acc=>some ([],acc)
 | x :: l,acc=>match selC T x acc with
   | some (y,acc)=>match Np T l acc with
     | some (m,acc)=>some (y :: m,acc)
     | none=>none
   | none=>none
abbrev ajk(T:List (Gd×ak)) (v:SV) (acc:List (Nat×ak)):Option (SV×List (Nat×ak)):=match v with
 | .c x=>match selC T x acc with
   | some (y,acc)=>some (.c y,acc)
   | none=>none
 | .agg xs=>match Np T xs acc with
   | some (ys,acc)=>some (.agg ys,acc)
   | none=>none
 | .dat sh d=>some (.dat sh d,acc)
 | .und=>none
abbrev Nq(T:List (Gd×ak)):List SV->List (Nat×ak)->Option (List SV×List (Nat×ak))
 | [],acc=>some ([],acc)
 | x :: l,acc=>match ajk T x acc with
   | some (y,acc)=>match Nq T l acc with
     | some (m,acc)=>some (y :: m,acc)
     | none=>none
   | none=>none
abbrev anH:List SV->bg
 | [v]=>.one v
 | vs=>.iJ vs
abbrev VX:List (Nat×ak)->List ak
 | []=>[]
 | (_,r) :: l=>r :: VX l
abbrev aee(T:List (Gd×ak)) (vs:List SV) (R:List ak->bg->Prop):Prop:=match Nq T vs []with
 | some (vs',acc)=>R (VX acc) (anH vs')
 | none=>False
abbrev CU(n:Nat):List SV->List (Nat×Gd×bg)
 | []=>[]
 | v :: l=>(n,[],.one v) :: CU (Nat.succ n) l
abbrev frC(T:List (Gd×ak)) (x:SC):Option (List (Gd×ak)×SC):=match x with
 | .row i=>match eX T i with
   | some ([],.row _ sh l)=>some (dF T i ([],.gone),.sl sh l)
   | some ([],.deep _ sh l _ _ _ _ [])=>some (dF T i ([],.gone),.sl sh l)
   | some ([],.mp k sh l)=>some (dF T i ([],.gone),.one (.mp k sh) l)
   | _=>none
 | x=>some (T,x)
abbrev frL(T:List (Gd×ak)):List SC->Option (List (Gd×ak)×List SC)
 | []=>some (T,[])
 | x :: l=>match frC T x with
   | some (T,y)=>match frL T l with
     | some (T,m)=>some (T,y :: m)
     | none=>none
   | none=>none
abbrev frV(T:List (Gd×ak)) (v:SV):Option (List (Gd×ak)×SV):=match v with
 | .c x=>match frC T x with
   | some (T,y)=>some (T,.c y)
   | none=>none
 | .agg xs=>match frL T xs with
   | some (T,ys)=>some (T,.agg ys)
   | none=>none
 | v=>some (T,v)
abbrev coV(c:RC) (T:List (Gd×ak)) (v:SV) (K:List (Gd×ak)->SV->Prop):Prop:=match c with
 | .keep=>K T v
 | .data sh=>match frV T v with
   | some (T,v)=>match toDat sh v with
     | some d=>K T (iH sh d)
     | none=>False
   | none=>False
 | .row t sh=>match v with
   | .c (.v (.slice none 0 0))=>K (snoc T ([],.row t sh [])) (.c (.row (aN T)))
   | v=>K T v
 | .hd t sh rest=>match v with
   | .agg (x :: xs)=>match frL T xs with
     | some (T',ys)=>match takeD rest ys with
       | some (d,[])=>match flat rest d with
         | some zs=>match x with
           | .v (.slice none 0 0)=>K (snoc T' ([],.row t sh [])) (.agg (.row (aN T') :: zs))
           | x=>K T' (.agg (x :: zs))
         | none=>False
       | _=>False
     | none=>False
   | _=>False
abbrev coK:List RC->List (Gd×ak)->List SV->(List (Gd×ak)->List SV->Prop)->Prop
 | [],T,vs,K=>K T vs
 | _ :: _,T,[],K=>K T []
 | c :: cs,T,v :: vs,K=>coV c T v λT v=>coK cs T vs λT vs=>K T (v :: vs)
section
variable {B:Base}{h0:FH}{gl:List Bool}{w:World}
theorem YX{T':List (Gd×ak)} (ok:OK B h0 (eff gl T) h β w){x x':SC} (e:frC T x=some (T',x')) (c:dX h β x y):
 ∃h',h.le h'/\OK B h0 (eff gl T') h' β w/\dX h' β x' y:=by
 unfold frC at e;split at e
 .rename_i i;split at e
  .rename_i t sh l hT;cases e;have fP:(eff gl T)[i]?=some (.row t sh l):=by rw[jD,<-fJ,hT];rfl
   obtain⟨h',le,ok',sl⟩:=ok.freeze fP (ok.row_of fP c);exact⟨h',le,by rw[fV];exact ok',sl⟩
  .rename_i t sh l t2 e2 so own hT;cases e;have fP:(eff gl T)[i]?=some (.deep t sh l t2 e2 so own []):=by rw[jD,<-fJ,hT];rfl
   obtain⟨us,hu,hd⟩:=ok.vJ fP c;obtain⟨le,ok',vis⟩:=ok.vC fP rfl hu;exact⟨_,le,by rw[fV];exact ok',hd.data le λb hb o z hz=>vis b hb o z hz⟩
  .rename_i k sh l hT;cases e;have fP:(eff gl T)[i]?=some (.mp k sh l):=by rw[jD,<-fJ,hT];rfl
   have hu:=ok.ahM fP c;obtain⟨le,ok',vs⟩:=ok.vC fP rfl hu;exact⟨_,le,by rw[fV];exact ok',RZ (β:=β) (ok.holds i _ _ fP hu) le λb hb o z hz=>vs b hb o z hz⟩
  .cases e
 .cases e;exact⟨h,FH.le.refl h,ok,c⟩
theorem Qh:∀{xs xs':List SC}{T T':List (Gd×ak)}{h:FH}{β:List RV}{ys:List Value},OK B h0 (eff gl T) h β w->frL T xs=some (T',xs')->aO (λx y=>dX h β x y/\dH y) xs ys ->
 ∃h',h.le h'/\OK B h0 (eff gl T') h' β w/\aO (λx y=>dX h' β x y/\dH y) xs' ys
 | [],xs',T,T',h,β,[],ok,e,_=>by simp[frL]at e;obtain⟨rfl,rfl⟩:=e;exact⟨h,FH.le.refl h,ok,trivial⟩
 | x :: l,xs',T,T',h,β,y :: ys,ok,e,⟨c,r⟩=>by
   unfold frL at e;split at e
   .rename_i T1 x1 h1;split at e
    .rename_i T2 m h2;cases e;obtain⟨ha,le1,ok1,c1⟩:=YX ok h1 c.1;obtain⟨hb,iD,ok2,c2⟩:=Qh ok1 h2 (r.mono λ_ _ q=>⟨q.1.mono le1 (Ext.refl β),q.2⟩)
     exact⟨hb,le1.trans iD,ok2,⟨c1.mono iD (Ext.refl β),c.2⟩,c2⟩
    .cases e
   .cases e
theorem ajl{T':List (Gd×ak)} (ok:OK B h0 (eff gl T) h β w){x x':SV} (e:frV T x=some (T',x')) (c:dD h β x y):
 ∃h',h.le h'/\OK B h0 (eff gl T') h' β w/\dD h' β x' y:=by
 unfold frV at e;split at e
 .split at e
  .rename_i T1 y1 h1;cases e;obtain⟨h',le,ok',c'⟩:=YX ok h1 c.1;exact⟨h',le,ok',c',c.2⟩
  .cases e
 .split at e
  .rename_i T1 y1 h1;cases e;obtain⟨ys,rfl,a⟩:=c;obtain⟨h',le,ok',c'⟩:=Qh ok h1 a;exact⟨h',le,ok',ys,rfl,c'⟩
  .cases e
 .cases e;exact⟨h,FH.le.refl h,ok,c⟩
theorem ajm(ok:OK B h0 (eff gl T) h β w){c:RC}{v:SV}{K:List (Gd×ak)->SV->Prop} (k:coV c T v K) (cv:dD h β v y):
 ∃T' v' h' β',K T' v'/\h.le h'/\Ext β β'/\OK B h0 (eff gl T') h' β' w/\dD h' β' v' y:=by
 unfold coV at k;split at k
 .exact⟨T,v,h,β,k,FH.le.refl h,Ext.refl β,ok,cv⟩
 .split at k
  .rename_i T1 v1 h1;split at k
   .rename_i d hd;obtain⟨h',le,ok',c'⟩:=ajl ok h1 cv;obtain⟨cs,rfl,rd⟩:=toDat_ok hd c';exact⟨T1,_,h',β,k,le,Ext.refl β,ok',jI _ rd⟩
   .cases k
  .cases k
 .rename_i t sh;split at k
  .obtain⟨e,_⟩:=cv;obtain⟨rfl,_⟩:=e;refine⟨_,_,h,β++[.row (.slice none 0 0)],k,FH.le.refl h,Ext.append _ _,?_,?_⟩
   .rw[iM,oO];exact ok.add (r:=.row t sh []) (v:=.row (.slice none 0 0)) (dh w none) (λb hb=>by rw[aZ]at hb;simp[aA]at hb) (.inl ⟨rfl,rfl⟩)
   .refine⟨⟨.row (.slice none 0 0),?_,rfl⟩,rfl,rfl⟩;have:aN T=β.length:=by rw[ok.len,jh,bF]
    rw[this];simp
  .exact⟨T,v,h,β,k,FH.le.refl h,Ext.refl β,ok,cv⟩
 .rename_i t sh rest;split at k
  .rename_i x xs;split at k
   .rename_i T' ys hfr;split at k
    .rename_i d htk;split at k
     .rename_i zs hfl;obtain⟨us,e0,a⟩:=cv;cases us with
      | nil=>exact a.elim
      | cons u us=>
        obtain⟨cu,a⟩:=a;obtain⟨h',le,ok',a'⟩:=Qh ok hfr a;obtain⟨c1,c2,e1,rd,a2⟩:=oJ rest htk a';have ec:c2=[]:=by cases c2 with | nil=>rfl | cons _ _=>exact a2.elim
        subst ec;rw[Rf]at e1;subst e1;split at k
        .obtain⟨⟨rfl,_⟩,_⟩:=cu;refine⟨_,_,h',β++[.row (.slice none 0 0)],k,le,Ext.append _ _,?_,?_⟩
         .rw[iM,oO];exact ok'.add (r:=.row t sh []) (v:=.row (.slice none 0 0)) (dh w none) (λb hb=>by rw[aZ]at hb;simp[aA]at hb) (.inl ⟨rfl,rfl⟩)
         .refine⟨.slice none 0 0 :: us,e0,⟨⟨.row (.slice none 0 0),?_,rfl⟩,rfl,rfl⟩,yx rest hfl rd⟩;have:aN T'=β.length:=by rw[ok'.len,jh,bF]
          rw[this];simp
        .exact⟨T',_,h',β,k,le,Ext.refl β,ok',u :: us,e0,⟨cu.1.mono le (Ext.refl β),cu.2⟩,yx rest hfl rd⟩
     .cases k
    .cases k
   .cases k
  .cases k
theorem YZ:∀{cs:List RC}{vs:List SV}{ys:List Value}{T:List (Gd×ak)}{h:FH}{β:List RV}{K:List (Gd×ak)->List SV->Prop},OK B h0 (eff gl T) h β w->coK cs T vs K->aO (dD h β) vs ys ->
 ∃T' vs' h' β',K T' vs'/\h.le h'/\Ext β β'/\OK B h0 (eff gl T') h' β' w/\aO (dD h' β') vs' ys
 | [],vs,ys,T,h,β,K,ok,k,a=>⟨T,vs,h,β,k,FH.le.refl h,Ext.refl β,ok,a⟩
 | _ :: _,[],ys,T,h,β,K,ok,k,a=>⟨T,[],h,β,k,FH.le.refl h,Ext.refl β,ok,a⟩
 | c :: cs,v :: vs,y :: ys,T,h,β,K,ok,k,⟨cv,a⟩=>by
   obtain⟨T1,v1,h1,β1,k1,le1,eb1,ok1,c1⟩:=ajm ok k cv;obtain⟨T2,vs2,h2,β2,k2,iD,eb2,ok2,c2⟩:=YZ ok1 k1 (a.mono λ_ _ q=>q.mono le1 eb1)
   exact⟨T2,v1 :: vs2,h2,β2,k2,le1.trans iD,λi u e=>eb2 i u (eb1 i u e),ok2,c1.mono iD eb2,c2⟩
end
abbrev uT(E:Env) (body:Code) (rs:List ResultVar) (args:List SV) (R:List ak->bg->Prop):Prop:=
 jv E body { env:=CU 0 args,T:=[],gl:=[],gs:=[] } λe s=>match e with
  | .normal=>YW E.cx s rs λvs=>coK E.rc s.T vs λT vs=>aee T vs R
  | .ret=>YW E.cx s rs λvs=>coK E.rc s.T vs λT vs=>aee T vs R
  | _=>False
section
variable {B:Base}{h0:FH}{h:FH}{β:List RV}{w:World}{T:List (Gd×ak)}{gl:List Bool}
def ak.isRow:ak->Prop
 | .row _ _ _=>True
 | .deep _ _ _ _ _ _ _ _=>True
 | .mp _ _ _=>True
 | _=>False
structure tK (T:List ak) (acc:List (Nat×ak)):Prop where
 at_:∀p∈acc,T[p.1]?=some p.2/\p.2.isRow
 dup:∀(i j:Nat) p q,acc[i]?=some p->acc[j]?=some q->p.1=q.1->i=j
def lM(β:List RV) (acc:List (Nat×ak)):List RV:=acc.map λp=>β.getD p.1 .no
theorem xY:∀{acc:List (Nat×ak)}{i:Nat},Qg i acc=false->∀p∈acc,p.1≠i
 | [],i,_,p,hp=>by simp at hp
 | (j,r) :: l,i,h,p,hp=>by
   simp only[Qg]at h;split at h
   .cases h
   .rename_i hij;rcases lU.1 hp with rfl | hp
    .exact λhh=>Xc hij hh.symm
    .exact xY h p hp
theorem tK.snoc{T:List ak} (k:tK T acc){r:ak} (hT:T[i]?=some r) (hr:r.isRow) (hm:Qg i acc=false):tK T (acc++[(i,r)]) where
 at_:=by
  intro p hp;rw[CX]at hp;rcases hp with hp | hp
  .exact k.at_ p hp
  .simp at hp;subst hp;exact⟨hT,hr⟩
 dup:=by
  intro a b p q ha hb e;rcases aF ha with⟨h1,ha⟩ | ⟨h1,rfl⟩<;>rcases aF hb with⟨h2,hb⟩ | ⟨h2,rfl⟩
  .exact k.dup a b p q ha hb e
  .exact(xY hm p (gZ ha) e).elim
  .exact(xY hm q (gZ hb) e.symm).elim
  .omega
theorem Fj(β:List RV) (acc ext:List (Nat×ak)):Ext (lM β acc) (lM β (acc++ext)):=by
 unfold lM;rw[OQ];exact Ext.append _ _
theorem SL(ok:OK B h0 (eff gl T) h β w){x x':SC}{acc':List (Nat×ak)} (e:selC T x acc=some (x',acc')) (k:tK (eff gl T) acc) (c:dX h β x y):
 tK (eff gl T) acc'/\(∃ext,acc'=acc++ext)/\dX h (lM β acc') x' y:=by
 unfold selC at e;split at e
 .cases e;exact⟨k,⟨[],by simp⟩,c⟩
 .cases e;exact⟨k,⟨[],by simp⟩,c⟩
 .cases e;exact⟨k,⟨[],by simp⟩,c⟩
 .cases e;exact⟨k,⟨[],by simp⟩,c⟩
 .cases e;exact⟨k,⟨[],by simp⟩,c⟩
 .rename_i i;split at e
  .rename_i t sh l hT;split at e
   .cases e
   .rename_i hm;cases e;have fP:(eff gl T)[i]?=some (.row t sh l):=by rw[jD,<-fJ,hT];rfl
    rw[iM];refine⟨k.snoc fP trivial hm,⟨_,rfl⟩,?_⟩;obtain⟨u,c,cs⟩:=c;refine⟨u,?_,cs⟩;unfold lM;rw[OQ,bF,OH (by simp)]
    simp[c]
  .rename_i t sh l t2 e2 so own hs hT;split at e
   .cases e
   .rename_i hm;cases e;have fP:(eff gl T)[i]?=some (.deep t sh l t2 e2 so own hs):=by rw[jD,<-fJ,hT];rfl
    rw[iM];refine⟨k.snoc fP trivial hm,⟨_,rfl⟩,?_⟩;obtain⟨u,c,cs⟩:=c;refine⟨u,?_,cs⟩;unfold lM;rw[OQ,bF,OH (by simp)]
    simp[c]
  .rename_i k2 sh l hT;split at e
   .cases e
   .rename_i hm;cases e;have fP:(eff gl T)[i]?=some (.mp k2 sh l):=by rw[jD,<-fJ,hT];rfl
    rw[iM];refine⟨k.snoc fP trivial hm,⟨_,rfl⟩,?_⟩;obtain⟨u,c,cs⟩:=c;refine⟨u,?_,cs⟩;unfold lM;rw[OQ,bF,OH (by simp)]
    simp[c]
  .cases e
 .cases e
theorem Nr(ok:OK B h0 (eff gl T) h β w):∀{xs xs':List SC}{acc acc':List (Nat×ak)}{ys:List Value},Np T xs acc=some (xs',acc')->tK (eff gl T) acc->aO (λx y=>dX h β x y/\dH y) xs ys ->
 tK (eff gl T) acc'/\(∃ext,acc'=acc++ext)/\aO (λx y=>dX h (lM β acc') x y/\dH y) xs' ys
 | [],xs',acc,acc',[],e,k,_=>by simp[Np]at e;obtain⟨rfl,rfl⟩:=e;exact⟨k,⟨[],by simp⟩,trivial⟩
 | x :: l,xs',acc,acc',y :: ys,e,k,⟨c,r⟩=>by
   unfold Np at e;split at e
   .rename_i x1 ajn h1;split at e
    .rename_i m ap1 h2;cases e;obtain⟨k1,⟨ext1,rfl⟩,c1⟩:=SL ok h1 k c.1;obtain⟨k2,⟨ajo,rfl⟩,c2⟩:=Nr ok h2 k1 r;exact⟨k2,⟨ext1++ajo,by rw[Au]⟩,⟨c1.mono (FH.le.refl h) (Fj _ _ _),c.2⟩,c2⟩
    .cases e
   .cases e
theorem aef(ok:OK B h0 (eff gl T) h β w){x x':SV}{acc':List (Nat×ak)} (e:ajk T x acc=some (x',acc')) (k:tK (eff gl T) acc) (c:dD h β x y):
 tK (eff gl T) acc'/\(∃ext,acc'=acc++ext)/\dD h (lM β acc') x' y:=by
 unfold ajk at e;split at e
 .split at e
  .rename_i y1 ajn h1;cases e;obtain⟨k1,e1,c1⟩:=SL ok h1 k c.1;exact⟨k1,e1,c1,c.2⟩
  .cases e
 .split at e
  .rename_i y1 ajn h1;cases e;obtain⟨vs,e0,a⟩:=c;obtain⟨k1,e1,c1⟩:=Nr ok h1 k a;exact⟨k1,e1,vs,e0,c1⟩
  .cases e
 .cases e;exact⟨k,⟨[],by simp⟩,c⟩
 .cases e
theorem Ns(ok:OK B h0 (eff gl T) h β w):∀{xs xs':List SV}{acc acc':List (Nat×ak)}{ys:List Value},Nq T xs acc=some (xs',acc')->tK (eff gl T) acc->aO (dD h β) xs ys ->
 tK (eff gl T) acc'/\(∃ext,acc'=acc++ext)/\aO (dD h (lM β acc')) xs' ys
 | [],xs',acc,acc',[],e,k,_=>by simp[Nq]at e;obtain⟨rfl,rfl⟩:=e;exact⟨k,⟨[],by simp⟩,trivial⟩
 | x :: l,xs',acc,acc',y :: ys,e,k,⟨c,r⟩=>by
   unfold Nq at e;split at e
   .rename_i x1 ajn h1;split at e
    .rename_i m ap1 h2;cases e;obtain⟨k1,⟨ext1,rfl⟩,c1⟩:=aef ok h1 k c;obtain⟨k2,⟨ajo,rfl⟩,c2⟩:=Ns ok h2 k1 r;exact⟨k2,⟨ext1++ajo,by rw[Au]⟩,dD.mono (FH.le.refl h) (Fj _ _ _) c1,c2⟩
    .cases e
   .cases e
theorem J4:∀(l:List (Nat×ak)),VX l=l.map (·.2)
 | []=>rfl
 | (_,r) :: l=>by simp[VX,J4 l]
theorem OK.pick{T:List ak} (ok:OK B h0 T h β w) (k:tK T acc):OK B h0 (VX acc) h (lM β acc) w:=by
 have get:∀{i:Nat}{r:ak}{v:RV},(VX acc)[i]?=some r->(lM β acc)[i]?=some v->∃p,acc[i]?=some p/\T[p.1]?=some r/\β[p.1]?=some v/\r.isRow:=by
  intro i r v e e';rw[J4,wJ]at e;unfold lM at e';rw[wJ]at e';cases hp:acc[i]? with
  | none=>rw[hp]at e;cases e
  | some p=>
    rw[hp]at e e';cases e;cases e';obtain⟨h1,h2⟩:=k.at_ p (gZ hp);have gX:p.1 < β.length:=by rw[ok.len];exact(A8.1 h1).1
    exact⟨p,rfl,h1,by simp[gX],h2⟩
 exact {
  below:=ok.below
  dr:=ok.dr
  len:=by rw[J4];simp[lM]
  holds:=by
   intro i r v e e';obtain⟨p,_,h1,h2,hr⟩:=get e e';have:=ok.holds _ _ _ h1 h2;cases r with
   | row _ _ _=>
     cases v with
     | row y=>exact this
     | _=>exact this.elim
   | deep _ _ _ _ _ _ _ _=>
     cases v with
     | deep y us=>exact this
     | _=>exact this.elim
   | mp _ _ _=>
     cases v with
     | row y=>exact this
     | _=>exact this.elim
   | OD _ _ _ _=>exact hr.elim
   | it _ _ _ _=>exact hr.elim
   | LC _ _ _ _=>exact hr.elim
   | Hz _ _ _ _=>exact hr.elim
   | blk _ _=>exact hr.elim
   | obj _ _ _=>exact hr.elim
   | gone=>exact hr.elim
  own:=by
   intro i r v b e l e' hb;obtain⟨p,_,h1,h2,_⟩:=get e e';exact ok.own _ r v b h1 l h2 hb
  inj:=by
   intro i j r r' u v b e l e' l' f f' hb hb';obtain⟨p,p1,h1,h2,_⟩:=get e f;obtain⟨q,q1,h3,h4,_⟩:=get e' f';exact k.dup i j p q p1 q1 (ok.inj _ _ r r' u v b h1 l h3 l' h2 h4 hb hb')
  hle:=ok.hle
  hw:=ok.hw
  hg:=ok.hg
  kn:=ok.kn }
end
def J5(a:Act):ResultVar->Sem Value
 | .tmp t=>pure (a.tmps.getD t undef)
 | .cell p t=>do loadVar t (<-asAddr (a.tmps.getD p undef))
theorem aeg(hc:bV P cx.ti) (aj:Sat N B h0 s h β w a){r:ResultVar}{K:SV->Prop} (k:resV cx s r K):
 ∃v y,K v/\(J5 a r).run P w=.ok y w/\dD h β v y:=by
 unfold resV at k;split at k
 .rename_i t;split at k
  .rename_i v hv;obtain⟨z,q1,q2,_⟩:=aj.env _ _ _ hv;exact⟨v,z,k,by simp[J5,q1],q2 rfl⟩
  .cases k
 .rename_i p t;split at k
  .rename_i q hq;obtain⟨z,q1,q2,_⟩:=aj.env _ _ _ hq;obtain⟨e,k1,k2⟩:=Em hc aj k;split at k1
   .rename_i v;obtain⟨y,r1,r2⟩:=k2 rfl z (q2 rfl).1;refine⟨v,y,k1,?_,r2⟩;have hz:∃ad,z=.pointer (some ad):=by
     have c:=(q2 rfl).1;cases q with
     | v x=>
       unfold uw at k;split at k
       .cases k
       .cases k
     | sl _ _=>
       unfold uw at k;split at k
       .cases k
       .cases k
     | fp _ _=>obtain⟨b,o,_,e,_⟩:=c;exact⟨_,e⟩
     | own _ _=>obtain⟨b,_,e⟩:=c;exact⟨_,e⟩
     | row _=>
       unfold uw at k;split at k
       .cases k
       .cases k
     | jU _ _ _ _=>obtain⟨_,g,_,_,e⟩:=c;exact⟨_,e⟩
     | lX _ _ _ _ _=>obtain⟨_,_,g,_,_,e⟩:=c;exact⟨_,e⟩
     | sub _ _=>
       unfold uw at k;split at k
       .cases k
       .cases k
     | one _ _=>
       unfold uw at k;split at k
       .cases k
       .cases k
     | abs _=>
       unfold uw at k;split at k
       .cases k
       .cases k
     | junk=>
       unfold uw at k;split at k
       .cases k
       .cases k
    obtain⟨ad,rfl⟩:=hz;have hg:a.tmps.getD p undef=.pointer (some ad):=by simp[q1]
    simp only[J5];rw[hg];simpa[Instr.loadAt,Instr.sureAddr,asAddr]using r1 w (nG.refl w)
   .cases k1
  .cases k
theorem SN{cx:Cx}{P:Program} (hc:bV P cx.ti){N:Nat}{B:Base}{h0:FH}{s:St}{h:FH}{β:List RV}{w:World}{a:Act} (aj:Sat N B h0 s h β w a):∀{rs:List ResultVar}{K:List SV->Prop},YW cx s rs K ->
 ∃vs ys,K vs/\(rs.mapM (J5 a)).run P w=.ok ys w/\aO (dD h β) vs ys
 | [],K,k=>⟨[],[],k,rfl,trivial⟩
 | r :: l,K,k=>by
   obtain⟨v,y,k1,r1,c1⟩:=aeg hc aj k;obtain⟨vs,ys,k2,r2,c2⟩:=SN hc aj k1;refine⟨v :: vs,y :: ys,k2,?_,c1,c2⟩;rw[List.mapM_cons];simp only[Sem.run_bind,Sem.run_pure];rw[r1];simp only[Result.andThen_ok];rw[r2];rfl
theorem Qi(fn:Func) (a:Act):results fn a.tmps=(do let vs <-fn.results.mapM (J5 a);pure (if h:vs.size=1 then vs[0] else .tuple vs):Sem Value):=by
 unfold results
 congr 1
theorem BZ{fn:Func}{ys:List Value}
 (h:((tl fn.results).mapM (J5 a)).run P w=.ok ys w):
 (results fn a.tmps).run P w=.ok (match ys with | [y]=>y | _=>.tuple ys.toArray) w:=by
 rw[Qi];have e:(fn.results.mapM (J5 a)).run P w=.ok ys.toArray w:=by
  cases hr:fn.results with
  | mk l=>
    rw[hr]at h;have e2:=List.mapM_toArray (m:=Sem) (f:=(J5 a)) (l:=l);refine(tX (λx=>Sem.run P x w) e2).trans ?_
    simp only[Sem.run_map];rw[show Sem.run P (List.mapM (J5 a) l) w=_ from h];rfl
 simp only[Sem.run_bind];rw[e];simp only[Result.andThen_ok,Sem.run_pure]
 congr 1
 match ys with
 | []=>rfl
 | [y]=>rfl
 | _ :: _ :: _=>simp
abbrev jM(fn:Func):Code:=match fn.body with
 | some c=>c
 | none=>.skip
theorem Cb{P:Program}{fn:Func}{tmps:Array Value}{R:Ending->World->Prop}{N:Nat}{B:World}{h0:FH}{s:St}{h:FH}{β:List RV}:∀(X:List Nat){w:World},X.Nodup->(∀D∈X,B.heap.size<=D/\w.heap[D]?=some (.deferred (some []))) ->
 Sat N (Base.of B) h0 s h β w { tmps:=tmps,defers:=[] }->(∀w',Sat N (Base.of B) h0 s h β w' { tmps:=tmps,defers:=[] }->∃v,(results fn tmps).run P w'=.ok v w'/\R (.returned v) w') ->
 LeavesInM Fence.wide 0 P fn tmps R (X.map (λD=>({ target:=.collected D,args:=#[] }:Deferred))) .returning w
 | [],w,_,_,aj,fin=>fin w aj
 | D :: X,w,hn,hx,aj,fin=>by
   obtain⟨h1,h2⟩:=hx D (by simp)
   have hn:=OU.1 hn;refine⟨λhh=>(by cases hh),.inl ⟨D,w.putObj D (.deferred none),rfl,run_takeDeferred h2,?_⟩⟩
   refine Cb X hn.2 (λD' hD'=>?_) ⟨aj.ok.turn h1 (λk u hk=>hk.elim) h2 rfl,aj.env,aj.gs,OZ.nil rfl,aj.sz,aj.gb,aj.gT⟩ fin
   obtain⟨g1,g2⟩:=hx D' (by simp[hD'])
   refine⟨g1,(World.putObj_heap_other ?_).trans g2⟩;rintro rfl;exact hn.1 hD'
abbrev J6:List Value->List SV
 | []=>[]
 | v :: l=>.c (.v v) :: J6 l
theorem SX{h:FH}{β:List RV}:∀{l:List Value},(∀v∈l,Ec v=true)->aO (dD h β) (J6 l) l
 | [],_=>trivial
 | v :: l,hh=>⟨⟨⟨rfl,qN (hh v (by simp))⟩,qN (hh v (by simp))⟩,SX λu hu=>hh u (by simp[hu])⟩
theorem aO.append{α β:Type}{R:α->β->Prop}:∀{l l':List α}{m m':List β},aO R l m->aO R l' m'->aO R (l++l') (m++m')
 | [],_,[],_,_,h=>h
 | _ :: _,_,_ :: _,_,⟨a,b⟩,h=>⟨a,aO.append b h⟩
theorem Qj(ok:gU P E){fn:Func}{sv:List SV} (hf:P.funcs[f]?=some fn) (hb:fn.body=some body) (hn:fn.ntmps=E.n) (hle:Nat.ble (aN ct.ps+aN sv) E.n=true)
 (k:∀d,ct.pre d->∃ann,uT { E with ann:=ann } body (tl fn.results) (eG (fD ct.ps d) sv) λT e=>(ct.res d).1=T/\(ct.res d).2=e):CTS P E.cx.gd f sv ct:=by
 intro d vs suf h B hw hg hargs hys aG;obtain⟨ann,kk⟩:=k d aG;have ok:gU P { E with ann:=ann }:=⟨ok.prog,ok.hc,ok.Yx,ok.mixed,ok.ti,ok.ct,ok.ip,ok.sq,ok.sf⟩
 have hlen:∀{ss:List Sh}{d:cO ss},(fD ss d).length=aN ss:=by
  intro ss
  induction ss with
  | nil=>intro d;rfl
  | cons s l ih=>intro d;simp[fD,aN,ih]
 have hvl:vs.length=aN ct.ps:=by rw[<-hargs.length,hlen]
 have hvn:(vs++suf).length<=E.n:=by rw[kH,hvl,<-hys.length,<-bF sv];exact qo hle
 replace hargs:aO (dD h []) (eG (fD ct.ps d) sv) (vs++suf):=by
  rw[fU];exact hargs.append hys
 generalize eG (fD ct.ps d) sv=av at hargs kk;clear hvl hys;generalize vs++suf=vs at hargs hvn ⊢;refine callsIn_wide.1 (callsIn_of_wp_marks (F:=Fence.wide) (n:=0) hf hb trivial ?_);have aj:Sat E.n (Base.of B) h { env:=CU 0 av,T:=[],gl:=[],gs:=[] } h [] B { tmps:=vs.toArray++Array.replicate (fn.ntmps - vs.toArray.size) undef,defers:=[] }:=by
  have look:∀{xs:List SV}{ys:List Value}{n t:Nat}{G:Gd}{e:bg},aO (dD h []) xs ys->iG (CU n xs) t=some (G,e)->∃y,G=[]/\n<=t/\ys[t - n]?=some y/\jS h [] e y:=by
   intro xs
   induction xs with
   | nil=>intro ys n t G e _ hh;simp[CU,iG]at hh
   | cons x xs ih=>
     intro ys n t G e a hh;cases ys with
     | nil=>exact a.elim
     | cons y ys=>
       simp only[CU]at hh;rw[aX]at hh;split at hh
       .rename_i hk;subst hk;cases hh;exact⟨y,rfl,o9 _,by simp,a.1⟩
       .obtain⟨u,h1,h2,h3,h4⟩:=ih a.2 hh;refine⟨u,h1,by omega,?_,h4⟩
        rw[show t - n=(t - (n+1))+1 by omega]
        simpa using h3
  refine⟨⟨Bw.refl (Base.of B),o9 _,rfl,λi r v e _=>by simp[eff]at e,λi r v b e _ _ _=>by simp[eff]at e,λi j r r' u v b e _ _ _ _ _ _ _=>by simp[eff]at e,FH.le.refl h,hw,λb o v hh=>.inl hh,λk o hh=>hh.elim⟩,?_,?_,OZ.nil rfl,?_,?_,?_⟩
  .intro t G e ht;obtain⟨y,rfl,h2,h3,h4⟩:=look hargs ht;simp only[Nat.sub_zero]at h3;refine⟨y,?_,λ_=>h4,λhh=>by cases hh⟩
   rw[Array.getElem?_append_left (by have:=(A8.1 h3).1;simpa using this)]
   simpa using h3
  .intro d i hi;cases hi
  .simp only[A88,GL,Array.size_replicate];omega
  .intro t G e ht;obtain⟨y,rfl,_⟩:=look hargs ht;rfl
  .intro p hp;cases hp
 refine jc body ok hg (.inl rfl) (λ_=>rfl) aj kk λe s' h' β' w' a' B' lb k' le aT sm=>?_
 have fin:YW E.cx s' (tl fn.results) (λvs=>coK E.rc s'.T vs λT vs=>aee T vs λT e=>(ct.res d).1=T/\(ct.res d).2=e) ->
  LeavesInM Fence.wide 0 P fn a'.tmps (λen w'=>∃h' β y,en=.returned y/\OK (Base.of B) h (ct.res d).1 h' β w'/\jS h' β (ct.res d).2 y) a'.defers .returning w':=by
  intro kr;obtain⟨X,x1,x2,x3⟩:=aT.defers;rw[x1];have e0:B'.toWorld=B:=lb.1.1;have ea:B'.al=(Base.of B).al:=lb.1.2.1;have nd:∀D∈X,B.heap.size<=D/\w'.heap[D]?=some (.deferred (some [])):=λD hD=>⟨by have:=(x3 D hD).1;rw[ea]at this;exact this,aT.ok.kn D _ (x3 D hD).2⟩
  have jr:Sat E.n (Base.of B) h s' h' β' w' { tmps:=a'.tmps,defers:=[] }:=
   ⟨aT.ok.Qe (B':=Base.of B) (by rw[e0]) (by rw[ea]) (λk o hh=>hh.elim),aT.env,aT.gs,OZ.nil rfl,aT.sz,aT.gb,aT.gT⟩
  refine Cb X x2 nd jr λw' aT=>?_
  replace kr:=kr
  obtain⟨vs,ys,k1,r1,c1⟩:=SN ok.ti aT kr;obtain⟨T1,vs1,h1,β1,k1,le1,eb1,ok1,c1⟩:=YZ aT.ok k1 c1;unfold aee at k1;split at k1
  .rename_i vs' acc hsel;obtain⟨e1,e2⟩:=k1;obtain⟨ka,_,c2⟩:=Ns ok1 hsel ⟨λp hp=>by simp at hp,λi j p q hp=>by simp at hp⟩ c1
   refine⟨_,BZ r1,h1,_,_,rfl,by rw[e1];exact ok1.pick ka,?_⟩
   rw[e2]
   match vs',ys,c2 with
   | [],[],c2=>exact⟨[],rfl,c2⟩
   | [v],[y],c2=>exact c2.1
   | _ :: _ :: _,y :: z :: ys,c2=>exact⟨_,rfl,c2⟩
  .cases k1
 cases e with
 | normal=>exact fin k'
 | ret=>exact fin k'
 | exit i=>exact k'.elim
 | goto l=>exact k'.elim
 | panic ch=>exact k'.elim
 | outgrown=>exact k'.elim
theorem Y0(ok:gU P E){fn:Func}{suf:List Value} (aeh:∀v∈suf,Ec v=true) (hf:P.funcs[f]?=some fn) (hb:fn.body=some body) (hn:fn.ntmps=E.n) (hle:Nat.ble (aN ct.ps+aN suf) E.n=true)
 (k:∀d,ct.pre d->∃ann,uT { E with ann:=ann } body (tl fn.results) (eG (fD ct.ps d) (J6 suf)) λT e=>(ct.res d).1=T/\(ct.res d).2=e):CTX P E.cx.gd f suf ct:=by
 intro d vs h B hw hg hargs aG;have hl:aN (J6 suf)=aN suf:=by
  clear hle k aeh
  induction suf with
  | nil=>rfl
  | cons v l ih=>simp[J6,aN,ih]
 exact Qj ok hf hb hn (by rw[hl];exact hle) k d vs suf h B hw hg hargs (SX aeh) aG
theorem Y1(ok:gU P E){fn:Func} (hf:P.funcs[f]?=some fn) (hb:fn.body=some body) (hn:fn.ntmps=E.n) (hle:Nat.ble (aN ct.ps) E.n=true)
 (k:∀d,ct.pre d->∃ann,uT { E with ann:=ann } body (tl fn.results) (fD ct.ps d) λT e=>(ct.res d).1=T/\(ct.res d).2=e):Md P E.cx.gd f ct:=
 (Y0 (suf:=[]) ok (λv hv=>by cases hv) hf hb hn (by simpa[aN]using hle) (λd hd=>by
  obtain⟨ann,kk⟩:=k d hd;exact⟨ann,by rw[show eG (fD ct.ps d) (J6 [])=fD ct.ps d by rw[fU];simp[J6]];exact kk⟩)).ok
abbrev Y2:List (Nat×CT)->Nat->Option CT
 | [],_=>none
 | (k,e) :: l,n=>cnd (Nat.beq k n) (some e) (Y2 l n)
def Met(P:Program) (gd:Nat->Option (Sigma Sh.den)) (f:FuncId) (c:CT):Prop:=Md P gd f c/\GV P f
def lN(P:Program) (gd:Nat->Option (Sigma Sh.den)):List (Nat×CT)->Prop
 | []=>True
 | (k,c) :: l=>Met P gd k c/\lN P gd l
theorem lN.get{P:Program}{gd:Nat->Option (Sigma Sh.den)}:∀{l:List (Nat×CT)}{f:Nat}{c:CT},lN P gd l->Y2 l f=some c->Met P gd f c
 | [],_,_,_,e=>by simp[Y2]at e
 | (k,x) :: l,t,i,⟨h1,h2⟩,e=>by
   simp only[Y2,ku]at e;split at e
   .rename_i hk;have:k=t:=by simpa using hk
    subst this;cases e;exact h1
   .exact lN.get h2 e
abbrev lkI:List (Nat×IP)->Nat->Option IP
 | [],_=>none
 | (k,e) :: l,n=>cnd (Nat.beq k n) (some e) (lkI l n)
def SY(P:Program) (gd:Nat->Option (Sigma Sh.den)) (f:FuncId) (c:IP):Prop:=Vr P gd f c/\GV P f
def Fp(P:Program) (gd:Nat->Option (Sigma Sh.den)):List (Nat×IP)->Prop
 | []=>True
 | (k,c) :: l=>SY P gd k c/\Fp P gd l
theorem Fp.get{P:Program}{gd:Nat->Option (Sigma Sh.den)}:∀{l:List (Nat×IP)}{f:Nat}{c:IP},Fp P gd l->lkI l f=some c->SY P gd f c
 | [],_,_,_,e=>by simp[lkI]at e
 | (k,x) :: l,t,i,⟨h1,h2⟩,e=>by
   simp only[lkI,ku]at e;split at e
   .rename_i hk;have:k=t:=by simpa using hk
    subst this;cases e;exact h1
   .exact Fp.get h2 e
theorem Qk{il:List (Nat×IP)} (mx:P.follows .mixedOrders=true) (ti:bV P cx.ti) (cm:lN P cx.gd cl) (im:Fp P cx.gd il){fn:Func} (hf:P.funcs[f]?=some fn) (hb:fn.body=some (jM fn)) (hn:fn.ntmps=n) (hle:Nat.ble (aN ct.ps) n=true)
 (hs:fn.body.isSome=true) (hname:(fn.name == "runtime.NumGoroutine")=false)
 (k:∀d,ct.pre d->∃ann,uT { cx:=cx,n:=n,ct:=Y2 cl,ann:=ann,ip:=lkI il,rc:=rc } (jM fn) (tl fn.results) (fD ct.ps d) λT e=>(ct.res d).1=T/\(ct.res d).2=e):Met P cx.gd f ct:=
 ⟨Y1 (E:={ cx:=cx,n:=n,ct:=Y2 cl,ann:=λ_=>none,ip:=lkI il,rc:=rc }) ⟨λP' e=>(by cases e),λ_ _ _ e=>(by cases e),λ_ _ e=>(by cases e),mx,ti,λf c h=>⟨(cm.get h).1,(cm.get h).2⟩,λf c h=>⟨(im.get h).1,(im.get h).2⟩,λ_ _ e=>(by cases e),λ_ _ e=>(by cases e)⟩ hf hb hn hle k,⟨fn,hf,hs,hname⟩⟩
theorem ajq(mx:P.follows .mixedOrders=true) (ti:bV P cx.ti) (cm:lN P cx.gd cl){fn:Func} (hf:P.funcs[f]?=some fn) (hb:fn.body=some (jM fn)) (hn:fn.ntmps=n) (hle:Nat.ble (aN ct.ps) n=true)
 (hs:fn.body.isSome=true) (hname:(fn.name == "runtime.NumGoroutine")=false)
 (k:∀d,ct.pre d->∃ann,uT { cx:=cx,n:=n,ct:=Y2 cl,ann:=ann } (jM fn) (tl fn.results) (fD ct.ps d) λT e=>(ct.res d).1=T/\(ct.res d).2=e):Met P cx.gd f ct:=
 ⟨Y1 (E:={ cx:=cx,n:=n,ct:=Y2 cl,ann:=λ_=>none }) ⟨λP' e=>(by cases e),λ_ _ _ e=>(by cases e),λ_ _ e=>(by cases e),mx,ti,λf c h=>⟨(cm.get h).1,(cm.get h).2⟩,λf c h=>(by cases h),λ_ _ e=>(by cases e),λ_ _ e=>(by cases e)⟩ hf hb hn hle k,⟨fn,hf,hs,hname⟩⟩
def Y3(P:Program) (gd:Nat->Option (Sigma Sh.den)) (g:Nat) (m:MK):Prop:=
 ∀d h lb,m.pre d->aI gd h->capD h m.ss d lb->(m.f d).rel h (.func (.func g) #[] lb.toArray)
abbrev lkM:List (Nat×MK)->Nat->Option MK
 | [],_=>none
 | (k,e) :: l,n=>cnd (Nat.beq k n) (some e) (lkM l n)
def zi(P:Program) (gd:Nat->Option (Sigma Sh.den)):List (Nat×MK)->Prop
 | []=>True
 | (k,c) :: l=>Y3 P gd k c/\zi P gd l
theorem zi.get{P:Program}{gd:Nat->Option (Sigma Sh.den)}:∀{l:List (Nat×MK)}{f:Nat}{c:MK},zi P gd l->lkM l f=some c->Y3 P gd f c
 | [],_,_,_,e=>by simp[lkM]at e
 | (k,x) :: l,t,i,⟨h1,h2⟩,e=>by
   simp only[lkM,ku]at e;split at e
   .rename_i hk;have:k=t:=by simpa using hk
    subst this;cases e;exact h1
   .exact zi.get h2 e
def J7(P:Program) (gd:Nat->Option (Sigma Sh.den)) (f:FuncId) (suf:List Value) (c:CT):Prop:=CTX P gd f suf c/\GV P f
abbrev lkH:List (Nat×Nat×CT)->Nat->Nat->Option CT
 | [],_,_=>none
 | (k,g,e) :: l,n,m=>cnd (dG (Nat.beq k n) (Nat.beq g m)) (some e) (lkH l n m)
def Ir(P:Program) (gd:Nat->Option (Sigma Sh.den)):List (Nat×Nat×CT)->Prop
 | []=>True
 | (k,g,c) :: l=>J7 P gd k [.func (.func g) #[] #[]] c/\Ir P gd l
theorem Ir.get{P:Program}{gd:Nat->Option (Sigma Sh.den)}:∀{l:List (Nat×Nat×CT)}{f g:Nat}{c:CT},Ir P gd l->lkH l f g=some c->J7 P gd f [.func (.func g) #[] #[]] c
 | [],_,_,_,_,e=>by simp[lkH]at e
 | (k,g',x) :: l,t,g,i,⟨h1,h2⟩,e=>by
   simp only[lkH,ku,aB]at e;split at e
   .rename_i hk;rw[bY]at hk;have e1:k=t:=iC hk.1;have e2:g'=g:=iC hk.2;subst e1;subst e2;cases e;exact h1
   .exact Ir.get h2 e
abbrev Y4(P:Program) (cx:Cx) (n:Nat) (cl:List (Nat×CT)) (il:List (Nat×IP)) (hl:List (Nat×Nat×CT)) (ml:List (Nat×MK)) (rc:List RC) (lits:List Nat) (ann:Nat->Option (St->jK)):Env:=
 { cx:=cx,n:=n,ct:=Y2 cl,ann:=ann,ip:=lkI il,rc:=rc,lits:=lits,P:=some P,hc:=lkH hl,Yx:=lkM ml }
theorem S9{il:List (Nat×IP)}{hl:List (Nat×Nat×CT)}{lits:List Nat}{ann:Nat->Option (St->jK)}
 (mx:P.follows .mixedOrders=true) (ti:bV P cx.ti) (cm:lN P cx.gd cl) (im:Fp P cx.gd il) (hm:Ir P cx.gd hl) (mm:zi P cx.gd ml):gU P (Y4 P cx n cl il hl ml rc lits ann) where
 prog:=λP' e=>by cases e;rfl
 hc:=λf g c e=>hm.get e
 Yx:=λg fx e=>mm.get e
 mixed:=mx
 ti:=ti
 ct:=λf c h=>cm.get h
 ip:=λf c h=>im.get h
 sq:=λf c h=>by cases h
 sf:=λf c h=>by cases h
theorem nZ{il:List (Nat×IP)}{hl:List (Nat×Nat×CT)}{lits:List Nat}{suf:List Value}
 (mx:P.follows .mixedOrders=true) (ti:bV P cx.ti) (cm:lN P cx.gd cl) (im:Fp P cx.gd il) (hm:Ir P cx.gd hl) (mm:zi P cx.gd ml){fn:Func} (hf:P.funcs[f]?=some fn) (hb:fn.body=some (jM fn)) (hn:fn.ntmps=n)
 (hle:Nat.ble (aN ct.ps+aN suf) n=true) (hs:fn.body.isSome=true) (hname:(fn.name == "runtime.NumGoroutine")=false) (aeh:∀v∈suf,Ec v=true)
 (k:∀d,ct.pre d->∃ann,uT (Y4 P cx n cl il hl ml rc lits ann) (jM fn) (tl fn.results) (eG (fD ct.ps d) (J6 suf)) λT e=>(ct.res d).1=T/\(ct.res d).2=e):J7 P cx.gd f suf ct:=
 ⟨Y0 (E:=Y4 P cx n cl il hl ml rc lits λ_=>none) (S9 mx ti cm im hm mm) aeh hf hb hn hle k,⟨fn,hf,hs,hname⟩⟩
def anK(P:Program) (gd:Nat->Option (Sigma Sh.den)) (f:FuncId) (q:SQ):Prop:=(∀L,CTS P gd f [.c (.abs (.seq P q.ss L))] (q.ct L))/\GV P f
abbrev lkQ:List (Nat×SQ)->Nat->Option SQ
 | [],_=>none
 | (k,e) :: l,n=>cnd (Nat.beq k n) (some e) (lkQ l n)
def aei(P:Program) (gd:Nat->Option (Sigma Sh.den)):List (Nat×SQ)->Prop
 | []=>True
 | (k,c) :: l=>anK P gd k c/\aei P gd l
theorem aei.get{P:Program}{gd:Nat->Option (Sigma Sh.den)}:∀{l:List (Nat×SQ)}{f:Nat}{c:SQ},aei P gd l->lkQ l f=some c->anK P gd f c
 | [],_,_,_,e=>by simp[lkQ]at e
 | (k,x) :: l,t,i,⟨h1,h2⟩,e=>by
   simp only[lkQ,ku]at e;split at e
   .rename_i hk;have:k=t:=by simpa using hk
    subst this;cases e;exact h1
   .exact aei.get h2 e
def aej(P:Program) (gd:Nat->Option (Sigma Sh.den)) (f:FuncId) (q:SF):Prop:=(∀pre g,CTS P gd f [.c (.abs (.clo P q.ss q.r pre g))] (q.ct pre g))/\GV P f
abbrev lkF:List (Nat×SF)->Nat->Option SF
 | [],_=>none
 | (k,e) :: l,n=>cnd (Nat.beq k n) (some e) (lkF l n)
def Ql(P:Program) (gd:Nat->Option (Sigma Sh.den)):List (Nat×SF)->Prop
 | []=>True
 | (k,c) :: l=>aej P gd k c/\Ql P gd l
theorem Ql.get{P:Program}{gd:Nat->Option (Sigma Sh.den)}:∀{l:List (Nat×SF)}{f:Nat}{c:SF},Ql P gd l->lkF l f=some c->aej P gd f c
 | [],_,_,_,e=>by simp[lkF]at e
 | (k,x) :: l,t,i,⟨h1,h2⟩,e=>by
   simp only[lkF,ku]at e;split at e
   .rename_i hk;have:k=t:=by simpa using hk
    subst this;cases e;exact h1
   .exact Ql.get h2 e
abbrev Qm(P:Program) (cx:Cx) (n:Nat) (cl:List (Nat×CT)) (ml:List (Nat×MK)) (fl:List (Nat×SF)) (rc:List RC) (ann:Nat->Option (St->jK)):Env:=
 { cx:=cx,n:=n,ct:=Y2 cl,ann:=ann,rc:=rc,P:=some P,Yx:=lkM ml,sf:=lkF fl }
theorem J8{fl:List (Nat×SF)}{ann:Nat->Option (St->jK)}
 (mx:P.follows .mixedOrders=true) (ti:bV P cx.ti) (cm:lN P cx.gd cl) (mm:zi P cx.gd ml) (fm:Ql P cx.gd fl):gU P (Qm P cx n cl ml fl rc ann) where
 prog:=λP' e=>by cases e;rfl
 hc:=λf g c e=>by cases e
 Yx:=λg fx e=>mm.get e
 mixed:=mx
 ti:=ti
 ct:=λf c h=>cm.get h
 ip:=λf c h=>by cases h
 sq:=λf c h=>by cases h
 sf:=λf c h=>fm.get h
theorem ajr{fl:List (Nat×SF)}{q:SF}
 (mx:P.follows .mixedOrders=true) (ti:bV P cx.ti) (cm:lN P cx.gd cl) (mm:zi P cx.gd ml) (fm:Ql P cx.gd fl){fn:Func} (hf:P.funcs[f]?=some fn) (hb:fn.body=some (jM fn)) (hn:fn.ntmps=n)
 (hle:∀pre g,Nat.ble (aN (q.ct pre g).ps+1) n=true) (hs:fn.body.isSome=true) (hname:(fn.name == "runtime.NumGoroutine")=false)
 (k:∀pre g d,(q.ct pre g).pre d->∃ann,uT (Qm P cx n cl ml fl rc ann) (jM fn) (tl fn.results) (eG (fD (q.ct pre g).ps d) [.c (.abs (.clo P q.ss q.r pre g))]) λT e=>((q.ct pre g).res d).1=T/\((q.ct pre g).res d).2=e):aej P cx.gd f q:=
 ⟨λpre g=>Qj (E:=Qm P cx n cl ml fl rc λ_=>none) (J8 mx ti cm mm fm) hf hb hn (hle pre g) (k pre g),⟨fn,hf,hs,hname⟩⟩
theorem aek{fl:List (Nat×SF)}
 (mx:P.follows .mixedOrders=true) (ti:bV P cx.ti) (cm:lN P cx.gd cl) (mm:zi P cx.gd ml) (fm:Ql P cx.gd fl){fn:Func} (hf:P.funcs[f]?=some fn) (hb:fn.body=some (jM fn)) (hn:fn.ntmps=n)
 (hle:Nat.ble (aN ct.ps) n=true) (hs:fn.body.isSome=true) (hname:(fn.name == "runtime.NumGoroutine")=false)
 (k:∀d,ct.pre d->∃ann,uT (Qm P cx n cl ml fl rc ann) (jM fn) (tl fn.results) (fD ct.ps d) λT e=>(ct.res d).1=T/\(ct.res d).2=e):Met P cx.gd f ct:=
 ⟨Y1 (E:=Qm P cx n cl ml fl rc λ_=>none) (J8 mx ti cm mm fm) hf hb hn hle k,⟨fn,hf,hs,hname⟩⟩
theorem J7.met{gd:Nat->Option (Sigma Sh.den)}{c:CT} (h:J7 P gd f [] c):Met P gd f c:=⟨h.1.ok,h.2⟩
theorem dY(ti:bV P cx.ti) (cm:lN P cx.gd cl){fn:Func} (hf:P.funcs[f]?=some fn)
 (k:∀d,ct.pre d->∃ann,uT (Y4 P cx n cl [] [] [] rc [] ann) (jM fn) (tl fn.results) (eG (fD ct.ps d) (J6 [])) λT e=>(ct.res d).1=T/\(ct.res d).2=e)
 (mx:P.follows .mixedOrders=true:=by kernel_rfl) (hb:fn.body=some (jM fn):=by kernel_rfl) (hn:fn.ntmps=n:=by rfl) (hle:Nat.ble (aN ct.ps+aN ([]:List Value)) n=true:=by kernel_rfl)
 (hs:fn.body.isSome=true:=by kernel_rfl) (hname:(fn.name == "runtime.NumGoroutine")=false:=by kernel_rfl):Met P cx.gd f ct:=
 (nZ (il:=[]) (hl:=[]) (ml:=[]) (lits:=[]) (suf:=[]) mx ti cm trivial trivial trivial hf hb hn hle hs hname (by simp) k).met
theorem jW(ti:bV P cx.ti) (cm:lN P cx.gd cl){fn:Func} (hf:P.funcs[f]?=some fn)
 (k:∀d,ct.pre d->∃ann,uT { cx:=cx,n:=n,ct:=Y2 cl,ann:=ann } (jM fn) (tl fn.results) (fD ct.ps d) λT e=>(ct.res d).1=T/\(ct.res d).2=e)
 (mx:P.follows .mixedOrders=true:=by kernel_rfl) (hb:fn.body=some (jM fn):=by kernel_rfl) (hn:fn.ntmps=n:=by rfl) (hle:Nat.ble (aN ct.ps) n=true:=by kernel_rfl)
 (hs:fn.body.isSome=true:=by kernel_rfl) (hname:(fn.name == "runtime.NumGoroutine")=false:=by kernel_rfl):Met P cx.gd f ct:=
 ajq mx ti cm hf hb hn hle hs hname k
end Go.l9
