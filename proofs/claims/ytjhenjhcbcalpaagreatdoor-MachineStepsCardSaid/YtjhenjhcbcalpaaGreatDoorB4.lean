/- Part 4 of the proof. Conditions: the rows'. -/
import Derived.Test.YtjhenjhcbcalpaaGreatDoorB3
import Derived.Deep.LoopGhost
set_option linter.unusedSimpArgs false
set_option linter.unusedVariables false
set_option maxRecDepth 1000000
set_option maxHeartbeats 8000000
namespace Go.jw
open Go Go.RowKit
variable {P:Program}{N i n:Nat}{B:Base}{h0 h:FH}{w A:World}{a b:Act}{o:Oper}{K:St->Prop}{s:St}{β β':List RV}{ops:Array Oper}{f:FuncId}{Q:Exit->Act->World->Prop}{T:List (Gd×aj)}{body:Code}{y:Value}{acc:List (Nat×aj)}{cx:Cx}{ct:CT}{cl:List (Nat×CT)}{ml:List (Nat×MK)}
structure LA where
 α:Type
 slots:α->List (Nat×SV)
 res:α->List (Nat×aj)
 inv:α->Prop
 meas:α->Nat
 ren:List (Nat×Nat):=[]
 drop:List Nat:=[]
 nil:List (Nat×TypeId×Sh):=[]
 Hq:List Nat:=[]
 pad:Nat:=0
 uT:List Nat:=[]
 deep:List (Nat×TypeId×Sh×Nat):=[]
 pX:List (Nat×Nat×TypeId×Sh):=[]
 can:List (Nat×Loc):=[]
structure RA where
 α:Type
 res:α->List (Nat×aj)
 inv:Nat->α->Prop
 drop:List Nat:=[]
 nil:List (Nat×TypeId×Sh):=[]
 Hq:List Nat:=[]
 uT:List Nat:=[]
 deep:List (Nat×TypeId×Sh×Nat):=[]
 pX:List (Nat×Nat×TypeId×Sh):=[]
inductive iE where
 | inv (a:LA)
 | gen (a:LA) (gh:a.α->Nat)
 | FB (n:Nat)
 | rng (a:RA)
 | cut (a:LA)
inductive RC where
 | keep
 | data (s:Sh)
 | row (t:TypeId) (s:Sh)
 | hd (t:TypeId) (s r:Sh)
variable {rc:List RC}
structure SQ where
 ss:List Sh
 ct:List (dh ss)->CT
structure SF where
 ss:List Sh
 r:Sh
 ct:(dh ss->Prop)->(dh ss->r.den)->CT
structure Env where
 cx:Cx
 n:Nat
 ct:Nat->Option CT
 ann:Nat->Option (St->iE)
 ip:Nat->Option IP:=λ_=>none
 rc:List RC:=[]
 lits:List Nat:=[]
 P:Option Program:=none
 rd:Bool:=false
 hc:Nat->Nat->Option CT:=λ_ _=>none
 ZB:Nat->Option MK:=λ_=>none
 sq:Nat->Option SQ:=λ_=>none
 sf:Nat->Option SF:=λ_=>none
variable {E:Env}
abbrev NT:List SV->List Nat
 | []=>[]
 | v :: r=>match v with
   | .c (.row i)=>i :: NT r
   | .agg xs=>Ui xs (NT r)
   | _=>NT r
abbrev ZC(E:Env) (s:St) (G:Gd) (f:Nat) (args:List Operand):List Nat:=match G with
 | _ :: _=>[]
 | []=>match E.ct f with
   | none=>[]
   | some cc=>match vN E.cx s [] args with
     | none=>[]
     | some vs=>match allL noRow vs with
       | true=>[]
       | false=>match H8 s [] vs with
         | none=>[]
         | some bs=>match zq cc.ps bs with
           | none=>[]
           | some dd=>match dL (JZ (cc.res dd).2) (allL wJ (cc.res dd).1) with
             | true=>[]
             | false=>NT vs
abbrev akY(E:Env) (s:St) (G:Gd) (ps:List (Nat×Operand)):List Nat:=match G with
 | _ :: _=>[]
 | []=>rowsOf E.cx s ps
abbrev ZE(E:Env) (s:St) (p x:Operand):List Nat:=match bW E.cx s [] x with
 | some (.one v)=>match NT [v]with
   | []=>[]
   | i :: r=>match bW E.cx s [] p with
     | some (.one (.c (.own q _)))=>match fE s.T q with
       | some ([],.obj _ _ _)=>i :: r
       | _=>[]
     | some (.one (.c (.kM _ _ _ _)))=>i :: r
     | _=>[]
 | _=>[]
abbrev FC:List Operand->Option (List Operand×Nat)
 | []=>none
 | x :: l=>match l with
   | []=>match x with
     | .func g=>some ([],g)
     | _=>none
   | _ :: _=>match FC l with
     | some (m,g)=>some (x :: m,g)
     | none=>none
theorem FI{a:Act}:∀{l xs:List Operand}{g:Nat},FC l=some (xs,g)->l.map a.eval=xs.map a.eval++[.func (.func g) #[] #[]]
 | [],_,_,h=>by simp[FC]at h
 | [x],xs,g,h=>by
   simp only[FC]at h;split at h
   .cases h;rfl
   .cases h
 | x :: y :: l,xs,g,h=>by
   simp only[FC]at h;split at h
   .rename_i m g' hm;cases h;have:=FI (a:=a) (l:=y :: l) hm;simp only[V6]at this ⊢;rw[this];rfl
   .cases h
abbrev FK:List Operand->Option (List Operand×Operand)
 | []=>none
 | x :: l=>match l with
   | []=>some ([],x)
   | _ :: _=>match FK l with
     | some (m,g)=>some (x :: m,g)
     | none=>none
theorem FM{a:Act}:∀{l xs:List Operand}{g:Operand},FK l=some (xs,g)->l.map a.eval=xs.map a.eval++[a.eval g]
 | [],_,_,h=>by simp[FK]at h
 | [x],xs,g,h=>by
   simp only[FK]at h;cases h;rfl
 | x :: y :: l,xs,g,h=>by
   simp only[FK]at h;split at h
   .rename_i m g' hm;cases h;have:=FM (a:=a) (l:=y :: l) hm;simp only[V6]at this ⊢;rw[this];rfl
   .cases h
abbrev ZF(ss ss':List Sh) (L:List (dh ss)):Option (List (dh ss')):=if h:ss=ss' then some (h▸L) else none
theorem ZG{ss ss':List Sh}{L:List (dh ss)}{M:List (dh ss')} (h:ZF ss ss' L=some M):∃e:ss=ss',e▸L=M:=by
 unfold ZF at h;split at h
 .rename_i e;cases h;exact⟨e,rfl⟩
 .cases h
abbrev hcL(E:Env) (f:Nat) (args:List Operand):Option (CT×List Operand):=match FC args with
 | some (xs,g)=>match E.hc f g with
   | some ct=>some (ct,xs)
   | none=>none
 | none=>none
abbrev KA(E:Env) (ops:List Oper) (o:Oper) (s:St) (K:St->Prop):Prop:=match mM E.n o.dst with
 | false=>False
 | true=>vH E.lits s ops o.guard λG s=>match o.op with
   | .alloc t=>JV E.cx s G o.dst t K
   | .box t x=>aeH E.cx s G o.dst t x K
   | .buildSlice t n ps=>nR E.cx (oC s (akY E s G (tl ps))) G o.dst t n (tl ps) K
   | .makeSlice t l c=>Ub E.cx s G o.dst t l c K
   | .store t p x=>match G with
     | []=>match aeU E.cx s o.dst t p x K with
       | some q=>q
       | none=>JW E.cx (oC s (ZE E s p x)) o.dst t p x K
     | _ :: _=>False
   | .call c=>match c.callee with
     | .value (.func f)=>match hcL E f (tl c.args) with
       | some (ct,xs)=>jD E.cx (λ_=>some ct) s G o.dst f xs K
       | none=>jD E.cx E.ct (oC s (ZC E s G f (tl c.args))) G o.dst f (tl c.args) K
     | .builtin .append=>match G with
       | []=>match tl c.args with
         | [x,y]=>match tl c.argTypes with
           | [t,t']=>match Nat.beq t t' with
             | true=>match Ur s x λs=>wI E.cx s o.dst t x y K with
               | some q=>q
               | none=>wI E.cx s o.dst t x y K
             | false=>False
           | _=>False
         | _=>False
       | _ :: _=>False
     | .builtin .copy=>match G with
       | []=>match tl c.args with
         | [x,y]=>match tl c.argTypes with
           | [t,_]=>Us E.cx s o.dst t x y K
           | _=>False
         | _=>False
       | _ :: _=>False
     | .builtin .min=>match G with
       | []=>match tl c.args with
         | [x,y]=>aeX E.cx s o.dst x y K
         | _=>False
       | _ :: _=>False
     | .builtin .max=>match G with
       | []=>match tl c.args with
         | [x,y]=>QL E.cx s o.dst x y K
         | _=>False
       | _ :: _=>False
     | _=>oH E.cx s G o λe=>K (s.put o.dst G e)
   | _=>oH E.cx s G o λe=>K (s.put o.dst G e)
abbrev jy(E:Env) (ops:List Oper) (o:Oper) (s:St) (K:St->Prop):Prop:=match apP E.cx s o K with
 | some p=>match mM E.n o.dst with
   | false=>False
   | true=>p
 | none=>KA E ops o s K
structure gW (P:Program) (E:Env):Prop where
 prog:∀P',E.P=some P'->P'=P
 hc:∀f g c,E.hc f g=some c->CTX P E.cx.gd f [.func (.func g) #[] #[]] c/\Hy P f
 ZB:∀g m,E.ZB g=some m->∀d h lb,m.pre d->aP E.cx.gd h->capD h m.ss d lb->(m.f d).rel h (.func (.func g) #[] lb.toArray)
 mixed:P.follows .mixedOrders=true
 ti:cO P E.cx.ti
 ct:∀f c,E.ct f=some c->Nw P E.cx.gd f c/\∃fn,P.funcs[f]?=some fn/\fn.body.isSome=true/\(fn.name == "runtime.NumGoroutine")=false
 ip:∀f c,E.ip f=some c->WW P E.cx.gd f c/\∃fn,P.funcs[f]?=some fn/\fn.body.isSome=true/\(fn.name == "runtime.NumGoroutine")=false
 sq:∀f q,E.sq f=some q->(∀L,CTS P E.cx.gd f [.c (.abs (.seq P q.ss L))] (q.ct L))/\Hy P f
 sf:∀f q,E.sf f=some q->(∀pre g,CTS P E.cx.gd f [.c (.abs (.clo P q.ss q.r pre g))] (q.ct pre g))/\Hy P f
theorem gJ.cast{b b':Bool} (e:b=b') (h':gJ P N B h0 h w a o b' K):gJ P N B h0 h w a o b K:=by rw[e];exact h'
theorem ae4(s:St) (i:Nat):(ND s i).gl=s.gl:=by
 unfold ND;split<;>rfl
theorem rZ:∀{l:List Nat}{s:St},(oC s l).gl=s.gl
 | [],_=>rfl
 | i :: l,s=>by
   show(oC (ND s i) l).gl=s.gl;rw[rZ,ae4]
theorem gJ.le{P:Program}{N:Nat}{B:Base}{h0 h h':FH}{w:World}{a:Act}{o:Oper}{b:Bool}{K:St->Prop} (le:h.le h') (k:gJ P N B h0 h' w a o b K):gJ P N B h0 h w a o b K:=
 λNx Q next=>k Nx Q λs' h2 β' w' v k' le' q ak=>next s' h2 β' w' v k' (le.trans le') q ak
theorem Xn(ok:gW P E) (ak:Sat E.n B h0 s h β w a) (hg:aP E.cx.gd h)
 (k:KA E (tl ops) o s K):gJ P E.n B h0 h w a o (Region.wanted o (yielded ops a.tmps)) K:=by
 unfold KA at k;split at k
 .cases k
 rename_i hd;obtain⟨G,s',k,aY,hw,hG⟩:=wH ak k;refine gJ.cast hw ?_;split at k
 .rename_i t ho;exact QC ok.ti aY hG hd ho k
 .rename_i t x ho;exact YQ ok.ti aY hg hG hd ho k
 .rename_i t n ps ho;obtain⟨h',le,bM⟩:=aY.Hq (l:=akY E s' G (tl ps));have:=uH ok.ti bM (hg.mono le) (by rw[rZ];exact hG) hd ho k
  rw[rZ]at this;exact gJ.le le this
 .rename_i t l c ho;exact WU ok.ti aY hg hG hd ho k
 .rename_i t p x ho;split at k
  .split at k
   .rename_i q hq;exact Zg ok.ti aY hg hd ho hq k
   .obtain⟨h',le,bM⟩:=aY.Hq (l:=ZE E s' p x);have:=QD ok.ti bM (hg.mono le) hd ho k;rw[rZ]at this;exact gJ.le le this
  .cases k
 .rename_i c ho;split at k
  .rename_i f dA;split at k
   .rename_i ct xs hl;unfold hcL at hl;split at hl
    .rename_i xs' g hlf;split at hl
     .rename_i ct' hct;cases hl;obtain⟨hc,hf⟩:=ok.hc f g ct hct;have k':jD E.cx (λf'=>if f'=f then some ct else none) s' G o.dst f xs K:=by
       unfold jD at k ⊢;simpa using k
      exact tN (suf:=[.func (.func g) #[] #[]]) (λf' c' e=>by
       split at e
       .rename_i hff;cases e;rw[hff];exact hc
       .cases e) aY hg hG hd ho dA (λ_=>rfl) (by
       have:=FI (a:=a) hlf;rw[<-this];cases c.args;simp) hf k'
     .cases hl
    .cases hl
   .obtain⟨h',le,bM⟩:=aY.Hq (l:=ZC E s' G f (tl c.args));refine gJ.le le ?_;rw[<-rZ (l:=ZC E s' G f (tl c.args)) (s:=s')]at hG ⊢;generalize oC s' (ZC E s' G f (tl c.args))=s' at k bM hG ⊢;unfold jD at k;cases hct:E.ct f with
    | none=>rw[hct]at k;cases k
    | some cc=>exact WV (λf c e=>(ok.ct f c e).1) bM (hg.mono le) hG hd ho dA (ok.ct f cc hct).2 k
  .rename_i dA;split at k
   .split at k
    .rename_i x y ha;split at k
     .rename_i t t' ht;split at k
      .rename_i htt;have htt:t=t':=iI htt;subst htt;split at k
       .rename_i q hq;obtain⟨s2,β2,k2,bM,egl⟩:=aeV aY hq k;have:=CO ok.ti bM hg hd ho dA (iQ ha) (iQ ht) k2;rw[egl]at this;exact this
       .exact CO ok.ti aY hg hd ho dA (iQ ha) (iQ ht) k
      .cases k
     .cases k
    .cases k
   .cases k
  .rename_i dA;split at k
   .split at k
    .rename_i x y ha;split at k
     .rename_i t t' ht;exact Xe ok.ti aY hg hd ho dA (iQ ha) (iQ ht) k
     .cases k
    .cases k
   .cases k
  .rename_i dA;split at k
   .split at k
    .rename_i x y ha;exact Zj aY hg hd ho dA (iQ ha) k
    .cases k
   .cases k
  .rename_i dA;split at k
   .split at k
    .rename_i x y ha;exact Xd aY hg hd ho dA (iQ ha) k
    .cases k
   .cases k
  .exact Iz ok.ti aY hg hG hd k
 .exact Iz ok.ti aY hg hG hd k
theorem sD(ok:gW P E) (ak:Sat E.n B h0 s h β w a) (hg:aP E.cx.gd h)
 (k:jy E (tl ops) o s K):gJ P E.n B h0 h w a o (Region.wanted o (yielded ops a.tmps)) K:=by
 unfold jy at k;split at k
 .rename_i p hp;split at k
  .cases k
  .rename_i hd;exact Zn ok.ti ak hg hd hp k
 .exact Xn ok ak hg k
abbrev ZH(E:Env) (ops:List Oper):List Oper->St->(St->Prop)->Prop
 | [],s,K=>K s
 | o :: r,s,K=>jy E ops o s λs=>ZH E ops r s K
abbrev ji(k:Nat):List Nat->Bool
 | []=>false
 | j :: l=>match Nat.beq k j with
   | true=>true
   | false=>ji k l
theorem jK{k j:Nat}{l:List Nat}:ji k (j :: l)=(Nat.beq k j || ji k l):=by
 simp only[ji];cases Nat.beq k j<;>rfl
theorem lX{k:Nat}{m:List Nat}:∀{l:List Nat},ji k (fD l m)=(ji k l || ji k m)
 | []=>rfl
 | j :: l=>by rw[show fD (j :: l) m=j :: fD l m from rfl,jK,jK,lX,Bool.or_assoc]
abbrev kC:List Oper->List Nat
 | []=>[]
 | o :: l=>match o.dst with
   | some d=>d :: kC l
   | none=>kC l
def Same(ws:List Nat) (a a':Act):Prop:=∀t,ji t ws=false->a'.tmps[t]?=a.tmps[t]?
theorem Same.refl(ws:List Nat) (a:Act):Same ws a a:=λ_ _=>rfl
theorem Same.trans{ws:List Nat}{a b c:Act} (x:Same ws a b) (y:Same ws b c):Same ws a c:=λt h=>(y t h).trans (x t h)
theorem Same.left{l m:List Nat} (x:Same l a b):Same (fD l m) a b:=λt h=>x t (by rw[lX,lM]at h;exact h.1)
theorem Same.right{l m:List Nat} (x:Same m a b):Same (fD l m) a b:=λt h=>x t (by rw[lX,lM]at h;exact h.2)
theorem Same.put{o:Oper}{l:List Oper}{a:Act}{v:Value}{b:Act} (x:Same (kC l) (a.put o.dst v) b):Same (kC (o :: l)) a b:=by
 intro t h;cases hd:o.dst with
 | none=>
   have e:kC (o :: l)=kC l:=by simp only[kC,hd]
   rw[e]at h;rw[x t h,hd];rfl
 | some d=>
   have e:kC (o :: l)=d :: kC l:=by simp only[kC,hd]
   rw[e,jK,lM]at h;rw[x t h.2,hd];have hne:d≠t:=λhh=>Yi h.1 hh.symm
   simp[Act.put,ake hne]
abbrev akZ(E:Env) (s:St) (o:Oper):Option IP:=match o.guard with
 | some _=>none
 | none=>match o.op with
   | .call c=>match c.callee with
     | .value (.func f)=>match E.ip f with
       | none=>none
       | some ip=>match tl c.args with
         | []=>none
         | x :: _=>match bW E.cx s [] x with
           | some (.one (.c (.row _)))=>some ip
           | _=>none
     | _=>none
   | _=>none
abbrev ZI(E:Env) (s:St) (o:Oper):Option IP:=match o.guard with
 | some _=>none
 | none=>match o.op with
   | .call c=>match c.callee with
     | .value (.func f)=>match E.ip f with
       | none=>none
       | some ip=>match tl c.args with
         | []=>none
         | x :: _=>match bW E.cx s [] x with
           | some (.one (.c (.sub _ _)))=>some ip
           | _=>none
     | _=>none
   | _=>none
abbrev oD:Op->List Operand
 | .call c=>tl c.args
 | _=>[]
abbrev ak0:Value->Option Nat
 | .func (.func f) a b=>match tl a with
   | []=>match tl b with
     | []=>some f
     | _ :: _=>none
   | _ :: _=>none
 | _=>none
abbrev BA(sh:Sh):aj->Option SV
 | .obj _ s d=>match dL sh.isAgg s.isAgg with
   | true=>some (.dat s d)
   | false=>none
 | .blk _ xs=>match sh.isAgg with
   | true=>some (.agg xs)
   | false=>match xs with
     | [x]=>some (.c x)
     | _=>none
 | _=>none
abbrev Rh(s:St):(ss:List Sh)->List Operand->Option (St×dh ss)
 | [],[]=>some (s,())
 | sh :: ss,x :: l=>match x with
   | .tmp t=>match iJ s.env t with
     | some ([],.one (.c (.own i 0)))=>match fE s.T i with
       | some ([],r)=>match BA sh r with
         | some v=>match toDat sh v with
           | some d=>match Rh { s with T:=dK s.T i ([],.gone) } ss l with
             | some (s',ds)=>some (s',(d,ds))
             | none=>none
           | none=>none
         | none=>none
       | _=>none
     | _=>none
   | _=>none
 | _,_=>none
inductive HO where
 | hc (c:CT) (xs:List Operand)
 | cc (f:Nat) (xs:List Operand)
 | mk (g:Nat) (cap:List Operand)
 | sq (P:Program) (c:CT) (xs:List Operand)
 | sf (P:Program) (ss:List Sh) (r:Sh) (pre:dh ss->Prop) (g:dh ss->r.den) (q:SF) (xs:List Operand)
abbrev apz(E:Env) (s:St) (f:Nat) (args:List Operand):Option HO:=match E.sf f with
 | none=>none
 | some q=>match FK args with
   | none=>none
   | some (xs,x)=>match bW E.cx s [] x with
     | some (.one (.c (.abs (.clo P ss r pre g))))=>some (.sf P ss r pre g q xs)
     | _=>none
abbrev apA(E:Env) (s:St) (f:Nat) (args:List Operand):Option HO:=match E.sq f with
 | none=>apz E s f args
 | some q=>match FK args with
   | none=>none
   | some (xs,x)=>match bW E.cx s [] x with
     | some (.one (.c (.abs (.seq P ss L))))=>match ZF ss q.ss L with
       | some L=>some (.sq P (q.ct L) xs)
       | none=>none
     | _=>none
abbrev ak1(E:Env) (s:St) (o:Oper):Option HO:=match o.guard with
 | some _=>none
 | none=>match o.op with
   | .call c=>match c.callee with
     | .value (.func f)=>match FC (tl c.args) with
       | some (xs,g)=>match E.hc f g with
         | some ct=>some (.hc ct xs)
         | none=>none
       | none=>apA E s f (tl c.args)
     | .value (.tmp t)=>match iJ s.env t with
       | some ([],.one (.c (.v v)))=>match ak0 v with
         | some f=>some (.cc f (tl c.args))
         | none=>none
       | some ([],.one (.c (.abs (.clo P ss r pre g))))=>some (.sq P { ps:=ss,pre:=pre,res:=λd=>([],.one (iP r (g d))) } (tl c.args))
       | _=>none
     | _=>none
   | .makeFunc (.func g) fst cap=>match tl fst with
     | []=>some (.mk g (tl cap))
     | _ :: _=>none
   | _=>none
abbrev hoK(E:Env) (s:St) (d:Option Nat) (x:HO) (K:St->Prop):Prop:=match x with
 | .hc c xs=>jD E.cx (λ_=>some c) s [] d 0 xs K
 | .cc f xs=>jD E.cx E.ct s [] d f xs K
 | .sq P c xs=>E.P=some P/\jD E.cx (λ_=>some c) s [] d 0 xs K
 | .sf P ss r pre g q xs=>E.P=some P/\∃pre' g',Ho.clo P ss r pre g=Ho.clo P q.ss q.r pre' g'/\jD E.cx (λ_=>some (q.ct pre' g')) s [] d 0 xs K
 | .mk g cap=>match E.ZB g with
   | none=>False
   | some m=>match Rh s m.ss cap with
     | none=>False
     | some (s',ds)=>m.pre ds/\K (s'.put d [] (.one (.c (.abs (m.f ds)))))
abbrev NU(E:Env) (ops:List Oper) (o:Oper) (s:St) (K:St->Prop):Prop:=match rtP E.cx s o K with
 | some p=>match mM E.n o.dst with
   | false=>False
   | true=>p
 | none=>match akV E.cx s o K with
 | some p=>match mM E.n o.dst with
   | false=>False
   | true=>p
 | none=>match ak1 E s o with
 | some x=>match mM E.n o.dst with
   | false=>False
   | true=>hoK E s o.dst x K
 | none=>match ZI E s o with
 | some ip=>match mM E.n o.dst with
   | false=>False
   | true=>akN E.cx ip s o.dst (oD o.op) K
 | none=>match akZ E s o with
 | none=>match akT E.cx s o K with
   | none=>jy E ops o s K
   | some p=>match mM E.n o.dst with
     | false=>False
     | true=>p
 | some ip=>match mM E.n o.dst with
   | false=>False
   | true=>ipK E.cx ip s o.dst (oD o.op) K
abbrev ae5(E:Env) (ops:List Oper):List Oper->St->(St->Prop)->Prop
 | [],s,K=>K s
 | o :: r,s,K=>NU E ops o s λs=>ae5 E ops r s K
theorem Xo{ip:IP} (e:akZ E s o=some ip):o.guard=none/\∃c f,o.op=.call c/\c.callee=.value (.func f)/\E.ip f=some ip:=by
 unfold akZ at e;split at e
 .cases e
 .rename_i hgd;split at e
  .rename_i c ho;split at e
   .rename_i f dA;split at e
    .cases e
    .rename_i ip' Uh;split at e
     .cases e
     .split at e
      .cases e;exact⟨hgd,c,f,ho,dA,Uh⟩
      .cases e
   .cases e
  .cases e
theorem Ri{ip:IP} (e:ZI E s o=some ip):o.guard=none/\∃c f,o.op=.call c/\c.callee=.value (.func f)/\E.ip f=some ip:=by
 unfold ZI at e;split at e
 .cases e
 .rename_i hgd;split at e
  .rename_i c ho;split at e
   .rename_i f dA;split at e
    .cases e
    .rename_i ip' Uh;split at e
     .cases e
     .split at e
      .cases e;exact⟨hgd,c,f,ho,dA,Uh⟩
      .cases e
   .cases e
  .cases e
theorem ae6{v:Value}{f:Nat} (h:ak0 v=some f):v=.func (.func f) #[] #[]:=by
 unfold ak0 at h;split at h
 .rename_i f' x y;split at h
  .rename_i hx;split at h
   .rename_i hy;cases h;rw[iQ hx,iQ hy]
   .cases h
  .cases h
 .cases h
theorem ak2{s:Sh} (h:s.isAgg=false):s.size=1:=by cases s<;>simp_all[Sh.isAgg,Sh.size]
theorem Uz{N:Nat}{B:Base}{h0:FH}{w:World}{a:Act}{β:List RV}:∀{ss:List Sh}{l:List Operand}{s s':St}{h:FH}{ds:dh ss},Sat N B h0 s h β w a->Rh s ss l=some (s',ds) ->
 ∃h',h.le h'/\Sat N B h0 s' h' β w a/\capD h' ss ds (l.map a.eval)
 | [],[],s,s',h,ds,ak,e=>by simp[Rh]at e;subst e;exact⟨h,FH.le.refl h,ak,trivial⟩
 | [],_ :: _,s,s',h,ds,ak,e=>by simp[Rh]at e
 | _ :: _,[],s,s',h,ds,ak,e=>by simp[Rh]at e
 | sh :: ss,x :: l,s,s',h,ds,ak,e=>by
   unfold Rh at e;split at e
   .rename_i t;split at e
    .rename_i i hlk;split at e
     .rename_i r hT;split at e
      .rename_i v hv;split at e
       .rename_i d hd;split at e
        .rename_i s2 ds2 hc;cases e;obtain⟨z,z1,z2,_⟩:=ak.env t [] _ hlk;obtain⟨b,hb,ez⟩:∃b,β[i]?=some (.blk b)/\z=.pointer (some ⟨b,0,none⟩):=(z2 rfl:dJ h β (.c (.own i 0)) z).1;have gy:=bK hT (show gv s.gl []=true from rfl)
         have hold:=ak.ok.holds i r _ gy hb;have hlive:r.live=true:=by cases r<;>first | rfl | (simp[BA]at hv)
         obtain⟨le1,ok1⟩:=ak.ok.WB gy hlive hb (lT.2 rfl);have jE:Sat N B h0 { s with T:=dK s.T i ([],.gone) } (h.plus w b) β w a:=ak.mem (by rw[gq];exact ok1) le1 (Ext.refl _) (by
          intro q hq;rw[gI]at hq;rcases MF hq with hq | hq
          .exact ak.gT q hq
          .subst hq;rfl)
         obtain⟨h',iK,bM,cap⟩:=Uz (l:=l) jE hc;refine⟨h',le1.trans iK,bM,⟨?_,cap⟩⟩;have ev:a.eval (.tmp t)=z:=by simp[Act.eval,z1]
         rw[ev,ez];have at_:∀(ys:List Value) (tt:TypeId),w.heap[b]?=some (.cells ys.toArray tt (0,0))->(∀u∈ys,dO u)->At h' b 0 ys:=by
          intro ys tt hw h1 j u hj;refine iK _ _ _ ?_;unfold FH.plus;rw[if_pos rfl,Eu];exact oZ hw (by simpa using hj) (h1 u (gQ hj)).2
         have key:∀(ys:List Value) (tt:TypeId),w.heap[b]?=some (.cells ys.toArray tt (0,0))->(sh.isAgg=true->dJ h β v (.agg ys.toArray))->(sh.isAgg=false->∃y,ys=[y]/\dJ h β v y) ->
          ∃b' cs,(Value.pointer (some ⟨b,0,none⟩))=.pointer (some ⟨b',0,none⟩)/\Rd h' sh cs d/\At h' b' 0 cs:=by
          intro ys tt hw k1 k2;cases hag:sh.isAgg with
          | true=>
            obtain⟨cs,e1,rd⟩:=toDat_ok hd (k1 hag);unfold mkV at e1;rw[if_pos hag]at e1;injection e1 with e1
            have e1:ys=cs:=by simpa using e1
            subst e1;exact⟨b,ys,rfl,(rd.mono le1 _).mono iK _,at_ ys tt hw (Rd.one _ rd)⟩
          | false=>
            obtain⟨y,rfl,c⟩:=k2 hag;obtain⟨cs,e1,rd⟩:=toDat_ok hd c;unfold mkV at e1;rw[if_neg (by rw[hag];simp)]at e1
            have hs:=Rd.size sh rd;rw[ak2 hag]at hs;obtain⟨u,rfl⟩:=List.length_eq_one_iff.1 hs;have e1:y=u:=e1;subst e1;exact⟨b,[y],rfl,(rd.mono le1 _).mono iK _,at_ [y] tt hw (Rd.one _ rd)⟩
         cases r with
         | obj tt s0 d0=>
           simp only[BA]at hv;split at hv
           .rename_i hag;rw[aF,cZ]at hag;cases hv;obtain⟨ys,e1,rd⟩:=hold;exact key ys tt e1 (λ_=>⟨hag.2,ys,rfl,rd⟩) (λhh=>by rw[hag.1]at hh;cases hh)
           .cases hv
         | blk tt cs=>
           obtain⟨ys,e1,al⟩:=hold;simp only[BA]at hv;split at hv
           .rename_i hag;cases hv;exact key ys tt e1 (λ_=>⟨ys,rfl,al⟩) (λhh=>by rw[hag]at hh;cases hh)
           .rename_i hag;split at hv
            .rename_i x;cases hv;cases ys with
             | nil=>exact al.elim
             | cons y ys=>
               cases ys with
               | cons _ _=>exact al.2.elim
               | nil=>exact key [y] tt e1 (λhh=>by rw[hag]at hh;cases hh) (λ_=>⟨y,rfl,al.1⟩)
            .cases hv
         | row _ _ _=>simp[BA]at hv
         | deep _ _ _ _ _ _ _ _=>simp[BA]at hv
         | mp _ _ _=>simp[BA]at hv
         | P8 _ _ _ _=>simp[BA]at hv
         | it _ _ _ _=>simp[BA]at hv
         | MV _ _ _ _=>simp[BA]at hv
         | Ip _ _ _ _=>simp[BA]at hv
         | gone=>simp[BA]at hv
        .cases e
       .cases e
      .cases e
     .cases e
    .cases e
   .cases e
theorem ak3(ok:gW P E) (ak:Sat E.n B h0 s h β w a) (hg:aP E.cx.gd h){x:HO} (hx:ak1 E s o=some x) (hd:mM E.n o.dst=true)
 (k:hoK E s o.dst x K):gJ P E.n B h0 h w a o (Region.wanted o (yielded ops a.tmps)) K:=by
 unfold ak1 at hx;split at hx
 .cases hx
 rename_i hgd;rw[show Region.wanted o (yielded ops a.tmps)=gv s.gl [] by simp[Region.wanted,hgd,gv]]
 split at hx
 .rename_i c ho;split at hx
  .rename_i f dA;split at hx
   .rename_i xs g hl;split at hx
    .rename_i ct hct;cases hx;obtain⟨hc,hf⟩:=ok.hc f g ct hct;simp only[hoK]at k;have k':jD E.cx (λf'=>if f'=f then some ct else none) s [] o.dst f xs K:=by
      unfold jD at k ⊢;simpa using k
     exact tN (suf:=[.func (.func g) #[] #[]]) (λf' c' e=>by
      split at e
      .rename_i hff;cases e;rw[hff];exact hc
      .cases e) ak hg rfl hd ho dA (λ_=>rfl) (by
      have:=FI (a:=a) hl;rw[<-this];cases c.args;simp) hf k'
    .cases hx
   .unfold apA at hx;split at hx
    .unfold apz at hx;split at hx
     .cases hx
     rename_i q hq;split at hx
     .cases hx
     rename_i xs x hl;split at hx
     .rename_i P' ss r pre g hxe;cases hx;simp only[hoK]at k;obtain⟨eP,pre',g',eA,k⟩:=k;have:=ok.prog _ eP;subst this;obtain⟨hc,hf⟩:=ok.sf f q hq;have k':jD E.cx (λf'=>if f'=f then some (q.ct pre' g') else none) s [] o.dst f xs K:=by
       unfold jD at k ⊢;simpa using k
      rw[eA]at hxe;have IB:dJ h β (.c (.abs (.clo P' q.ss q.r pre' g'))) (a.eval x):=aS ak hg (show gv s.gl []=true from rfl) hxe
      exact yc (suf:=[a.eval x]) (λc' e d vs h' le hw hg' ha hp=>by
       have e':q.ct pre' g'=c':=by simpa using e
       subst e';exact hc pre' g' d vs [a.eval x] h' w hw hg' ha ⟨⟨(show Ho.rel h' (.clo P' q.ss q.r pre' g') (a.eval x) from Ho.yV le (show Ho.rel h (.clo P' q.ss q.r pre' g') (a.eval x) from IB.1)),IB.2⟩,trivial⟩ hp) ak hg rfl hd ho dA (λ_=>rfl) (by
       have:=FM (a:=a) hl;rw[<-this];cases c.args;simp) hf k'
     .cases hx
    rename_i q hq;split at hx
    .cases hx
    rename_i xs x hl;split at hx
    .rename_i P' ss L hxe;split at hx
     .rename_i L' hL;cases hx;obtain⟨e1,e2⟩:=ZG hL;simp only[hoK]at k;obtain⟨eP,k⟩:=k;have:=ok.prog _ eP;subst this;subst e1;simp only at e2;subst e2;obtain⟨hc,hf⟩:=ok.sq f q hq;have k':jD E.cx (λf'=>if f'=f then some (q.ct L) else none) s [] o.dst f xs K:=by
       unfold jD at k ⊢;simpa using k
      have IB:dJ h β (.c (.abs (.seq P' q.ss L))) (a.eval x):=aS ak hg (show gv s.gl []=true from rfl) hxe
      exact yc (suf:=[a.eval x]) (λc' e d vs h' le hw hg' ha hp=>by
       have e':q.ct L=c':=by simpa using e
       subst e';exact hc L d vs [a.eval x] h' w hw hg' ha ⟨⟨(show Ho.rel h' (.seq P' q.ss L) (a.eval x) from Ho.yV le (show Ho.rel h (.seq P' q.ss L) (a.eval x) from IB.1)),IB.2⟩,trivial⟩ hp) ak hg rfl hd ho dA (λ_=>rfl) (by
       have:=FM (a:=a) hl;rw[<-this];cases c.args;simp) hf k'
     .cases hx
    .cases hx
  .rename_i t dA;split at hx
   .rename_i v hlk;split at hx
    .rename_i f hfn;cases hx;simp only[hoK]at k;obtain⟨z,z1,z2,_⟩:=ak.env t [] _ hlk;have ez:z=.func (.func f) #[] #[]:=((z2 rfl:dJ h β (.c (.v v)) z).1.1).trans (ae6 hfn);have hct:∃cc,E.ct f=some cc:=by
      unfold jD at k;cases hh:E.ct f with
      | none=>rw[hh]at k;cases k
      | some cc=>exact⟨cc,rfl⟩
     obtain⟨cc,hct⟩:=hct;exact tN (suf:=[]) (λf' c' e=>(ok.ct f' c' e).1.x) ak hg rfl hd ho dA (λ_=>by simp[Act.eval,z1,ez]) (by cases c.args;simp) (ok.ct f cc hct).2 k
    .cases hx
   .rename_i P' ss r pre g hlk;cases hx;simp only[hoK]at k;obtain⟨eP,k⟩:=k;have:=ok.prog _ eP;subst this;obtain⟨z,z1,z2,_⟩:=ak.env t [] _ hlk;obtain⟨gn,lb,ez,hf,kk⟩:Yx P' h ss r pre g z:=(z2 rfl:dJ h β (.c (.abs (.clo P' ss r pre g))) z).1;have k':jD E.cx (λf'=>if f'=gn then some { ps:=ss,pre:=pre,res:=λd=>([],.one (iP r (g d))) } else none) s [] o.dst gn (tl c.args) K:=by
     unfold jD at k ⊢;simpa using k
    exact E5 (lb:=lb) (suf:=lb.toList) (λc' e d vs h' le hw hg' ha hp=>by
     have e':({ ps:=ss,pre:=pre,res:=λd=>([],.one (iP r (g d))) }:CT)=c':=by simpa using e
     subst e';rw[show(vs++lb.toList).toArray=vs.toArray++lb by simp]
     refine(kk d vs h' w le hw (EZ ha) hp).mono ?_;rintro en w' ⟨v,rfl,⟨cs,rfl,rd⟩,bel,dr⟩;refine⟨h',[],_,rfl,⟨⟨bel.os,bel.tape,bel.output,bel.size,λk hk ha=>bel.block k hk⟩,dr,rfl,λi r v e _=>by simp at e,λi r v b e _ _ _=>by simp at e,λi j r r' u v b e _ _ _ _ _ _ _=>by simp at e,FH.le.refl h',λb o v hh=>(kL (bel.block b (pz (hw b o v hh)))).trans (hw b o v hh),λb o v hh=>.inl hh,λk o hh=>hh.elim⟩,jX r (rd.mono (λ_ _ _ e=>by cases e) r)⟩) ak hg rfl hd ho dA (λ_=>by simp[Act.eval,z1,ez]) (by cases c.args;simp) hf k'
   .cases hx
  .cases hx
 .rename_i g fst cap ho;split at hx
  .rename_i ar4;cases hx;simp only[hoK]at k;split at k
   .cases k
   rename_i m hm;split at k
   .cases k
   rename_i s' ds hcap;obtain⟨h',le,aY,ku⟩:=Uz ak hcap;obtain⟨hmp,k⟩:=k;have rel:=ok.ZB g m hm ds h' _ hmp (hg.mono le) ku;intro Nx Q next
   rw[if_pos rfl];refine kX (v:=.func (.func g) #[] ((tl cap).map a.eval).toArray) ?_ (next _ _ _ _ _ k le (λ_=>oq.refl w) (aY.put (eH hd) rfl (λ_=>⟨rel,Ho.aex rel⟩) λhh=>by cases hh))
   simp only[execOp,ho,Instr.makeFunc,Sem.run_bind,Sem.run_pure,Result.andThen_ok];rw[iQ ar4];have:cap.map a.eval=((tl cap).map a.eval).toArray:=by cases cap;simp
   rw[this];simp
  .cases hx
 .cases hx
theorem FN(ok:gW P E) (ak:Sat E.n B h0 s h β w a) (hg:aP E.cx.gd h)
 (k:NU E (tl ops) o s K):CP P E.n B h0 h w a o (Region.wanted o (yielded ops a.tmps)) K:=by
 unfold NU at k;split at k
 .rename_i p hp;split at k
  .cases k
  .rename_i hd;exact(Zt ok.ti ak hg hd hp k).weak
 split at k
 .rename_i p hp;split at k
  .cases k
  .rename_i hd;obtain⟨hgd,st⟩:=ae3 ok.ti ak hg hd hp k;rw[show Region.wanted o (yielded ops a.tmps)=true by simp[Region.wanted,hgd]]
   exact st
 split at k
 .rename_i x hx;split at k
  .cases k
  .rename_i hd;exact(ak3 ok ak hg hx hd k).weak
 split at k
 .rename_i ip Uh;obtain⟨hgd,c,f,ho,dA,hf⟩:=Ri Uh;split at k
  .cases k
  .rename_i hd;rw[show Region.wanted o (yielded ops a.tmps)=true by simp[Region.wanted,hgd]]
   rw[show oD o.op=tl c.args by simp only[oD,ho]]at k
   exact Zi (ok.ip f ip hf).1 (ok.ip f ip hf).2 ak hg hd ho dA k
 split at k
 .split at k
  .exact(sD ok ak hg k).weak
  .rename_i p hp;split at k
   .cases k
   .rename_i hd;exact aeY ok.ti ak hg hd hp k
 .rename_i ip Uh;obtain⟨hgd,c,f,ho,dA,hf⟩:=Xo Uh;split at k
  .cases k
  .rename_i hd;rw[show Region.wanted o (yielded ops a.tmps)=true by simp[Region.wanted,hgd]]
   rw[show oD o.op=tl c.args by simp only[oD,ho]]at k
   exact aeP (ok.ip f ip hf).1 (ok.ip f ip hf).2 ak hg hd ho dA k
theorem KC{P:Program}{E:Env} (ok:gW P E){B:Base}{h0:FH} (hg:aP E.cx.gd h0){ops:Array Oper}{R:Act->World->Prop}{K:St->Prop}:∀(l:List Oper){s:St}{h:FH}{β:List RV}{w:World}{a:Act},Sat E.n B h0 s h β w a ->
 ae5 E (tl ops) l s K->(∀s' h' β' w' a',K s'->h.le h'->Sat E.n B h0 s' h' β' w' a'->Same (kC l) a a'->R a' w')->wpL P ops R l a w
 | [],s,h,β,w,a,ak,k,next=>next _ _ _ _ _ k (FH.le.refl h) ak (Same.refl _ _)
 | o :: r,s,h,β,w,a,ak,k,next=>by
   have:=FN ok ak (hg.mono ak.ok.hle) k (wpL P ops R r) J3 λs' h' β' w' v k' le aY=>KC ok hg r aY k' λs2 h2 β2 w2 a2 k2 iK bM sm=>next s2 h2 β2 w2 a2 k2 (le.trans iK) bM sm.put
   unfold wpL;split
   .rename_i hw;rw[if_pos hw]at this;exact this
   .rename_i hw;rw[if_neg hw]at this;exact this
def ZJ(ops:Array Oper) (listed:Array Bool) (i:Nat):List Nat:=
 (List.range ops.size).foldl (λacc j=>if j != i && !listed.getD j true && (match ops[j]? with | some o=>o.after.any (λe=>Region.binds .any e && (e.on == i || acc.contains e.on)) | none=>false) then j :: acc else acc) []
def Rj(ops:Array Oper) (listed:Array Bool) (i:Nat) (bl:List Nat):Bool:=
 (bl.all λj=>!listed.getD j true && (match ops[j]? with | some o=>o.after.any (λe=>Region.binds .any e && (e.on == i || bl.contains e.on)) | none=>false)) &&
 ((List.range ops.size).all λj=>j == i || listed.getD j true || yh ops j || bl.contains j)
theorem CU{listed:Array Bool}{bl:List Nat} (h:Rj ops listed i bl=true):
 Waits .any ops listed i bl/\∀j,j≠i->listed.getD j true=false->yh ops j=false->j∈bl:=by
 simp only[Rj,cZ,P7]at h;refine⟨λj hj=>?_,λj hji hun hs=>?_⟩
 .have h1:=h.1 j hj;simp only[Ep]at h1;refine⟨h1.1,?_⟩;cases ho:ops[j]? with
  | none=>rw[ho]at h1;exact absurd h1.2 (by simp)
  | some o=>
    rw[ho]at h1;obtain⟨e,he,hb⟩:=Array.any_eq_true'.1 h1.2;simp only[cZ,wX,CB,aem]at hb;exact⟨o,rfl,e,he,hb.1,hb.2⟩
 .rcases Yo j ops.size with iT | hge
  .have h2:=h.2 j (aev.2 iT);simp only[wX,CB,hji,hun,hs,aem,aeo,false_or]at h2;exact h2
  .have:ops[j]?=none:=aek hge;simp[yh,this]at hs
inductive DT where
 | done
 | fl (i:Nat) (t:DT)
 | op (i:Nat) (t:DT)
 | alt (i:Nat) (t m:DT)
inductive OT where
 | done
 | op (o:Oper) (t:OT)
 | alt (o:Oper) (t m:OT)
def DT.alts:DT->List Nat
 | .op i _=>[i]
 | .alt i _ m=>i :: m.alts
 | _=>[]
def DJ(ops:Array Oper) (listed:Array Bool) (i:Nat):Bool:=match ops[i]? with
 | some o=>kN o.op && Region.free .any ops listed i && (Region.ready .any ops listed).contains i && (!isLoad o.op || Rj ops listed i (ZJ ops listed i))
 | none=>false
def kZ(ops:Array Oper):DT->Bool->Nat->Array Bool->Bool
 | .done,top,n,listed=>top && n == 0 && (Region.ready .any ops listed).isEmpty
 | .fl i t,top,n,listed=>top && n != 0 && DJ ops listed i && kZ ops t true (n - 1) (listed.setIfInBounds i true)
 | .op i t,top,n,listed=>(!top || Region.ready .any ops listed == [i]) && n != 0 && (ops[i]?).isSome && kZ ops t true (n - 1) (listed.setIfInBounds i true)
 | .alt i t m,top,n,listed=>(!top || Region.ready .any ops listed == i :: m.alts) && n != 0 && (ops[i]?).isSome && kZ ops t true (n - 1) (listed.setIfInBounds i true) && kZ ops m false n listed
def goT(g:Nat->DT):List Nat->DT
 | []=>.done
 | [i]=>.op i (g i)
 | i :: r=>.alt i (g i) (goT g r)
def Xp(ops:Array Oper):Nat->Array Bool->DT
 | 0,_=>.done
 | f+1,listed=>
   let rs:=Region.ready .any ops listed
   match rs.find? (λi=>DJ ops listed i) with
   | some i=>.fl i (Xp ops f (listed.setIfInBounds i true))
   | none=>goT (λi=>Xp ops f (listed.setIfInBounds i true)) rs
def DK(ops:Array Oper):DT->OT
 | .done=>.done
 | .fl i t=>match ops[i]? with
   | some o=>.op o (DK ops t)
   | none=>.done
 | .op i t=>match ops[i]? with
   | some o=>.op o (DK ops t)
   | none=>.done
 | .alt i t m=>match ops[i]? with
   | some o=>.alt o (DK ops t) (DK ops m)
   | none=>.done
def ofL:List Oper->OT
 | []=>.done
 | o :: l=>.op o (ofL l)
abbrev sG(E:Env) (ops:List Oper):OT->St->(St->Prop)->Prop
 | .done,s,K=>K s
 | .op o t,s,K=>jy E ops o s λs=>sG E ops t s K
 | .alt o t m,s,K=>(jy E ops o s λs=>sG E ops t s K)/\sG E ops m s K
theorem NV{E:Env}{ops:List Oper}{K:St->Prop}:∀(l:List Oper),(λs=>sG E ops (ofL l) s K)=λs=>ZH E ops l s K
 | []=>rfl
 | o :: l=>by
   funext s
   show jy E ops o s (λs=>sG E ops (ofL l) s K)=jy E ops o s λs=>ZH E ops l s K
   rw[NV l]
theorem Xq{ops:List Oper} (l:List Oper) (h:sG E ops (ofL l) s K):ZH E ops l s K:=by
 have:=congrFun (NV (E:=E) (ops:=ops) (K:=K) l) s;rw[<-this];exact h
def isPure(o:Oper):Bool:=match o.op with
 | .alloc _ | .box .. | .buildSlice .. | .makeSlice .. | .store ..=>false
 | .call c=>(match c.callee with | .value (.func _)=>false | .builtin .append=>false | .builtin .copy=>false | .builtin .min=>false | .builtin .max=>false | _=>true)
 | _=>true
def wP(ops:Array Oper):Option OT:=
 if ops.all isPure && Region.lexB .any ops then some (ofL ops.toList)
 else
  let t:=Xp ops ops.size (Array.replicate ops.size false)
  if Region.noSelect ops && kZ ops t true ops.size (Array.replicate ops.size false) then some (DK ops t) else none
section
variable {P:Program}{E:Env}{B:Base}{h0:FH}{s:St}{h:FH}{β:List RV}{w:World}{a:Act}{o:Oper}{ops:Array Oper}{K:St->Prop}
theorem NW{L:List Nat}{l:List Oper}{g:Option (Nat×Bool)}{K K':Gd->St->Prop} (hk:∀G s,K G s->K' G s) (h:vH L s l g K):vH L s l g K':=by
 unfold vH at *;split at h
 .exact hk _ _ h
 .split at h
  .cases h
  .split at h
   .split at h
    .split at h
     .split at h
      .exact hk _ _ h
      .cases h
     .split at h
      .cases h
      .exact hk _ _ h
    .cases h
   .split at h
    .split at h
     .exact hk _ _ h
     .exact hk _ _ h
    .cases h
theorem FP(hp:isPure o=true) (k:jy E (tl ops) o s K):mM E.n o.dst=true/\vH E.lits s (tl ops) o.guard λG s=>oH E.cx s G o λe=>K (s.put o.dst G e):=by
 unfold jy at k;rw[Zo (λt n ps ho=>by simp[isPure,ho]at hp) (λc ho dA=>by simp[isPure,ho,dA]at hp)]at k
 simp only at k;unfold KA at k;split at k
 .cases k
 rename_i hd;refine⟨hd,?_⟩;have key:∀G s,(match o.op with
  | .alloc t=>JV E.cx s G o.dst t K
  | .box t x=>aeH E.cx s G o.dst t x K
  | .buildSlice t n ps=>nR E.cx (oC s (akY E s G (tl ps))) G o.dst t n (tl ps) K
  | .makeSlice t l c=>Ub E.cx s G o.dst t l c K
  | .store t p x=>match G with
    | []=>match aeU E.cx s o.dst t p x K with
      | some q=>q
      | none=>JW E.cx (oC s (ZE E s p x)) o.dst t p x K
    | _ :: _=>False
  | .call c=>match c.callee with
    | .value (.func f)=>match hcL E f (tl c.args) with
      | some (ct,xs)=>jD E.cx (λ_=>some ct) s G o.dst f xs K
      | none=>jD E.cx E.ct (oC s (ZC E s G f (tl c.args))) G o.dst f (tl c.args) K
    | .builtin .append=>match G with
      | []=>match tl c.args with
        | [x,y]=>match tl c.argTypes with
          | [t,t']=>match Nat.beq t t' with
            | true=>match Ur s x λs=>wI E.cx s o.dst t x y K with
              | some q=>q
              | none=>wI E.cx s o.dst t x y K
            | false=>False
          | _=>False
        | _=>False
      | _ :: _=>False
    | .builtin .copy=>match G with
      | []=>match tl c.args with
        | [x,y]=>match tl c.argTypes with
          | [t,_]=>Us E.cx s o.dst t x y K
          | _=>False
        | _=>False
      | _ :: _=>False
    | .builtin .min=>match G with
      | []=>match tl c.args with
        | [x,y]=>aeX E.cx s o.dst x y K
        | _=>False
      | _ :: _=>False
    | .builtin .max=>match G with
      | []=>match tl c.args with
        | [x,y]=>QL E.cx s o.dst x y K
        | _=>False
      | _ :: _=>False
    | _=>oH E.cx s G o λe=>K (s.put o.dst G e)
  | _=>oH E.cx s G o λe=>K (s.put o.dst G e))->oH E.cx s G o λe=>K (s.put o.dst G e):=by
  intro G s k;split at k
  .rename_i ho;simp[isPure,ho]at hp
  .rename_i ho;simp[isPure,ho]at hp
  .rename_i ho;simp[isPure,ho]at hp
  .rename_i ho;simp[isPure,ho]at hp
  .rename_i ho;simp[isPure,ho]at hp
  .rename_i c ho;split at k
   .rename_i hc;simp[isPure,ho,hc]at hp
   .rename_i hc;simp[isPure,ho,hc]at hp
   .rename_i hc;simp[isPure,ho,hc]at hp
   .rename_i hc;simp[isPure,ho,hc]at hp
   .rename_i hc;simp[isPure,ho,hc]at hp
   .exact k
  .exact k
 exact NW key k
theorem ZK{x:Callee} (h:(match x with | .builtin .len=>true | _=>false)=true):x=.builtin .len:=by
 split at h
 .rfl
 .cases h
theorem Rk(hf:kN o.op=true):isPure o=true:=by
 cases ho:o.op with
 | call c=>
   rw[ho]at hf;have:c.callee=.builtin .len:=ZK hf;simp[isPure,ho,this]
 | _=>
   rw[ho]at hf
   first
    | (simp[isPure,ho];done)
    | (simp[kN,nN]at hf;done)
theorem vP{x:Op} (hf:kN x=true):quietly x=true:=by
 cases x with
 | call c=>
   have:c.callee=.builtin .len:=ZK hf;simp[quietly,this]
 | _=>
   first
    | rfl
    | (simp[kN,nN]at hf;done)
theorem yw(ok:gW P E) (ak:Sat E.n B h0 s h β w a) (hg:aP E.cx.gd h) (hf:kN o.op=true) (k:jy E (tl ops) o s K):
 ∃v s',YI P ops (isLoad o.op) w o v a/\K s'/\Sat E.n B h0 s' h β w (a.put o.dst v):=by
 obtain⟨hd,k⟩:=FP (Rk hf) k;obtain⟨G,s',k,aY,hw,hG⟩:=wH ak k;obtain⟨e,k1,k2⟩:=WR ok.ti aY hg hf k;cases hgv:gv s'.gl G with
 | true=>
   obtain⟨v,r,c⟩:=k2 hgv;refine⟨v,_,.inl ⟨by rw[hw];exact hgv,λw' hg'=>?_⟩,k1,aY.put (eH hd) hG (λ_=>c) λhh=>by rw[hgv]at hh;cases hh⟩
   exact r w' hg'
 | false=>
   exact⟨undef,_,.inr ⟨by rw[hw];exact hgv,rfl⟩,k1,aY.put (eH hd) hG (λhh=>by rw[hgv]at hh;cases hh) λ_=>rfl⟩
theorem still_step(ok:gW P E) (ak:Sat E.n B h0 s h β w a) (hg:aP E.cx.gd h) (hp:isPure o=true) (k:jy E (tl ops) o s K){Nx:Act->Prop}
 (next:∀v s',K s'->Sat E.n B h0 s' h β w (a.put o.dst v)->Nx (a.put o.dst v)):if Region.wanted o (yielded ops a.tmps) then o.still P a w Nx else Nx (a.put o.dst undef):=by
 obtain⟨hd,k⟩:=FP hp k;obtain⟨G,s',k,aY,hw,hG⟩:=wH ak k;obtain⟨e,k1,k2⟩:=ET ok.ti aY hg k;rw[hw];cases hgv:gv s'.gl G with
 | true=>
   obtain⟨v,r,c⟩:=k2 hgv;rw[if_pos rfl];unfold Oper.still;rw[r,Oper.stillUpon_value];exact next _ _ k1 (aY.put (eH hd) hG (λ_=>c) λhh=>by rw[hgv]at hh;cases hh)
 | false=>
   rw[if_neg (by simp)]
   exact next _ _ k1 (aY.put (eH hd) hG (λhh=>by rw[hgv]at hh;cases hh) λ_=>rfl)
theorem NY(ok:gW P E) (hg:aP E.cx.gd h0){R:Act->Prop}:∀(l:List Oper){s:St}{a:Act},l.all isPure=true->Sat E.n B h0 s h β w a->ZH E (tl ops) l s K ->
 (∀s' a',K s'->Sat E.n B h0 s' h β w a'->Same (kC l) a a'->R a')->wpStill P ops w R l a
 | [],s,a,_,ak,k,next=>next _ _ k ak (Same.refl _ _)
 | o :: r,s,a,hp,ak,k,next=>by
   simp only[List.all_cons,cZ]at hp;exact still_step ok ak (hg.mono ak.ok.hle) hp.1 k λv s' k' aY=>NY ok hg r hp.2 aY k' λs2 a2 k2 bM sm=>next s2 a2 k2 bM sm.put
abbrev BF(cx:Cx):List Oper->Bool
 | []=>false
 | o :: l=>match o.op with
   | .call c=>match c.callee with
     | .builtin .len=>match tl c.argTypes with
       | [t]=>match Zv cx t with
         | true=>true
         | false=>BF cx l
       | _=>BF cx l
     | _=>BF cx l
   | .lookup _ _ _ _=>true
   | _=>BF cx l
abbrev stepM(E:Env) (ops:List Oper) (o:Oper) (s:St) (K:St->Prop):Prop:=match o.guard with
 | some _=>jy E ops o s K
 | none=>match Ky E.cx s o.op λe=>K (s.put o.dst [] e) with
   | some p=>match mM E.n o.dst with
     | false=>False
     | true=>p
   | none=>jy E ops o s K
abbrev Xr(E:Env) (ops:List Oper):List Oper->St->(St->Prop)->Prop
 | [],s,K=>K s
 | o :: r,s,K=>stepM E ops o s λs=>Xr E ops r s K
theorem BG(ok:gW P E) (hg:aP E.cx.gd h0){R:Act->Prop}:∀(l:List Oper){s:St}{a:Act},l.all isPure=true->Sat E.n B h0 s h β w a->Xr E (tl ops) l s K ->
 (∀s' a',K s'->Sat E.n B h0 s' h β w a'->Same (kC l) a a'->R a')->wpStill P ops w R l a
 | [],s,a,_,ak,k,next=>next _ _ k ak (Same.refl _ _)
 | o :: r,s,a,hp,ak,k,next=>by
   simp only[List.all_cons,cZ]at hp;have old:jy E (tl ops) o s (λs=>Xr E (tl ops) r s K)->wpStill P ops w R (o :: r) a:=λk=>
    still_step ok ak (hg.mono ak.ok.hle) hp.1 k λv s' k' aY=>BG ok hg r hp.2 aY k' λs2 a2 k2 bM sm=>next s2 a2 k2 bM sm.put
   simp only[Xr,stepM]at k;split at k
   .exact old k
   .rename_i hgd;split at k
    .rename_i p hp';split at k
     .cases k
     .rename_i hd;obtain⟨e,v,k1,run,c⟩:=NS ok.ti ak (hg.mono ak.ok.hle) hp' k;unfold wpStill;rw[if_pos (by simp[Region.wanted,hgd])]
      unfold Oper.still;rw[run,Oper.stillUpon_value];exact BG ok hg r hp.2 (ak.put (eH hd) rfl (λ_=>c) λhh=>by cases hh) k1 λs2 a2 k2 bM sm=>next s2 a2 k2 bM sm.put
    .exact old k
def ae7(ops:Array Oper):Bool:=ops.all isPure && Region.lexB .any ops
theorem vT{t:Nat}:∀{l:List Oper},ji t (kC l)=true↔∃o∈l,o.dst=some t
 | []=>by simp[kC,ji]
 | o :: l=>by
   cases hd:o.dst with
   | none=>
     have e:kC (o :: l)=kC l:=by simp only[kC,hd]
     rw[e,vT];simp[hd]
   | some d=>
     have e:kC (o :: l)=d :: kC l:=by simp only[kC,hd]
     rw[e,jK,wX,vT];constructor
     .rintro(h | ⟨o',h1,h2⟩)
      .exact⟨o,by simp,by rw[hd,iI h]⟩
      .exact⟨o',by simp[h1],h2⟩
     .rintro⟨o',h1,h2⟩;rcases nG.1 h1 with rfl | h1
      .rw[hd]at h2;cases h2;exact .inl (Nat.beq_refl _)
      .exact .inr ⟨o',h1,h2⟩
theorem Same.sub{l m:List Oper} (hs:∀o∈l,o∈m) (x:Same (kC l) a b):Same (kC m) a b:=λt h=>x t (by
 cases hh:ji t (kC l) with
 | false=>rfl
 | true=>
   obtain⟨o,h1,h2⟩:=vT.1 hh;rw[vT.2 ⟨o,hs o h1,h2⟩]at h;cases h)
theorem Same.put_mem{ol:List Oper} (ho:o∈ol){v:Value} (x:Same (kC ol) (a.put o.dst v) b):Same (kC ol) a b:=by
 intro t h;rw[x t h];cases hd:o.dst with
 | none=>rfl
 | some d=>
   have hne:d≠t:=by
    rintro rfl;rw[vT.2 ⟨o,ho,hd⟩]at h;cases h
   simp[Act.put,ake hne]
theorem zK(ok:gW P E) (hg:aP E.cx.gd h0) (hs:Region.noSelect ops=true){R:Act->World->Prop}:∀(t:DT){n:Nat}{listed:Array Bool}{s:St}{h:FH}{β:List RV}{w:World}{a:Act},
 Sat E.n B h0 s h β w a->sG E (tl ops) (DK ops t) s K->(∀s' h' β' w' a',K s'->h.le h'->Sat E.n B h0 s' h' β' w' a'->Same (kC ops.toList) a a'->R a' w') ->
 (kZ ops t true n listed=true->anyI P .any ops (yh ops) R n listed a w) /\
 (kZ ops t false n listed=true->∀i∈t.alts,AU P ops i (λa' w'=>(yh ops i=true->oq w w')/\anyI P .any ops (yh ops) R (n - 1) (listed.setIfInBounds i true) a' w') a w)
 | .done,n,listed,s,h,β,w,a,ak,k,next=>by
   refine⟨λhc=>?_,λhc=>by simp[kZ]at hc⟩
   simp only[kZ,Hl,cZ,CB]at hc;obtain⟨rfl,he⟩:=hc;exact⟨by simpa using he,next _ _ _ _ _ k (FH.le.refl h) ak (Same.refl _ _)⟩
 | .fl i t,n,listed,s,h,β,w,a,ak,k,next=>by
   refine⟨λhc=>?_,λhc=>by simp[kZ]at hc⟩
   simp only[kZ,Hl,cZ,MQ,ne_eq]at hc;obtain⟨⟨hn,hb⟩,hc⟩:=hc;obtain⟨n,rfl⟩:∃m,n=m+1:=⟨n - 1,by omega⟩
   unfold DJ at hb;cases hi:ops[i]? with
   | none=>rw[hi]at hb;simp at hb
   | some o=>
     rw[hi]at hb;simp only[cZ]at hb;simp only[DK,hi,sG]at k;have jZ:o∈ops.toList:=gQ (i:=i) (by simpa using hi)
     obtain⟨⟨⟨hf,hfree⟩,hr⟩,hl⟩:=hb;obtain⟨v,s',hy,k',aY⟩:=yw ok ak (hg.mono ak.ok.hle) hf k;have hq:yh ops i=true:=by
      simp only[yh,hi];exact vP hf
     refine E8 (bl:=ZJ ops listed i) hi (Region.noSelect_spec hs) hq n listed a w (Region.free_spec hi hfree) (λe=>?_) (by simpa using hr) hy (λ_=>oq.refl w)
      ((zK ok hg hs t aY k' λs2 h2 β2 w2 a2 k2 iK bM sm=>next s2 h2 β2 w2 a2 k2 iK bM (sm.put_mem jZ)).1 hc)
     rw[e]at hl;exact CU (by simpa using hl)
 | .op i t,n,listed,s,h,β,w,a,ak,k,next=>by
   have key:n≠0->(ops[i]?).isSome=true->kZ ops t true (n - 1) (listed.setIfInBounds i true)=true->AU P ops i (λa' w'=>(yh ops i=true->oq w w')/\anyI P .any ops (yh ops) R (n - 1) (listed.setIfInBounds i true) a' w') a w:=by
    intro hn hi hc;obtain⟨o,hi⟩:=A91.1 hi;have jZ:o∈ops.toList:=gQ (i:=i) (by simpa using hi)
    simp only[DK,hi,sG]at k;unfold AU;simp only[hi];refine sD ok ak (hg.mono ak.ok.hle) k _ J3 λs' h' β' w' v k' le Bl aY=>⟨λe=>Bl (by simpa[yh,hi]using e),?_⟩
    exact(zK ok hg hs t aY k' λs2 h2 β2 w2 a2 k2 iK bM sm=>next s2 h2 β2 w2 a2 k2 (le.trans iK) bM (sm.put_mem jZ)).1 hc
   refine⟨λhc=>?_,λhc j hj=>?_⟩
   .simp only[kZ,Ws,Qm,cZ,MQ,ne_eq,CB]at hc;obtain⟨⟨⟨hr,hn⟩,hi⟩,hc⟩:=hc;obtain⟨m,rfl⟩:∃m,n=m+1:=⟨n - 1,by omega⟩
    refine⟨λh0=>by rw[hr]at h0;simp at h0,λj hj=>?_⟩
    rw[hr]at hj;simp at hj;subst hj;exact key hn hi hc
   .simp only[kZ,Ql,Qo,Hl,cZ,MQ,ne_eq]at hc;simp only[DT.alts,A85]at hj;subst hj;exact key hc.1.1 hc.1.2 hc.2
 | .alt i t m,n,listed,s,h,β,w,a,ak,k,next=>by
   have key:n≠0->(ops[i]?).isSome=true->kZ ops t true (n - 1) (listed.setIfInBounds i true)=true->kZ ops m false n listed=true ->
    ∀j∈i :: m.alts,AU P ops j (λa' w'=>(yh ops j=true->oq w w')/\anyI P .any ops (yh ops) R (n - 1) (listed.setIfInBounds j true) a' w') a w:=by
    intro hn hi hc hm j hj;obtain⟨o,hi⟩:=A91.1 hi;have jZ:o∈ops.toList:=gQ (i:=i) (by simpa using hi)
    simp only[DK,hi,sG]at k;rcases nG.1 hj with rfl | hj
    .unfold AU;simp only[hi];refine sD ok ak (hg.mono ak.ok.hle) k.1 _ J3 λs' h' β' w' v k' le Bl aY=>⟨λe=>Bl (by simpa[yh,hi]using e),?_⟩
     exact(zK ok hg hs t aY k' λs2 h2 β2 w2 a2 k2 iK bM sm=>next s2 h2 β2 w2 a2 k2 (le.trans iK) bM (sm.put_mem jZ)).1 hc
    .exact(zK ok hg hs m ak k.2 next).2 hm j hj
   refine⟨λhc=>?_,λhc j hj=>?_⟩
   .simp only[kZ,Ws,Qm,cZ,MQ,ne_eq,CB]at hc;obtain⟨⟨⟨⟨hr,hn⟩,hi⟩,hc⟩,hm⟩:=hc;obtain⟨q,rfl⟩:∃m,n=m+1:=⟨n - 1,by omega⟩
    refine⟨λh0=>by rw[hr]at h0;simp at h0,λj hj=>?_⟩
    rw[hr]at hj;exact key hn hi hc hm j hj
   .simp only[kZ,Ql,Qo,Hl,cZ,MQ,ne_eq]at hc;exact key hc.1.1.1 hc.1.1.2 hc.1.2 hc.2 j hj
theorem Sat.drawn(ak:Sat E.n B h0 s h β w a) (n:Nat) (hn:w.drawn<=n):Sat E.n B h0 s h β { w with drawn:=n } a where
 ok:=⟨⟨ak.ok.below.os,ak.ok.below.tape,ak.ok.below.output,ak.ok.below.size,ak.ok.below.block⟩,oh ak.ok.dr hn,ak.ok.len,λi r v h1 h2=>by
  have:=ak.ok.holds i r v h1 h2;cases r<;>cases v<;>exact this,ak.ok.own,ak.ok.inj,ak.ok.hle,ak.ok.hw,ak.ok.hg,ak.ok.kn⟩
 env:=ak.env
 gs:=ak.gs
 defers:=ak.defers
 sz:=ak.sz
 gb:=ak.gb
 gT:=ak.gT
theorem UA(ok:gW P E) (hg:aP E.cx.gd h0){id:Nat}{ol:OT} (ho:wP ops=some ol) (ak:Sat E.n B h0 s h β w a) (k:sG E (tl ops) ol s K){F:Fence} (hF:Wd F) (hn:DF ops.toList=true)
 (next:∀s' h' β' w' a',K s'->h.le h'->Sat E.n B h0 s' h' β' w' a'->Same (kC (tl ops)) a a'->Q .normal a' w'):(Code.region id ops true).wpIn F n P Q a w:=by
 unfold wP at ho;have et:tl ops=ops.toList:=by cases ops;rfl
 split at ho
 .rename_i hp;cases ho;simp only[cZ]at hp;refine zJ hF hn ok.mixed hp.2 (NY ok hg ops.toList (by simpa using hp.1) (ak.drawn _ (AZ _)) (Xq _ k) λs' a' k' aY sm=>next _ _ _ _ _ k' (FH.le.refl h) aY (by rw[et];exact sm))
 .simp only at ho;split at ho
  .rename_i hp;cases ho;simp only[cZ,CB]at hp;refine wpIn_region_any ok.mixed (Kv (sf:=yh ops) (R:=λa w=>Q .normal a w) hF hn (λ_ _ hh=>hh) _ _ _ _ ?_)
   exact(zK ok hg hp.1 (R:=λa w=>Q .normal a w) (Xp ops ops.size (Array.replicate ops.size false)) (ak.drawn (w.drawn+1) (AZ _)) k λs' h' β' w' a' k' le aY sm=>next _ _ _ _ _ k' le aY (by rw[et];exact sm)).1 hp.2
  .cases ho
end
section
variable {P:Program}{E:Env}{B:Base}{h0:FH}{s:St}{h:FH}{β:List RV}{w:World}{a:Act}{o:Oper}{ops:Array Oper}{K:St->Prop}
theorem ZL(ok:gW P E) (hg:aP E.cx.gd h0){id:Nat} (ho:ae7 ops=true) (ak:Sat E.n B h0 s h β w a) (k:Xr E (tl ops) (tl ops) s K){F:Fence} (hF:Wd F) (hn:DF ops.toList=true)
 (next:∀s' h' β' w' a',K s'->h.le h'->Sat E.n B h0 s' h' β' w' a'->Same (kC (tl ops)) a a'->Q .normal a' w'):(Code.region id ops true).wpIn F n P Q a w:=by
 unfold ae7 at ho;have et:tl ops=ops.toList:=by cases ops;rfl
 simp only[cZ]at ho;rw[et]at next
 refine zJ hF hn ok.mixed ho.2 (BG ok hg ops.toList (by simpa using ho.1) (ak.drawn _ (AZ _)) (by rw[et]at k ⊢;exact k) λs' a' k' aY sm=>next _ _ _ _ _ k' (FH.le.refl h) aY sm)
end
abbrev ae8:Op->Bool
 | .call _=>true
 | _=>false
def BH:Op->Bool
 | .call c=>(match c.callee with
   | .builtin .len=>true
   | _=>false)
 | o=>quietly o
def NZ(ops:Array Oper) (i:Nat):Bool:=match ops[i]? with
 | some o=>BH o.op
 | none=>true
def Rl(ops:Array Oper) (listed:Array Bool) (i:Nat) (bl:List Nat):Bool:=
 (bl.all λj=>!listed.getD j true && (match ops[j]? with | some o=>o.after.any (λe=>Region.binds .any e && (e.on == i || bl.contains e.on)) | none=>false)) &&
 ((List.range ops.size).all λj=>j == i || listed.getD j true || NZ ops j || bl.contains j)
theorem N7{listed:Array Bool}{bl:List Nat} (h:Rl ops listed i bl=true):
 Waits .any ops listed i bl/\∀j,j≠i->listed.getD j true=false->NZ ops j=false->j∈bl:=by
 simp only[Rl,cZ,P7]at h;refine⟨λj hj=>?_,λj hji hun hs=>?_⟩
 .have h1:=h.1 j hj;simp only[Ep]at h1;refine⟨h1.1,?_⟩;cases ho:ops[j]? with
  | none=>rw[ho]at h1;exact absurd h1.2 (by simp)
  | some o=>
    rw[ho]at h1;obtain⟨e,he,hb⟩:=Array.any_eq_true'.1 h1.2;simp only[cZ,wX,CB,aem]at hb;exact⟨o,rfl,e,he,hb.1,hb.2⟩
 .rcases Yo j ops.size with iT | hge
  .have h2:=h.2 j (aev.2 iT);simp only[wX,CB,hji,hun,hs,aem,aeo,false_or]at h2;exact h2
  .have:ops[j]?=none:=aek hge;simp[NZ,this]at hs
def KD(ops:Array Oper) (listed:Array Bool) (i:Nat):Bool:=match ops[i]? with
 | some o=>kN o.op && Region.free .any ops listed i && (Region.ready .any ops listed).contains i && (!isLoad o.op || Rl ops listed i (ZJ ops listed i))
 | none=>false
def uU(ops:Array Oper):DT->Bool->Nat->Array Bool->Bool
 | .done,top,n,listed=>top && n == 0 && (Region.ready .any ops listed).isEmpty
 | .fl i t,top,n,listed=>top && n != 0 && KD ops listed i && uU ops t true (n - 1) (listed.setIfInBounds i true)
 | .op i t,top,n,listed=>(!top || Region.ready .any ops listed == [i]) && n != 0 && (ops[i]?).isSome && uU ops t true (n - 1) (listed.setIfInBounds i true)
 | .alt i t m,top,n,listed=>(!top || Region.ready .any ops listed == i :: m.alts) && n != 0 && (ops[i]?).isSome && uU ops t true (n - 1) (listed.setIfInBounds i true) && uU ops m false n listed
def UC(ops:Array Oper):Nat->Array Bool->DT
 | 0,_=>.done
 | f+1,listed=>
   let rs:=Region.ready .any ops listed
   match rs.find? (λi=>KD ops listed i) with
   | some i=>.fl i (UC ops f (listed.setIfInBounds i true))
   | none=>goT (λi=>UC ops f (listed.setIfInBounds i true)) rs
def zL(ops:Array Oper):Option OT:=
 let t:=UC ops ops.size (Array.replicate ops.size false)
 if Region.noSelect ops && uU ops t true ops.size (Array.replicate ops.size false) then some (DK ops t) else none
abbrev N8(E:Env) (ops:List Oper) (o:Oper) (s:St) (K:St->Prop):Prop:=match kN o.op with
 | true=>jy E ops o s K
 | false=>match rtP E.cx s o K with
 | some p=>match mM E.n o.dst with
   | false=>False
   | true=>p
 | none=>match ae8 o.op with
   | true=>NU E ops o s K
   | false=>jy E ops o s K
abbrev qZ(E:Env) (ops:List Oper):OT->St->(St->Prop)->Prop
 | .done,s,K=>K s
 | .op o t,s,K=>N8 E ops o s λs=>qZ E ops t s K
 | .alt o t m,s,K=>(N8 E ops o s λs=>qZ E ops t s K)/\qZ E ops m s K
abbrev N9(E:Env):List Oper->Bool
 | []=>false
 | o :: l=>match o.op with
   | .call c=>match c.callee with
     | .value (.func f)=>match E.ip f with
       | some _=>true
       | none=>N9 E l
     | _=>N9 E l
   | _=>N9 E l
section
variable {P:Program}{E:Env}{B:Base}{h0:FH}{s:St}{h:FH}{β:List RV}{w:World}{a:Act}{o:Oper}{ops:Array Oper}{K:St->Prop}
theorem Oa(ok:gW P E) (ak:Sat E.n B h0 s h β w a) (hg:aP E.cx.gd h) (hi:ops[i]?=some o) (k:N8 E (tl ops) o s K){R:Act->World->Prop}
 (next:∀s' h' β' w' v,K s'->h.le h'->(NZ ops i=true->oq w w')->Sat E.n B h0 s' h' β' w' (a.put o.dst v)->R (a.put o.dst v) w'):AU P ops i R a w:=by
 unfold AU;simp only[hi];unfold N8 at k;have plain:BH o.op=quietly o.op->jy E (tl ops) o s K->if Region.wanted o (yielded ops a.tmps)=true then o.wp P a w R J3 else R (a.put o.dst undef) w:=λhq k=>
  sD ok ak hg k R J3 λs' h' β' w' v k' le Bl aY=>next s' h' β' w' v k' le (λe=>Bl (by rw[<-hq];simpa[NZ,hi]using e)) aY
 split at k
 .rename_i hf;refine plain ?_ k;cases ho:o.op with
  | call c=>
    rw[ho]at hf;have:c.callee=.builtin .len:=ZK hf;simp[BH,quietly,this]
  | _=>rfl
 .rename_i hf;split at k
  .rename_i p hp;split at k
   .cases k
   .rename_i hd;refine Zt ok.ti ak hg hd hp k R J3 λs' h' β' w' v k' le Bl aY=>next s' h' β' w' v k' le (λe=>Bl ?_) aY
    simp only[NZ,hi]at e;revert e;unfold BH;split
    .rename_i c hc;split
     .rename_i h2;intro _;rw[hc];simp[quietly,h2]
     .intro e;cases e
    .exact λe=>e
  split at k
  .rename_i hc;refine FN ok ak hg k R J3 λs' h' β' w' v k' le aY=>next s' h' β' w' v k' le (λe=>?_) aY
   exfalso;cases ho:o.op with
   | call c=>
     rw[ho]at hf;simp only[NZ,hi,ho,BH]at e;have h1:c.callee=.builtin .len:=by
      revert e;split
      .rename_i h2;intro _;exact h2
      .intro e;cases e
     have:kN (Op.call c)=true:=by simp[kN,nN,h1]
     rw[this]at hf;cases hf
   | _=>rw[ho]at hc;cases hc
  .rename_i hc;refine plain ?_ k;cases ho:o.op with
   | call c=>rw[ho]at hc;cases hc
   | _=>rfl
theorem vU(ok:gW P E) (hg:aP E.cx.gd h0) (hs:Region.noSelect ops=true){R:Act->World->Prop}:∀(t:DT){n:Nat}{listed:Array Bool}{s:St}{h:FH}{β:List RV}{w:World}{a:Act},
 Sat E.n B h0 s h β w a->qZ E (tl ops) (DK ops t) s K->(∀s' h' β' w' a',K s'->h.le h'->Sat E.n B h0 s' h' β' w' a'->Same (kC ops.toList) a a'->R a' w') ->
 (uU ops t true n listed=true->anyI P .any ops (NZ ops) R n listed a w) /\
 (uU ops t false n listed=true->∀i∈t.alts,AU P ops i (λa' w'=>(NZ ops i=true->oq w w')/\anyI P .any ops (NZ ops) R (n - 1) (listed.setIfInBounds i true) a' w') a w)
 | .done,n,listed,s,h,β,w,a,ak,k,next=>by
   refine⟨λhc=>?_,λhc=>by simp[uU]at hc⟩
   simp only[uU,Hl,cZ,CB]at hc;obtain⟨rfl,hr⟩:=hc;exact⟨by simpa using hr,next _ _ _ _ _ k (FH.le.refl h) ak (Same.refl _ _)⟩
 | .fl i t,n,listed,s,h,β,w,a,ak,k,next=>by
   refine⟨λhc=>?_,λhc=>by simp[uU]at hc⟩
   simp only[uU,Hl,cZ,MQ,ne_eq]at hc;obtain⟨⟨hn0,hb⟩,hc⟩:=hc;obtain⟨n,rfl⟩:∃m,n=m+1:=⟨n - 1,by omega⟩
   unfold KD at hb;cases hi:ops[i]? with
   | none=>rw[hi]at hb;simp at hb
   | some o=>
     rw[hi]at hb;simp only[cZ]at hb;simp only[DK,hi,qZ]at k;have jZ:o∈ops.toList:=gQ (i:=i) (by simpa using hi)
     obtain⟨⟨⟨hf,hfree⟩,hr⟩,hl⟩:=hb;have k:jy E (tl ops) o s λs=>qZ E (tl ops) (DK ops t) s K:=by
      unfold N8 at k;rw[hf]at k;exact k
     obtain⟨v,s',hy,k',aY⟩:=yw ok ak (hg.mono ak.ok.hle) hf k;have hq:NZ ops i=true:=by
      simp only[NZ,hi];cases ho:o.op with
      | call c=>
        rw[ho]at hf;have:c.callee=.builtin .len:=ZK hf;simp[BH,this]
      | _=>
        have:=vP hf;rw[ho]at this;exact this
     refine E8 (bl:=ZJ ops listed i) hi (Region.noSelect_spec hs) hq n listed a w (Region.free_spec hi hfree) (λe=>?_) (by simpa using hr) hy (λ_=>oq.refl w)
      ((vU ok hg hs t aY k' λs2 h2 β2 w2 a2 k2 iK bM sm=>next s2 h2 β2 w2 a2 k2 iK bM (sm.put_mem jZ)).1 hc)
     rw[e]at hl;exact N7 (by simpa using hl)
 | .op i t,n,listed,s,h,β,w,a,ak,k,next=>by
   have key:n≠0->(ops[i]?).isSome=true->uU ops t true (n - 1) (listed.setIfInBounds i true)=true->AU P ops i (λa' w'=>(NZ ops i=true->oq w w')/\anyI P .any ops (NZ ops) R (n - 1) (listed.setIfInBounds i true) a' w') a w:=by
    intro hn0 hi hc;obtain⟨o,hi⟩:=A91.1 hi;have jZ:o∈ops.toList:=gQ (i:=i) (by simpa using hi)
    simp only[DK,hi,qZ]at k;exact(Oa ok ak (hg.mono ak.ok.hle) hi k λs' h' β' w' v k' le Bl aY=>⟨Bl,(vU ok hg hs t aY k' λs2 h2 β2 w2 a2 k2 iK bM sm=>next s2 h2 β2 w2 a2 k2 (le.trans iK) bM (sm.put_mem jZ)).1 hc⟩)
   refine⟨λhc=>?_,λhc j hj=>?_⟩
   .simp only[uU,Ws,Qm,cZ,MQ,ne_eq,CB]at hc;obtain⟨⟨⟨hr,hn0⟩,hi⟩,hc⟩:=hc;obtain⟨m,rfl⟩:∃m,n=m+1:=⟨n - 1,by omega⟩
    refine⟨λh0=>by rw[hr]at h0;simp at h0,λj hj=>?_⟩
    rw[hr]at hj;simp at hj;subst hj;exact key hn0 hi hc
   .simp only[uU,Ql,Qo,Hl,cZ,MQ,ne_eq]at hc;simp only[DT.alts,A85]at hj;subst hj;exact key hc.1.1 hc.1.2 hc.2
 | .alt i t mm,n,listed,s,h,β,w,a,ak,k,next=>by
   have key:n≠0->(ops[i]?).isSome=true->uU ops t true (n - 1) (listed.setIfInBounds i true)=true->uU ops mm false n listed=true ->
    ∀j∈i :: mm.alts,AU P ops j (λa' w'=>(NZ ops j=true->oq w w')/\anyI P .any ops (NZ ops) R (n - 1) (listed.setIfInBounds j true) a' w') a w:=by
    intro hn0 hi hc hm j hj;obtain⟨o,hi⟩:=A91.1 hi;have jZ:o∈ops.toList:=gQ (i:=i) (by simpa using hi)
    simp only[DK,hi,qZ]at k;rcases nG.1 hj with rfl | hj
    .exact(Oa ok ak (hg.mono ak.ok.hle) hi k.1 λs' h' β' w' v k' le Bl aY=>⟨Bl,(vU ok hg hs t aY k' λs2 h2 β2 w2 a2 k2 iK bM sm=>next s2 h2 β2 w2 a2 k2 (le.trans iK) bM (sm.put_mem jZ)).1 hc⟩)
    .exact(vU ok hg hs mm ak k.2 next).2 hm j hj
   refine⟨λhc=>?_,λhc j hj=>?_⟩
   .simp only[uU,Ws,Qm,cZ,MQ,ne_eq,CB]at hc;obtain⟨⟨⟨⟨hr,hn0⟩,hi⟩,hc⟩,hm⟩:=hc;obtain⟨q,rfl⟩:∃m,n=m+1:=⟨n - 1,by omega⟩
    refine⟨λh0=>by rw[hr]at h0;simp at h0,λj hj=>?_⟩
    rw[hr]at hj;exact key hn0 hi hc hm j hj
   .simp only[uU,Ql,Qo,Hl,cZ,MQ,ne_eq]at hc;exact key hc.1.1.1 hc.1.1.2 hc.1.2 hc.2 j hj
theorem ZM(ok:gW P E) (hg:aP E.cx.gd h0){id:Nat}{ol:OT} (ho:zL ops=some ol) (ak:Sat E.n B h0 s h β w a) (k:qZ E (tl ops) ol s K){F:Fence} (hF:Wd F) (hn:DF ops.toList=true)
 (next:∀s' h' β' w' a',K s'->h.le h'->Sat E.n B h0 s' h' β' w' a'->Same (kC (tl ops)) a a'->Q .normal a' w'):(Code.region id ops true).wpIn F n P Q a w:=by
 unfold zL at ho;have et:tl ops=ops.toList:=by cases ops;rfl
 simp only at ho;split at ho
 .rename_i hp;cases ho;simp only[cZ,CB]at hp;refine wpIn_region_any ok.mixed (Kv (sf:=NZ ops) (R:=λa w=>Q .normal a w) hF hn (λ_ _ hh=>hh) _ _ _ _ ?_)
  exact(vU ok hg hp.1 (R:=λa w=>Q .normal a w) (UC ops ops.size (Array.replicate ops.size false)) (ak.drawn (w.drawn+1) (AZ _)) k λs' h' β' w' a' k' le aY sm=>next _ _ _ _ _ k' le aY (by rw[et];exact sm)).1 hp.2
 .cases ho
end
abbrev isNil{α:Type}:List α->Bool
 | []=>true
 | _ :: _=>false
abbrev vV(seen:List Nat):List (Nat×Gd×aW)->List (Nat×Gd×aW)
 | []=>[]
 | (k,g,e) :: l=>match ji k seen with
   | true=>vV seen l
   | false=>match isNil g with
     | true=>(k,g,e) :: vV (k :: seen) l
     | false=>vV (k :: seen) l
abbrev ny:List (Gd×aj)->List (Gd×aj)
 | []=>[]
 | (g,r) :: l=>match isNil g with
   | true=>([],r) :: ny l
   | false=>([],.gone) :: ny l
abbrev clean(s:St):St:={ env:=vV [] s.env,T:=ny s.T,gl:=[],gs:=[] }
theorem tX:∀{l:List (Nat×Gd×aW)}{seen:List Nat}{t:Nat}{G:Gd}{e:aW},iJ (vV seen l) t=some (G,e)->ji t seen=false/\iJ l t=some (G,e)/\G=[]
 | [],_,_,_,_,h=>by simp[vV,iJ]at h
 | (k,g,e0) :: l,seen,t,G,e,h=>by
   unfold vV at h;split at h
   .rename_i hm;obtain⟨h1,h2,h3⟩:=tX h;refine⟨h1,?_,h3⟩;rw[bF,if_neg]
    .exact h2
    .rintro rfl;rw[hm]at h1;cases h1
   .rename_i hm;have sub:iJ (vV (k :: seen) l) t=some (G,e)->ji t seen=false/\iJ ((k,g,e0) :: l) t=some (G,e)/\G=[]:=by
     intro h;obtain⟨h1,h2,h3⟩:=tX h;rw[jK,lM]at h1;refine⟨h1.2,?_,h3⟩;rw[bF,if_neg]
     .exact h2
     .rintro rfl;exact Yi h1.1 rfl
    split at h
    .rename_i hn;rw[bF]at h;split at h
     .rename_i hk;subst hk;cases h;refine⟨hm,by rw[bF,if_pos rfl],?_⟩
      cases g with
      | nil=>rfl
      | cons _ _=>cases hn
     .exact sub h
    .exact sub h
theorem FQ(gl:List Bool):∀(T:List (Gd×aj)) (i:Nat) (r:aj),(eff [] (ny T))[i]?=some r->r.live=true->(eff gl T)[i]?=some r
 | [],i,r,h,_=>by simp[ny,eff]at h
 | (g,r0) :: l,i,r,h,hl=>by
   have e1:eff [] (ny ((g,r0) :: l))=(match isNil g with | true=>r0 | false=>aj.gone) :: eff [] (ny l):=by
    simp only[ny];cases isNil g<;>rfl
   rw[e1]at h;cases i with
   | zero=>
     simp only[V7,A97]at h;cases g with
     | nil=>simp only[isNil]at h;subst h;rfl
     | cons _ _=>simp only[isNil]at h;subst h;cases hl
   | succ i=>
     simp only[aei,eff]at h ⊢
     exact FQ gl l i r h hl
theorem FT:∀(T:List (Gd×aj)),(ny T).length=T.length
 | []=>rfl
 | (g,r) :: l=>by simp only[ny];split<;>simp[FT l]
theorem yx:∀{T:List (Gd×aj)}{p:Gd×aj},p∈ny T->p.1=[]
 | [],p,h=>by simp[ny]at h
 | (g,r) :: l,p,h=>by
   simp only[ny]at h;split at h
   .rcases nG.1 h with rfl | h
    .rfl
    .exact yx h
   .rcases nG.1 h with rfl | h
    .rfl
    .exact yx h
theorem OK.weaken{T T':List aj} (ok:OK B h0 T h β w) (hl:T'.length=T.length) (sub:∀(i:Nat) r,T'[i]?=some r->r.live=true->T[i]?=some r):OK B h0 T' h β w where
 below:=ok.below
 dr:=ok.dr
 len:=by rw[hl];exact ok.len
 holds:=by
  intro i r v e e';cases hr:r.live with
  | true=>exact ok.holds i r v (sub i r e hr) e'
  | false=>cases r<;>first | (cases hr;done) | (cases v<;>trivial)
 own:=λi r v b e l e' hb=>ok.own i r v b (sub i r e l) l e' hb
 inj:=λi j r r' u v b e l e' l' f f' hb hb'=>ok.inj i j r r' u v b (sub i r e l) l (sub j r' e' l') l' f f' hb hb'
 hle:=ok.hle
 hw:=ok.hw
 hg:=ok.hg
 kn:=ok.kn
theorem Sat.clean{N:Nat}{B:Base}{h0:FH}{s:St}{h:FH}{β:List RV}{w:World}{a:Act} (ak:Sat N B h0 s h β w a):Sat N B h0 (clean s) h β w a:=by
 refine⟨?_,?_,?_,ak.defers,ak.sz,?_,?_⟩
 .exact ak.ok.weaken (by simp[jA,FT]) λi r e l=>FQ s.gl s.T i r e l
 .intro t G e ht;obtain⟨_,h1,rfl⟩:=tX ht;exact ak.env t [] e h1
 .intro d i hi;have hi:YB [] d=some i:=hi;cases hi
 .intro t G e ht;obtain⟨_,h1,rfl⟩:=tX ht;rfl
 .intro p hp;rw[yx hp]
abbrev writes:Code->List Nat
 | .region _ ops _=>kC (tl ops)
 | .seq a b=>fD (writes a) (writes b)
 | .cond _ a b=>fD (writes a) (writes b)
 | .block _ c=>writes c
 | .loop c=>writes c
 | _=>[]
abbrev keyOf:Code->Nat
 | .region id _ _=>id
 | .seq a _=>keyOf a
 | .cond _ a _=>keyOf a
 | .block _ c=>keyOf c
 | .loop c=>keyOf c
 | _=>0
abbrev DL(n:Nat):SC->Bool
 | .own i _=>Nat.ble (i+1) n
 | .row i=>Nat.ble (i+1) n
 | .kM i _ _ _=>Nat.ble (i+1) n
 | .sub i _=>Nat.ble (i+1) n
 | .mQ i _ _ _ _=>Nat.ble (i+1) n
 | _=>true
abbrev zN(n:Nat):SV->Bool
 | .c x=>DL n x
 | .agg xs=>allL (DL n) xs
 | _=>true
abbrev lY(n:Nat):aj->Bool
 | .blk _ xs=>allL (DL n) xs
 | _=>true
abbrev lH:SC->Bool
 | .v _=>true
 | .sl _ _=>true
 | .one _ _=>true
 | .fp _ _=>true
 | .abs _=>true
 | .junk=>true
 | _=>false
abbrev BI:SV->Bool
 | .c x=>lH x
 | .agg xs=>allL lH xs
 | _=>true
abbrev tY:aW->Bool
 | .one v=>BI v
 | .gY vs=>allL BI vs
abbrev qN(ws seen:List Nat):List (Nat×Gd×aW)->List (Nat×Gd×aW)
 | []=>[]
 | (k,g,e) :: l=>match ji k seen with
   | true=>qN ws seen l
   | false=>match ji k ws with
     | true=>qN ws (k :: seen) l
     | false=>match dL (isNil g) (tY e) with
       | true=>(k,g,e) :: qN ws (k :: seen) l
       | false=>qN ws (k :: seen) l
abbrev keepR(n:Nat) (ws seen:List Nat):List (Nat×Gd×aW)->List (Nat×SV)
 | []=>[]
 | (k,g,e) :: l=>match ji k seen with
   | true=>keepR n ws seen l
   | false=>match ji k ws with
     | true=>keepR n ws (k :: seen) l
     | false=>match isNil g with
       | true=>match e with
         | .one (.c (.own i off))=>match Nat.ble (i+1) n with
           | true=>(k,.c (.own i off)) :: keepR n ws (k :: seen) l
           | false=>keepR n ws (k :: seen) l
         | .one (.c (.row i))=>match Nat.ble (i+1) n with
           | true=>(k,.c (.row i)) :: keepR n ws (k :: seen) l
           | false=>keepR n ws (k :: seen) l
         | _=>keepR n ws (k :: seen) l
       | false=>keepR n ws (k :: seen) l
abbrev FU(s:St):List (Nat×SV)->Bool
 | []=>true
 | (k,.c (.own i off)) :: l=>match iJ s.env k with
   | some ([],.one (.c (.own i' off')))=>dL (dL (Nat.beq i i') (Nat.beq off off')) (FU s l)
   | _=>false
 | (k,.c (.row i)) :: l=>match iJ s.env k with
   | some ([],.one (.c (.row i')))=>dL (Nat.beq i i') (FU s l)
   | _=>false
 | _=>false
abbrev FV:List (Nat×SV)->List (Nat×Gd×aW)
 | []=>[]
 | (k,v) :: l=>(k,[],.one v) :: FV l
abbrev kT:List (Nat×aj)->List (Gd×aj)->List (Gd×aj)
 | [],T=>T
 | (i,r) :: l,T=>kT l (dK T i ([],r))
abbrev ru(ws:List Nat) (s:St) (sl:List (Nat×SV)) (rs:List (Nat×aj)):St:=
 { env:=fD (FV sl) (fD (FV (keepR (aT s.T) ws [] s.env)) (qN ws [] s.env)),T:=kT rs s.T,gl:=[],gs:=[] }
abbrev ZN:SV->SV
 | .c x=>match x with
   | .abs (.Wy sh l)=>.c (.sl sh l)
   | x=>.c x
 | v=>v
abbrev Ib(s:St):List (Nat×SV)->Prop
 | []=>True
 | (k,v) :: l=>(match iJ s.env k with
   | some ([],.one u)=>ZN u=v
   | _=>False)/\Ib s l
abbrev xC(n:Nat) (T:List (Gd×aj)):Bool:=allL (λp=>dL (isNil p.1) (lY n p.2)) T
abbrev IQ(n:Nat) (ws:List Nat) (sl:List (Nat×SV)):Bool:=allL (λp=>dL (zN n p.2) (ji p.1 ws)) sl
abbrev ZO(s:St) (k:Nat) (t:TypeId) (sh:Sh):St:=match iJ s.env k with
 | some ([],.one (.c (.v (.slice none 0 0))))=>{ s with T:=snoc s.T ([],.row t sh []),env:=(k,[],.one (.c (.row (aT s.T)))) :: s.env,gs:=rmG s.gs k }
 | some ([],.one (.c (.own i 0)))=>match fE s.T i with
   | some ([],.blk t' [.v (.slice none 0 0)])=>{ s with T:=dK s.T i ([],.blk t' [.sl sh []]) }
   | _=>s
 | _=>s
abbrev KE(s:St) (k:Nat):St:=match iJ s.env k with
 | some ([],.one (.c (.row r)))=>ND s r
 | some ([],.one (.c (.abs (.Wy sh l))))=>{ s with env:=(k,[],.one (.c (.sl sh l))) :: s.env,gs:=rmG s.gs k }
 | _=>s
abbrev sH(s:St):List Nat->St
 | []=>s
 | k :: l=>sH (KE s k) l
theorem Sat.sH{N:Nat}{B:Base}{h0:FH}{w:World}{a:Act}{β:List RV}:∀(l:List Nat){s:St}{h:FH},Sat N B h0 s h β w a->∃h',h.le h'/\Sat N B h0 (sH s l) h' β w a
 | [],s,h,ak=>⟨h,FH.le.refl h,ak⟩
 | k :: l,s,h,ak=>by
   have h1:∃h',h.le h'/\Sat N B h0 (KE s k) h' β w a:=by
    unfold KE;split
    .exact ak.akL _
    .rename_i sh l hk;refine⟨h,FH.le.refl h,ak.ok,?_,?_,ak.defers,ak.sz,?_,ak.gT⟩
     .intro t' G e ht;rw[bF]at ht;split at ht
      .rename_i hkt;subst hkt;cases ht;obtain⟨z,z1,z2,z3⟩:=ak.env k _ _ hk;have c:dJ h β (.c (.abs (.Wy sh l))) z:=z2 rfl;exact⟨z,z1,λ_=>⟨c.1.1,c.2⟩,λhh=>by cases hh⟩
      .exact ak.env t' G e ht
     .intro d i hi;obtain⟨hne,hi⟩:=Bc _ _ _ _ hi;obtain⟨G,b,q1,q2⟩:=ak.gs d i hi;exact⟨G,b,by rw[bF,if_neg (Ne.symm hne)];exact q1,q2⟩
     .intro t' G e ht;rw[bF]at ht;split at ht
      .cases ht;rfl
      .exact ak.gb _ _ _ ht
    .exact⟨h,FH.le.refl h,ak⟩
   obtain⟨h1,le1,jE⟩:=h1;obtain⟨h2,iK,bM⟩:=Sat.sH l jE;exact⟨h2,le1.trans iK,bM⟩
abbrev IU(s:St):List (Nat×TypeId×Sh)->St
 | []=>s
 | (k,t,sh) :: l=>IU (ZO s k t sh) l
theorem Sat.ZO{N:Nat}{B:Base}{h0:FH}{s:St}{h:FH}{β:List RV}{w:World}{a:Act} (ak:Sat N B h0 s h β w a) (k:Nat) (t:TypeId) (sh:Sh):∃β',Sat N B h0 (ZO s k t sh) h β' w a:=by
 unfold jw.ZO;split
 .rename_i hk;obtain⟨z,z1,z2,_⟩:=ak.env k _ _ hk;have ez:z=.slice none 0 0:=(z2 rfl:dJ h β (.c (.v (.slice none 0 0))) z).1.1;subst ez;have ok:OK B h0 (eff s.gl (snoc s.T ([],.row t sh []))) h (β++[.row (.slice none 0 0)]) w:=by
   rw[je];exact ak.ok.add (r:=.row t sh []) (v:=.row (.slice none 0 0)) (dD w none) (λb hb=>by rw[bG]at hb;simp[aC]at hb) (.inl ⟨rfl,rfl⟩)
  have gT:∀p∈snoc s.T (([]:Gd),aj.row t sh []),wC s.gl.length p.1=true:=by
   intro p hp;rw[iY,Du]at hp;rcases hp with hp | hp
   .exact ak.gT p hp
   .simp at hp;subst hp;rfl
  have sm:=ak.mem ok (FH.le.refl h) (Ext.append _ _) gT;refine⟨_,ok,?_,?_,ak.defers,ak.sz,?_,gT⟩
  .intro t' G e ht;rw[bF]at ht;split at ht
   .rename_i hkt;subst hkt;cases ht;refine⟨_,z1,λ_=>⟨?_,rfl,rfl⟩,λhh=>by cases hh⟩
    refine⟨.row (.slice none 0 0),?_,rfl⟩;have:aT s.T=β.length:=by rw[ak.ok.len,jA,bI]
    rw[this];simp
   .exact sm.env t' G e ht
  .intro d i hi;obtain⟨hne,hi⟩:=Bc _ _ _ _ hi;obtain⟨G,b,q1,q2⟩:=ak.gs d i hi;exact⟨G,b,by rw[bF,if_neg (Ne.symm hne)];exact q1,q2⟩
  .intro t' G e ht;rw[bF]at ht;split at ht
   .cases ht;rfl
   .exact ak.gb _ _ _ ht
 .rename_i i hk;split
  .rename_i t' hT;refine⟨β,?_,ak.env,ak.gs,ak.defers,ak.sz,ak.gb,?_⟩
   .show OK B h0 (eff s.gl (dK s.T i ([],.blk t' [.sl sh []]))) h β w;rw[gq];refine ak.ok.QY (bK hT (show gv s.gl []=true from rfl)) rfl λv hv=>?_
    cases v with
    | blk b=>
      obtain⟨ys,e1,al⟩:=hv;refine⟨ys,e1,?_⟩;cases ys with
      | nil=>exact al.elim
      | cons y ys=>
        cases ys with
        | cons _ _=>exact al.2.elim
        | nil=>
          obtain⟨⟨c,o⟩,_⟩:=al;obtain rfl:y=.slice none 0 0:=c.1;exact⟨⟨.inl ⟨rfl,rfl⟩,o⟩,trivial⟩
    | row _=>exact hv.elim
    | deep _ _=>exact hv.elim
    | no=>exact hv.elim
   .intro p hp;rw[gI]at hp;rcases MF hp with hp | hp
    .exact ak.gT p hp
    .subst hp;rfl
  .exact⟨β,ak⟩
 .exact⟨β,ak⟩
theorem Sat.IU{N:Nat}{B:Base}{h0 h:FH}{w:World}{a:Act}:∀(l:List (Nat×TypeId×Sh)){s:St}{β:List RV},Sat N B h0 s h β w a->∃β',Sat N B h0 (IU s l) h β' w a
 | [],s,β,ak=>⟨β,ak⟩
 | (k,t,sh) :: l,s,β,ak=>by
   obtain⟨β1,jE⟩:=ak.ZO k t sh;exact Sat.IU l jE
abbrev apC(body:St->(Exit->St->Prop)->Prop) (ws:List Nat) (la:LA) (s:St) (K:Exit->St->Prop):Prop:=
 (∃x,la.inv x/\Ib s (la.slots x)/\s.T=kT (la.res x) s.T) /\
 ∀x,la.inv x->match dL (xC (aT s.T) (kT (la.res x) s.T)) (IQ (aT s.T) ws (la.slots x)) with
   | false=>False
   | true=>body (ru ws s (la.slots x) (la.res x)) λe s'=>match e with
     | .normal=>match FU (uQ la.can (oI la.ren s')) (keepR (aT s.T) ws [] s.env) with
       | true=>∃x',la.inv x'/\Ib (uQ la.can (oI la.ren s')) (la.slots x')/\rH (aT s.T) (uQ la.can (oI la.ren s')).T=kT (la.res x') s.T/\la.meas x' < la.meas x
       | false=>False
     | e=>K e s'
abbrev KF(body:St->(Exit->St->Prop)->Prop):Nat->St->(Exit->St->Prop)->Prop
 | 0,_,_=>False
 | n+1,s,K=>body s λe s'=>match e with
   | .normal=>KF body n s' K
   | e=>K e s'
abbrev ae9(E:Env) (c:Code) (s:St):Option iE:=match E.ann (keyOf c) with
 | some f=>some (f s)
 | none=>none
abbrev UD(s:St) (t:Nat):Int:=match iJ s.env t with
 | some (_,.one (.c (.v (.int _ n))))=>n
 | _=>0
abbrev ZP(s:St) (t:Nat):ByteArray:=match iJ s.env t with
 | some (_,.one (.c (.v (.string b))))=>b
 | _=>ByteArray.empty
abbrev slotL(sh:Sh) (s:St) (t:Nat):List sh.den:=match iJ s.env t with
 | some (_,.one v)=>match QF s sh v with
   | some l=>l
   | none=>[]
 | _=>[]
abbrev sJ(sh:Sh) (s:St) (t:Nat):sh.den:=match iJ s.env t with
 | some (_,.one (.c (.own k _)))=>match fE s.T k with
   | some (_,r)=>match BA sh r with
     | some v=>match toDat sh v with
       | some d=>d
       | none=>dflt sh
     | none=>dflt sh
   | none=>dflt sh
 | _=>dflt sh
abbrev br(b:Bool) (X Y:Prop):Prop:=match b with
 | true=>X
 | false=>Y
theorem ah{b:Bool}{X Y:Prop}:br b X Y↔(b=true->X)/\(b=false->Y):=by cases b<;>simp[br]
abbrev Ob:(ps:List Nat)->(ss:List Sh)->dh ss->List (Nat×Gd×aW)
 | p :: ps,s :: ss,d=>(p,[],.one (iP s d.1)) :: Ob ps ss d.2
 | _,_,_=>[]
abbrev xE(n:Nat):List Nat->List Sh->Bool
 | [],[]=>true
 | p :: ps,_ :: ss=>dL (dL (Nat.ble (p+1) n) (!(ji p ps))) (xE n ps ss)
 | _,_=>false
abbrev rdE(ws dr:List Nat) (s:St):List (Nat×Gd×aW):=fD (FV (keepR (aT s.T) ws [] s.env)) (qN dr [] s.env)
abbrev Rn(n:Nat) (body:St->(Exit->St->Prop)->Prop) (ws:List Nat) (ra:RA) (ps:List Nat) (ss:List Sh) (L:List (dh ss)) (s:St) (K:Exit->St->Prop):Prop:=
 match xE n ps ss with
 | false=>False
 | true=>
 (∃x,ra.inv 0 x/\s.T=kT (ra.res x) s.T) /\
 (∀i x d,ra.inv i x->L[i]?=some d->match xC (aT s.T) (kT (ra.res x) s.T) with
  | false=>False
  | true=>body { env:=fD (Ob ps ss d) (rdE ws (fD ra.drop ps) s),T:=kT (ra.res x) s.T,gl:=[],gs:=[] } λe s'=>match FU s' (keepR (aT s.T) ws [] s.env) with
    | false=>False
    | true=>match e with
      | .normal=>∃x',ra.inv (i+1) x'/\rH (aT s.T) s'.T=kT (ra.res x') s.T
      | .ret=>K .ret { env:=rdE ws ra.drop s,T:=s'.T,gl:=s'.gl,gs:=[] }
      | .exit j=>K (.exit j) { env:=rdE ws ra.drop s,T:=s'.T,gl:=s'.gl,gs:=[] }
      | _=>False) /\
 ∀x,ra.inv (aT L) x->match xC (aT s.T) (kT (ra.res x) s.T) with
   | false=>False
   | true=>K .normal { env:=rdE ws ra.drop s,T:=kT (ra.res x) s.T,gl:=[],gs:=[] }
abbrev uK(s:St) (Hq uT:List Nat) (nl:List (Nat×TypeId×Sh)) (pX:List (Nat×Nat×TypeId×Sh)) (dp:List (Nat×TypeId×Sh×Nat)):St:=wO (II (IU (Bv (sH s Hq) uT) nl) pX) dp
theorem Sat.uK{N:Nat}{B:Base}{h0 h:FH}{w:World}{a:Act}{s:St}{β:List RV} (ak:Sat N B h0 s h β w a) (Hq uT:List Nat) (nl:List (Nat×TypeId×Sh)) (pX:List (Nat×Nat×TypeId×Sh)) (dp:List (Nat×TypeId×Sh×Nat)):∃h' β',h.le h'/\Sat N B h0 (uK s Hq uT nl pX dp) h' β' w a:=by
 obtain⟨h1,le1,jE⟩:=Sat.sH Hq ak;obtain⟨h2,β2,iK,bM⟩:=Sat.Bv (l:=uT) jE;obtain⟨β3,Ro⟩:=Sat.IU nl bM;obtain⟨β4,ZQ⟩:=Sat.II pX Ro;obtain⟨β5,ar5⟩:=Sat.wO dp ZQ;exact⟨h2,β5,le1.trans iK,ar5⟩
abbrev yA:Nat->St->St
 | 0,s=>s
 | n+1,s=>yA n { s with T:=snoc s.T ([],.gone) }
theorem Sat.yA{N:Nat}{B:Base}{h0 h:FH}{w:World}{a:Act}:∀(n:Nat){s:St}{β:List RV},Sat N B h0 s h β w a->∃β',Sat N B h0 (yA n s) h β' w a
 | 0,s,β,ak=>⟨β,ak⟩
 | n+1,s,β,ak=>by
   refine Sat.yA n (β:=β++[.no]) (s:={ s with T:=snoc s.T ([],.gone) }) ?_
   refine ak.mem ?_ (FH.le.refl h) (Ext.append _ _) λp hp=>?_
   .rw[je];exact ak.ok.add (r:=.gone) (v:=.no) (dD w none) (λb hb=>(Qq hb).elim) trivial
   .rw[iY,Du]at hp;rcases hp with hp | hp
    .exact ak.gT p hp
    .simp at hp;subst hp;rfl
abbrev ar6(E:Env) (c:Code) (s:St):Option LA:=match ae9 E c s with
 | some (.cut la)=>some la
 | _=>none
abbrev apD(ws:List Nat) (la:LA) (s s':St):Prop:=match FU (uQ la.can (oI la.ren (uK s' la.Hq la.uT la.nil la.pX la.deep))) (keepR (aT s.T) ws [] s.env) with
 | true=>∃v,la.inv v/\Ib (uQ la.can (oI la.ren (uK s' la.Hq la.uT la.nil la.pX la.deep))) (la.slots v)/\rH (aT s.T) (uQ la.can (oI la.ren (uK s' la.Hq la.uT la.nil la.pX la.deep))).T=kT (la.res v) s.T
 | false=>False
abbrev jF:Env->Code->St->(Exit->St->Prop)->Prop
 | E,.skip,s,K=>K .normal s
 | E,.region _ ops draw,s,K=>match DF (tl ops) with
   | false=>False
   | true=>match draw with
     | false=>ae5 E (tl ops) (tl ops) s λs=>K .normal (clean s)
     | true=>match BF E.cx (tl ops) with
       | true=>match ae7 ops with
         | true=>Xr E (tl ops) (tl ops) s λs=>K .normal (clean s)
         | false=>False
       | false=>match orB E.cx.rt (N9 E (tl ops)) with
         | true=>match zL ops with
           | some l=>qZ E (tl ops) l s λs=>K .normal (clean s)
           | none=>False
         | false=>match wP ops with
           | some l=>sG E (tl ops) l s λs=>K .normal (clean s)
           | none=>False
 | E,.seq x y,s,K=>match ar6 E y s with
   | some la=>(jF E x (yA la.pad s) λe s'=>match e with
    | .normal=>apD (fD la.drop (writes x)) la (yA la.pad s) s'
    | e=>K e s')/\∀v,la.inv v->match dL (xC (aT (yA la.pad s).T) (kT (la.res v) (yA la.pad s).T)) (IQ (aT (yA la.pad s).T) (fD la.drop (writes x)) (la.slots v)) with
      | false=>False
      | true=>jF E y (ru (fD la.drop (writes x)) (yA la.pad s) (la.slots v) (la.res v)) K
   | none=>jF E x s λe s'=>match e with
     | .normal=>jF E y s' K
     | e=>K e s'
 | E,.cond c x y,s,K=>match bW E.cx s [] c with
   | some (.one (.c (.v (.bool b))))=>br b (jF E x s K) (jF E y s K)
   | _=>False
 | E,.block id c,s,K=>jF E c s λe s'=>match e with
   | .exit i=>match Nat.beq i id with
     | true=>K .normal s'
     | false=>K (.exit i) s'
   | e=>K e s'
 | E,.loop c,s,K=>match ae9 E c s with
   | some (.inv la)=>apC (jF E c) (fD la.drop (writes c)) la (yA la.pad (uK s la.Hq la.uT la.nil la.pX la.deep)) K
   | some (.FB n)=>KF (jF E c) n s K
   | _=>False
 | E,.rangeFunc g ps Hr c,s,K=>match E.rd with
   | true=>False
   | false=>match bW E.cx s [] g with
     | some (.one (.c (.abs (.seq P' ss L))))=>match ae9 E c s with
       | some (.rng ra)=>E.P=some P'/\Rn E.n (λs K=>jF { E with rd:=true } Hr s λe s'=>match e with
         | .normal=>jF { E with rd:=true } c s' K
         | _=>False) (fD ra.drop (fD (tl ps) (fD (writes Hr) (writes c)))) ra (tl ps) ss L (uK s ra.Hq ra.uT ra.nil ra.pX ra.deep) K
       | _=>False
     | _=>False
 | E,.exit i,s,K=>K (.exit i) s
 | E,.ret,s,K=>K .ret s
 | _,_,_,_=>False
abbrev yB(D:Nat):Deferred:={ target:=.collected D,args:=#[] }
theorem afb(w:World) (a b:Obj) (G:Nat->Prop):Gs G w ((w.alloc a).alloc b):=
 ⟨rfl,rfl,rfl,by simp;omega,qw _,λk hk _=>by
  rw[Below.heap_alloc _ _ _ (by simp;omega),Below.heap_alloc _ _ _ hk]⟩
def ak4(A:World) (l D:Nat) (G:Nat->Prop) (I:World->Prop) (Ix:Code->World->Prop):Exit->Act->World->Prop
 | .normal,_,A'=>(∀b,b=l\/b=D\/G b->A'.heap[b]?=A.heap[b]?)/\I A'
 | .ret,_,A'=>(∀b,b=l\/b=D\/G b->A'.heap[b]?=A.heap[b]?)/\Ix .ret A'
 | .exit id,_,A'=>(∀b,b=l\/b=D\/G b->A'.heap[b]?=A.heap[b]?)/\Ix (.exit id) A'
 | .goto t,_,_=>False
 | .panic _,_,_=>False
 | .outgrown,_,_=>False
theorem Xt{ss:List Sh}{L:List (dh ss)}{g:Operand}{ps:Array Tmp}{Hr:Code}
 (gv:Gives P h ss L (a.eval g)) (hps:ps.size=ss.length)
 (I:Nat->(Nat->Prop)->World->Prop) (Ix:Code->(Nat->Prop)->World->Prop) (hI:∀i G A,I i G A->HW h A) (hX:∀c G A,Ix c G A->HW h A)
 (hIg:∀i G G' A A',I i G A->Gs G A A'->Own' G G' A A'->I i G' A') (hXg:∀c G G' A A',Ix c G A->Gs G A A'->Own' G G' A A'->Ix c G' A')
 (hIp:∀i G A l o o',I i G A->w.heap.size<=l->A.heap[l]?=some o->ours o=false->I i G (A.putObj l o'))
 (hXp:∀c G A l o o',Ix c G A->w.heap.size<=l->A.heap[l]?=some o->ours o=false->Ix c G (A.putObj l o'))
 (h0:I 0 (λ_=>False) w)
 (hbody:∀(i:Nat) (d:dh ss) (vs:List Value) (G:Nat->Prop) (A:World) (l:Nat) (o1 Xu o2:Obj),L[i]?=some d->CG h ss d vs->I i G A->w.heap.size < l->A.heap[l]?=some o1->ours o1=false->ours Xu=false->A.heap[w.heap.size]?=some o2->ours o2=false->¬G l ->
  Hr.wpIn (Fence.wide.inRound l) 0 P (Exit.then (λa1 A1=>(∀b,b=l\/b=w.heap.size\/G b->A1.heap[b]?=A.heap[b]?) /\
   body.wpIn (Fence.wide.inRound l) 0 P (ak4 (A1.putObj l Xu) l w.heap.size G (I (i+1) G) (λc=>Ix c G)) a1 (A1.putObj l Xu)) (λ_ _ _=>False)) { tmps:=(ps.zip vs.toArray).foldl (λt (p,v)=>t.setIfInBounds p v) a.tmps,defers:=[] } A)
 (hdone:∀G A,I L.length G A->A.heap[w.heap.size]?=some (.deferred (some []))->Q .normal { a with defers:=yB w.heap.size :: a.defers } A)
 (hret:∀G A,Ix .ret G A->A.heap[w.heap.size]?=some (.deferred (some []))->Q .ret { a with defers:=yB w.heap.size :: a.defers } A)
 (apE:∀j G A,Ix (.exit j) G A->A.heap[w.heap.size]?=some (.deferred (some []))->Q (.exit j) { a with defers:=yB w.heap.size :: a.defers } A):
 (Code.rangeFunc g ps Hr body).wpIn Fence.wide n P Q a w:=by
 refine wpIn_rangeFunc λfn hfn=>?_
 obtain⟨gf,lb,hg,⟨fng,hfg,hbg,hng⟩,gives⟩:=gv;obtain⟨rec,hrec⟩:∃rec:LoopState->Option Code->Loop,rec=λst pe=>{ state:=st,pending:=pe,fn,tmps:=a.tmps,params:=ps,assign:=Hr,body,defers:=w.heap.size }:=⟨_,rfl⟩
 obtain⟨W1,hW1⟩:∃W1,(w.alloc (.deferred (some []))).alloc (.loop (rec .ready none))=W1:=⟨_,rfl⟩;have hL1:W1.heap[w.heap.size+1]?=some (.loop (rec .ready none)):=by
  rw[<-hW1];have:=World.alloc_heap_new (w.alloc (.deferred (some []))) (.loop (rec .ready none));rwa [World.size_alloc]at this
 have hD1:W1.heap[w.heap.size]?=some (.deferred (some [])):=by
  rw[<-hW1];exact(Below.heap_alloc _ _ _ (by simp)).trans (World.alloc_heap_new w _)
 have hI1:I 0 (λ_=>False) W1:=hIg 0 _ _ _ _ h0 (by rw[<-hW1];exact afb w _ _ _) (λb hb=>hb.elim)
 have kd:∀{G G':Nat->Prop}{A A':World}{k:Nat}{o:Obj},A.heap[k]?=some o->¬G k->Gs G A A'->Own' G G' A A'->A'.heap[k]?=some o/\¬G' k:=λhk hn hgs ho=>
  ⟨(hgs.block _ (Eo.1 hk).1 hn).trans hk,λhh=>by
    have h1:=(Eo.1 hk).1;rcases(ho _ hh).2 with h2 | h2
    .exact hn h2
    .omega⟩
 refine⟨w.heap.size+1,[yB w.heap.size],W1,{ target:=.fn (.func gf) lb,args:=#[.func (.yield (w.heap.size+1)) #[] #[]] },W1,gf,
  #[.func (.yield (w.heap.size+1)) #[] #[]]++lb,W1,?_,?_,?_,?_,λhh=>(by cases hh),?_⟩
 .rw[<-hW1,hrec];exact run_enterLoop_outer _ _ _ _ _
 .simp only[resolve,hg];simp[go_sem]
 .intro f' hf';trivial
 .have e:(callFunc gf (#[.func (.yield (w.heap.size+1)) #[] #[]]++lb)).run P W1=.ok (.enter gf (#[.func (.yield (w.heap.size+1)) #[] #[]]++lb)) W1:=by
   simp only[callFunc,Sem.run_bind,run_program,Result.andThen_ok,hfg,hng];simp[hbg];cases hb:fng.body with
   | none=>rw[hb]at hbg;cases hbg
   | some _=>simp
  simp[invoke,go_sem,e]
 .have hc:=gives (w.heap.size+1)
   (λi G A=>match i with
    | some i=>I i G A/\(A.heap[w.heap.size+1]?=some (.loop (rec .ready none))/\¬G (w.heap.size+1))/\(A.heap[w.heap.size]?=some (.deferred (some []))/\¬G w.heap.size)
    | none=>∃c,(c=.ret\/∃j,c=.exit j)/\Ix c G A/\(A.heap[w.heap.size+1]?=some (.loop (rec .done (some c)))/\¬G (w.heap.size+1))/\(A.heap[w.heap.size]?=some (.deferred (some []))/\¬G w.heap.size)) W1
   (λi G A x=>by
    cases i with
    | some i=>exact hI i G A x.1
    | none=>obtain⟨c,_,x1,_⟩:=x;exact hX c G A x1)
   (λi G G' A A' x hgs ho=>by
    cases i with
    | some i=>exact⟨hIg i _ _ _ _ x.1 hgs ho,kd x.2.1.1 x.2.1.2 hgs ho,kd x.2.2.1 x.2.2.2 hgs ho⟩
    | none=>
      obtain⟨c,hc,x1,x2,x3⟩:=x;exact⟨c,hc,hXg c _ _ _ _ x1 hgs ho,kd x2.1 x2.2 hgs ho,kd x3.1 x3.2 hgs ho⟩)
   (λi d vs G A hd hv x=>by
    obtain⟨x1,⟨x2,y2n⟩,x3,y3n⟩:=x;have iT:w.heap.size+1 < A.heap.size:=(Eo.1 x2).1;have hvl:vs.length=ss.length:=by
     have:∀{ss:List Sh}{d:dh ss}{vs:List Value},CG h ss d vs->vs.length=ss.length:=by
      intro ss
      induction ss with
      | nil=>intro d vs x;cases vs with | nil=>rfl | cons _ _=>exact x.elim
      | cons s l ih=>intro d vs x;cases vs with | nil=>exact x.elim | cons v vs=>simp[ih x.2]
     exact this hv
    have hy:=run_yield (P:=P) (args:=vs.toArray) x2 (by rw[hrec];simp[hps,hvl])
    rw[hrec]at hy;refine⟨fn,_,Hr,body,hy,(roundIn_of_wpIn (F:=Fence.wide) (n:=0) trivial ?_:RoundIn Fence.wide _ P _ _ _ _ _ _ _)⟩;refine wpIn_mono (hbody i d vs G A (w.heap.size+1) _ (.loop { rec .ready none with state:=.busy }) _ hd hv x1 (by omega) x2 rfl rfl x3 rfl y2n) ?_
    intro e0 a1 A1 h1;cases e0 with
    | exit j=>exact h1
    | goto j=>exact h1
    | ret=>exact h1
    | panic c=>exact h1
    | outgrown=>exact h1
    | normal=>
    obtain⟨k1,h1⟩:=h1;have z2:A1.heap[w.heap.size+1]?=some (.loop (rec .ready none)):=(k1 _ (.inl rfl)).trans x2;have z3:A1.heap[w.heap.size]?=some (.deferred (some [])):=(k1 _ (.inr (.inl rfl))).trans x3;have hlt1:w.heap.size+1 < A1.heap.size:=(Eo.1 z2).1;refine⟨_,run_beginRound z2 (by rw[hrec]),?_⟩
    have y2:(A1.putObj (w.heap.size+1) (.loop { rec .ready none with state:=.busy })).heap[w.heap.size+1]?=some (.loop { rec .ready none with state:=.busy }):=World.putObj_heap_same hlt1
    have y3:(A1.putObj (w.heap.size+1) (.loop { rec .ready none with state:=.busy })).heap[w.heap.size]?=some (.deferred (some [])):=(World.putObj_heap_other (by omega)).trans z3
    have fin:∀(jump:Option Code) (A3:World),A3.heap[w.heap.size+1]?=some (.loop { rec .ready none with state:=.busy })->A3.heap[w.heap.size]?=some (.deferred (some [])) ->
     (Instr.endRound (w.heap.size+1) jump).run P A3=.ok (.bool jump.isNone) (A3.putObj (w.heap.size+1) (.loop (rec (if jump.isNone then .ready else .done) jump))) /\
     (A3.putObj (w.heap.size+1) (.loop (rec (if jump.isNone then .ready else .done) jump))).heap[w.heap.size+1]?=some (.loop (rec (if jump.isNone then .ready else .done) jump)) /\
     (A3.putObj (w.heap.size+1) (.loop (rec (if jump.isNone then .ready else .done) jump))).heap[w.heap.size]?=some (.deferred (some [])):=λjump A3 h3 h4=>by
     have:=run_endRound (P:=P) jump h3;rw[hrec]at this ⊢;exact⟨this,World.putObj_heap_same (Eo.1 h3).1,(World.putObj_heap_other (by omega)).trans h4⟩
    have kg:∀(A3:World) (o':Obj),(∀b,b=w.heap.size+1\/b=w.heap.size\/G b->A3.heap[b]?=(A1.putObj (w.heap.size+1) (.loop { rec .ready none with state:=.busy })).heap[b]?)->∀b,G b->(A3.putObj (w.heap.size+1) o').heap[b]?=A.heap[b]?:=by
     intro A3 o' hk b hb;have hne:b≠w.heap.size+1:=by rintro rfl;exact y2n hb
     rw[World.putObj_heap_other hne,hk b (.inr (.inr hb)),World.putObj_heap_other hne,k1 b (.inr (.inr hb))]
    refine wpIn_mono h1 ?_;rintro e a3 A3 hp;cases e with
    | normal=>
      obtain⟨p0,p3⟩:=hp;have p1:=p0 _ (.inl rfl);have p2:=p0 _ (.inr (.inl rfl));rw[y2]at p1;rw[y3]at p2;obtain⟨q1,q2,q3⟩:=fin none A3 p1 p2;exact⟨_,_,q1,kg A3 _ p0,.inl ⟨rfl,hIp _ _ _ _ _ _ p3 (by omega) p1 rfl,⟨q2,y2n⟩,q3,y3n⟩⟩
    | ret=>
      obtain⟨p0,p3⟩:=hp;have p1:=p0 _ (.inl rfl);have p2:=p0 _ (.inr (.inl rfl));rw[y2]at p1;rw[y3]at p2;obtain⟨q1,q2,q3⟩:=fin (some .ret) A3 p1 p2;exact⟨_,_,q1,kg A3 _ p0,.inr ⟨rfl,.ret,.inl rfl,hXp _ _ _ _ _ _ p3 (by omega) p1 rfl,⟨q2,y2n⟩,q3,y3n⟩⟩
    | exit id=>
      obtain⟨p0,p3⟩:=hp;have p1:=p0 _ (.inl rfl);have p2:=p0 _ (.inr (.inl rfl));rw[y2]at p1;rw[y3]at p2;obtain⟨q1,q2,q3⟩:=fin (some (.exit id)) A3 p1 p2;exact⟨_,_,q1,kg A3 _ p0,.inr ⟨rfl,.exit id,.inr ⟨id,rfl⟩,hXp _ _ _ _ _ _ p3 (by omega) p1 rfl,⟨q2,y2n⟩,q3,y3n⟩⟩
    | goto t=>exact hp.elim
    | panic ch=>exact hp.elim
    | outgrown=>exact hp.elim)
   ⟨hI1,⟨hL1,λhh=>hh⟩,hD1,λhh=>hh⟩
  refine CallsIn.mono (F:=Fence.wide) (n:=n - 1) (callsIn_wide.2 (callsIn_wide.1 hc)) ?_;rintro e W2 ⟨⟨v,rfl⟩,G,hJ⟩;rcases hJ with⟨x1,⟨x2,_⟩,x3,_⟩ | ⟨c,hc,x1,⟨x2,_⟩,x3,_⟩
  .refine⟨none,_,by have:=run_endLoop (P:=P) x2 (by rw[hrec];simp);rw[hrec]at this;exact this,?_⟩
   exact hdone G _ (hIp _ _ _ _ _ _ x1 (by omega) x2 rfl) ((World.putObj_heap_other (by omega)).trans x3)
  .refine⟨some c,_,by have:=run_endLoop (P:=P) x2 (by rw[hrec];simp);rw[hrec]at this;exact this,?_⟩
   have y1:=hXp _ _ _ _ _ (.loop { rec .done (some c) with state:=.exhausted }) x1 (show w.heap.size<=w.heap.size+1 by omega) x2 rfl
   have y3:(W2.putObj (w.heap.size+1) (.loop { rec .done (some c) with state:=.exhausted })).heap[w.heap.size]?=some (.deferred (some [])):=(World.putObj_heap_other (by omega)).trans x3
   rw[hrec]at y1 y3;rcases hc with rfl | ⟨j,rfl⟩
   .exact wpIn_ret (hret G _ y1 y3)
   .exact wpIn_exit (apE _ G _ y1 y3)
theorem qO:∀{l m:List (Nat×Gd×aW)}{t:Nat},iJ (fD l m) t=match iJ l t with | some x=>some x | none=>iJ m t
 | [],m,t=>rfl
 | (k,x) :: l,m,t=>by
   rw[show fD ((k,x) :: l) m=(k,x) :: fD l m from rfl,bF,bF]
   split
   .rfl
   .exact qO
theorem o7:∀{l:List (Nat×SV)}{t:Nat}{G:Gd}{e:aW},iJ (FV l) t=some (G,e)->∃v,e=.one v/\G=[]/\(t,v)∈l
 | [],_,_,_,h=>by simp[FV,iJ]at h
 | (k,v) :: l,t,G,e,h=>by
   simp only[FV]at h;rw[bF]at h;split at h
   .rename_i hk;subst hk;cases h;exact⟨v,rfl,rfl,by simp⟩
   .obtain⟨u,h1,h2,h3⟩:=o7 h;exact⟨u,h1,h2,by simp[h3]⟩
theorem lI{ws:List Nat}:∀{l:List (Nat×Gd×aW)}{seen:List Nat}{t:Nat}{G:Gd}{e:aW},iJ (qN ws seen l) t=some (G,e) ->
 ji t seen=false/\ji t ws=false/\iJ l t=some (G,e)/\G=[]/\tY e=true
 | [],_,_,_,_,h=>by simp[qN,iJ]at h
 | (k,g,e0) :: l,seen,t,G,e,h=>by
   have skip:iJ (qN ws (k :: seen) l) t=some (G,e)->ji t seen=false/\ji t ws=false/\iJ ((k,g,e0) :: l) t=some (G,e)/\G=[]/\tY e=true:=by
    intro h;obtain⟨h1,h2,h3,h4⟩:=lI h;rw[jK,lM]at h1;refine⟨h1.2,h2,?_,h4⟩;rw[bF,if_neg]
    .exact h3
    .rintro rfl;exact Yi h1.1 rfl
   unfold qN at h;split at h
   .rename_i hm;obtain⟨h1,h2,h3,h4⟩:=lI h;refine⟨h1,h2,?_,h4⟩;rw[bF,if_neg]
    .exact h3
    .rintro rfl;rw[hm]at h1;cases h1
   .rename_i hm;split at h
    .exact skip h
    .rename_i hw;split at h
     .rename_i hc;rw[aF,cZ]at hc;rw[bF]at h;split at h
      .rename_i hk;subst hk;cases h;refine⟨hm,hw,by rw[bF,if_pos rfl],?_,hc.2⟩
       cases g with
       | nil=>rfl
       | cons _ _=>have:=hc.1;cases this
      .exact skip h
     .exact skip h
theorem Oc{s:St}:∀{l:List (Nat×SV)},Ib s l->∀p∈l,∃u,iJ s.env p.1=some ([],.one u)/\ZN u=p.2
 | [],_,p,hp=>by simp at hp
 | (k,v) :: l,⟨h1,h2⟩,p,hp=>by
   rcases nG.1 hp with rfl | hp
   .split at h1
    .rename_i u hu;exact⟨u,hu,h1⟩
    .cases h1
   .exact Oc h2 p hp
theorem afc{u v:SV}{z:Value} (e:ZN u=v) (hv:dJ h β' v z\/dJ h β u z) (hb:u=v->dJ h β u z->dJ h β' v z):dJ h β' v z:=by
 rcases hv with hv | hu
 .exact hv
 .unfold ZN at e;split at e
  .split at e
   .subst e;exact⟨hu.1.1,hu.2⟩
   .exact hb e hu
  .exact hb e hu
theorem sK{s:St}:∀{l:List (Nat×SV)},FU s l=true->∀p∈l,iJ s.env p.1=some ([],.one p.2)
 | [],_,p,hp=>by simp at hp
 | (k,.c (.own i off)) :: l,h,p,hp=>by
   simp only[FU]at h;split at h
   .rename_i i' off' hu;rw[aF,aF,cZ,cZ]at h;rcases nG.1 hp with rfl | hp
    .have e1:=iI h.1.1;have e2:=iI h.1.2;rw[hu,e1,e2]
    .exact sK h.2 p hp
   .cases h
 | (k,.c (.row i)) :: l,h,p,hp=>by
   simp only[FU]at h;split at h
   .rename_i i' hu;rw[aF,cZ]at h;rcases nG.1 hp with rfl | hp
    .have e1:=iI h.1;rw[hu,e1]
    .exact sK h.2 p hp
   .cases h
 | (k,.c (.v _)) :: l,h,p,hp=>by cases h
 | (k,.c (.sl _ _)) :: l,h,p,hp=>by cases h
 | (k,.c (.fp _ _)) :: l,h,p,hp=>by cases h
 | (k,.c (.kM _ _ _ _)) :: l,h,p,hp=>by cases h
 | (k,.c (.abs _)) :: l,h,p,hp=>by cases h
 | (k,.c .junk) :: l,h,p,hp=>by cases h
 | (k,.agg _) :: l,h,p,hp=>by cases h
 | (k,.dat _ _) :: l,h,p,hp=>by cases h
 | (k,.und) :: l,h,p,hp=>by cases h
theorem qP{n:Nat}{ws:List Nat}:∀{l:List (Nat×Gd×aW)}{seen:List Nat},∀p∈keepR n ws seen l,zN n p.2=true
 | [],_,p,hp=>by simp[keepR]at hp
 | (k,g,e) :: l,seen,p,hp=>by
   unfold keepR at hp
   repeat' (split at hp)
   all_goals first
    | exact qP p hp
    | (
     rcases nG.1 hp with rfl | hp
     .assumption
     .exact qP p hp)
theorem sN{n:Nat}{ws:List Nat}:∀{l:List (Nat×Gd×aW)}{seen:List Nat},∀p∈keepR n ws seen l,ji p.1 seen=false/\iJ l p.1=some ([],.one p.2)
 | [],_,p,hp=>by simp[keepR]at hp
 | (k,g,e) :: l,seen,p,hp=>by
   have apH:ji k seen=true->p∈keepR n ws seen l->ji p.1 seen=false/\iJ ((k,g,e) :: l) p.1=some ([],.one p.2):=by
    intro hm hp;obtain⟨h1,h2⟩:=sN p hp;refine⟨h1,?_⟩;rw[bF,if_neg]
    .exact h2
    .rintro rfl;rw[hm]at h1;cases h1
   have FW:p∈keepR n ws (k :: seen) l->ji p.1 seen=false/\iJ ((k,g,e) :: l) p.1=some ([],.one p.2):=by
    intro hp;obtain⟨h1,h2⟩:=sN p hp;rw[jK,lM]at h1;refine⟨h1.2,?_⟩;rw[bF,if_neg]
    .exact h2
    .rintro rfl;exact Yi h1.1 rfl
   unfold keepR at hp;split at hp
   .rename_i hm;exact apH hm hp
   .rename_i hm;split at hp
    .exact FW hp
    .split at hp
     .rename_i hn;have hg:g=[]:=by cases g with | nil=>rfl | cons _ _=>simp[isNil]at hn
      subst hg;split at hp
      .split at hp
       .rcases nG.1 hp with rfl | hp
        .exact⟨hm,by rw[bF,if_pos rfl]⟩
        .exact FW hp
       .exact FW hp
      .split at hp
       .rcases nG.1 hp with rfl | hp
        .exact⟨hm,by rw[bF,if_pos rfl]⟩
        .exact FW hp
       .exact FW hp
      .exact FW hp
     .exact FW hp
theorem lg{α:Type}{l:List α} (h:i < n):(l.take n)[i]?=l[i]?:=by
 rw[wu,if_pos h]
theorem eU.below:∀{x:SC}{y:Value},DL n x=true->eU h β x y->eU h (β.take n) x y
 | .v _,_,_,c=>c
 | .sl _ _,_,_,c=>c
 | .fp _ _,_,_,c=>c
 | .one _ _,_,_,c=>c
 | .own i _,_,f,⟨b,e,e'⟩=>⟨b,by rw[lg (by have:=qW f;omega)];exact e,e'⟩
 | .row i,_,f,⟨v,e,e'⟩=>⟨v,by rw[lg (by have:=qW f;omega)];exact e,e'⟩
 | .sub i _,_,f,⟨v,us,e,e'⟩=>⟨v,us,by rw[lg (by have:=qW f;omega)];exact e,e'⟩
 | .mQ i _ _ _ _,_,f,⟨v,us,g,e,e'⟩=>⟨v,us,g,by rw[lg (by have:=qW f;omega)];exact e,e'⟩
 | .kM i _ _ _,_,f,⟨v,g,e,e'⟩=>⟨v,g,by rw[lg (by have:=qW f;omega)];exact e,e'⟩
 | .abs _,_,_,c=>c
 | .junk,_,_,_=>trivial
theorem dJ.below{h:FH}{β:List RV}{n:Nat}:∀{x:SV}{y:Value},zN n x=true->dJ h β x y->dJ h (β.take n) x y
 | .c _,_,f,c=>⟨c.1.below f,c.2⟩
 | .agg _,_,f,⟨ys,e,a⟩=>⟨ys,e,a.allL (λ_ _ f ⟨p,q⟩=>⟨p.below f,q⟩) f⟩
 | .dat _ _,_,_,c=>c
 | .und,_,_,c=>c
theorem Holds.below{h:FH}{β:List RV}{w:World}{n:Nat}:∀{r:aj}{v:RV},lY n r=true->Holds h β w r v->Holds h (β.take n) w r v
 | .blk _ _,.blk _,f,⟨ys,e,a⟩=>⟨ys,e,a.allL (λ_ _ f ⟨p,q⟩=>⟨p.below f,q⟩) f⟩
 | .row _ _ _,.row _,_,c=>c
 | .obj _ _ _,.blk _,_,c=>c
 | .deep _ _ _ _ _ _ _ _,.deep _ _,_,c=>c
 | .mp _ _ _,.row _,_,c=>c
 | .P8 _ _ _ _,.deep _ _,_,c=>c
 | .it _ _ _ _,.blk _,_,c=>c
 | .MV _ _ _ _,.row _,_,c=>c
 | .Ip _ _ _ _,.deep _ _,_,c=>c
 | .gone,_,_,_=>trivial
theorem eU.lZ:∀{x:SC}{y:Value},lH x=true->eU h β x y->∀β',eU h β' x y
 | .v _,_,_,c=>λ_=>c
 | .sl _ _,_,_,c=>λ_=>c
 | .fp _ _,_,_,c=>λ_=>c
 | .abs _,_,_,c=>λ_=>c
 | .junk,_,_,_=>λ_=>trivial
 | .one _ _,_,_,c=>λ_=>c
 | .own _ _,_,f,_=>by simp[lH]at f
 | .row _,_,f,_=>by simp[lH]at f
 | .kM _ _ _ _,_,f,_=>by simp[lH]at f
 | .sub _ _,_,f,_=>by simp[lH]at f
 | .mQ _ _ _ _ _,_,f,_=>by simp[lH]at f
theorem dJ.lZ{h:FH}{β:List RV} (β':List RV):∀{x:SV}{y:Value},BI x=true->dJ h β x y->dJ h β' x y
 | .c _,_,f,c=>⟨c.1.lZ f β',c.2⟩
 | .agg _,_,f,⟨ys,e,a⟩=>⟨ys,e,a.allL (λ_ _ f ⟨p,q⟩=>⟨p.lZ f β',q⟩) f⟩
 | .dat _ _,_,_,c=>c
 | .und,_,_,c=>c
theorem kJ.lZ{h:FH}{β:List RV} (β':List RV):∀{x:aW}{y:Value},tY x=true->kJ h β x y->kJ h β' x y
 | .one _,_,f,c=>dJ.lZ β' f c
 | .gY _,_,f,⟨ys,e,a⟩=>⟨ys,e,a.allL (R':=dJ h β') (λ_ _ f c=>dJ.lZ β' f c) f⟩
theorem OK.take{B:Base}{h0:FH}{T:List aj}{h:FH}{β:List RV}{w:World} (ok:OK B h0 T h β w){n:Nat} (hn:n<=T.length) (below:∀r∈T.take n,lY n r=true):OK B h0 (T.take n) h (β.take n) w where
 below:=ok.below
 dr:=ok.dr
 len:=by simp[ok.len]
 holds:=by
  intro i r v e e';have hi:i < n:=by have:=(eX.1 e).1;simp at this;omega
  have hm:=below r (gQ e);rw[lg hi]at e e';exact(ok.holds i r v e e').below hm
 own:=by
  intro i r v b e l e' hb;have hi:i < n:=by have:=(eX.1 e).1;simp at this;omega
  rw[lg hi]at e e';exact ok.own i r v b e l e' hb
 inj:=by
  intro i j r r' u v b e l e' l' f f' hb hb';have hi:i < n:=by have:=(eX.1 e).1;simp at this;omega
  have hj:j < n:=by have:=(eX.1 e').1;simp at this;omega
  rw[lg hi]at e f;rw[lg hj]at e' f';exact ok.inj i j r r' u v b e l e' l' f f' hb hb'
 hle:=ok.hle
 hw:=ok.hw
 hg:=ok.hg
 kn:=ok.kn
theorem zO{α:Type}{p:α->Bool}:∀{l:List α},allL p l=true->∀x∈l,p x=true
 | [],_,x,hx=>by simp at hx
 | y :: l,h,x,hx=>by
   simp only[allL,aF,cZ]at h;rcases nG.1 hx with rfl | hx
   .exact h.1
   .exact zO h.2 x hx
theorem oN{gl:List Bool}:∀{T:List (Gd×aj)}{n:Nat},(∀p∈T.take n,p.1=[])->eff [] (T.take n)=(eff gl T).take n
 | [],n,_=>by simp[eff]
 | (g,r) :: l,0,_=>by simp[eff]
 | (g,r) :: l,n+1,h=>by
   have hg:g=[]:=h (g,r) (by simp)
   subst hg;simp only[akk,eff];rw[oN (gl:=gl) (T:=l) λp hp=>h p (by simp[hp])]
theorem zQ:∀(rs:List (Nat×aj)) (T:List (Gd×aj)),(kT rs T).length=T.length
 | [],_=>rfl
 | (i,r) :: l,T=>by simp only[kT];rw[zQ,gI,xg]
theorem zS{s':St} (ak:Sat N B h0 s' h β w a){ws:List Nat}{sl:List (Nat×SV)}{rs:List (Nat×aj)}
 (hT:rH (aT s.T) s'.T=kT rs s.T) (gT:xC (aT s.T) (kT rs s.T)=true) (gS:IQ (aT s.T) ws sl=true) (hE:Ib s' sl)
 (hR:∀p∈keepR (aT s.T) ws [] s.env,iJ s'.env p.1=some ([],.one p.2))
 (D:∀t e,iJ (qN ws [] s.env) t=some ([],e)->∃z,a.tmps[t]?=some z/\kJ h [] e z):
 Sat N B h0 (ru ws s sl rs) h (β.take (aT s.T)) w a:=by
 have e1:=hT;rw[jW]at e1;have g1:∀p∈kT rs s.T,p.1=[]/\lY (aT s.T) p.2=true:=by
  intro p hp;have:=zO gT p hp;rw[aF,cZ]at this;refine⟨?_,this.2⟩;have h2:=this.1;cases hh:p.1 with
  | nil=>rfl
  | cons _ _=>rw[hh]at h2;simp[isNil]at h2
 have hlen:aT s.T<=s'.T.length:=by
  have:=oW List.length e1;rw[zQ,kH,bI]at this;rw[bI];omega
 have look:∀{v:SV}{t:Nat},zN (aT s.T) v=true->iJ s'.env t=some ([],.one v)->∃z,a.tmps[t]?=some z/\dJ h (β.take (aT s.T)) v z:=by
  intro v t hb hl;obtain⟨z,q1,q2,_⟩:=ak.env t [] _ hl;exact⟨z,q1,dJ.below hb (q2 rfl)⟩
 have apI:∀{v:SV}{t:Nat},zN (aT s.T) v=true->(∃u,iJ s'.env t=some ([],.one u)/\ZN u=v)->∃z,a.tmps[t]?=some z/\dJ h (β.take (aT s.T)) v z:=by
  rintro v t hb ⟨u,hl,hu⟩;obtain⟨z,q1,q2,_⟩:=ak.env t [] _ hl;exact⟨z,q1,afc hu (.inr (q2 rfl)) λe c=>dJ.below hb (e▸c)⟩
 refine⟨?_,?_,?_,ak.defers,ak.sz,?_,?_⟩
 .show OK B h0 (eff [] (kT rs s.T)) h (β.take (aT s.T)) w;rw[<-e1,oN (gl:=s'.gl) λp hp=>by rw[e1]at hp;exact(g1 p hp).1]
  refine ak.ok.take (by rw[jA];exact hlen) ?_
  rw[<-oN (gl:=s'.gl) λp hp=>by rw[e1]at hp;exact(g1 p hp).1]
  rw[e1];have:∀{l:List (Gd×aj)},(∀p∈l,p.1=[]/\lY (aT s.T) p.2=true)->∀r∈eff [] l,lY (aT s.T) r=true:=by
   intro l
   induction l with
   | nil=>intro _ r hr;simp[eff]at hr
   | cons q l ih=>
     obtain⟨g,r0⟩:=q;intro hh r hr;have hg:=hh (g,r0) (by simp)
     have hg1:g=[]:=hg.1;subst hg1;simp only[eff]at hr;rcases nG.1 hr with rfl | hr
     .exact hg.2
     .exact ih (λp hp=>hh p (by simp[hp])) r hr
  exact this g1
 .intro t G e ht;simp only[ru]at ht ⊢;rw[qO]at ht;split at ht
  .rename_i x hx;cases ht;obtain⟨v,rfl,rfl,hm⟩:=o7 hx;have hb:=zO gS _ hm;rw[aF,cZ]at hb;obtain⟨z,q1,q2⟩:=apI hb.1 (Oc hE _ hm);exact⟨z,q1,λ_=>q2,λhh=>by cases hh⟩
  .rw[qO]at ht;split at ht
   .rename_i x hx;cases ht;obtain⟨v,rfl,rfl,hm⟩:=o7 hx;obtain⟨z,q1,q2⟩:=look (qP _ hm) (hR _ hm);exact⟨z,q1,λ_=>q2,λhh=>by cases hh⟩
   .obtain⟨_,_,_,rfl,hf⟩:=lI ht;obtain⟨z,q1,q2⟩:=D t e ht;exact⟨z,q1,λ_=>kJ.lZ _ hf q2,λhh=>by cases hh⟩
 .intro d i hi;cases hi
 .intro t G e ht;simp only[ru]at ht;rw[qO]at ht;split at ht
  .rename_i x hx;cases ht;obtain⟨_,_,rfl,_⟩:=o7 hx;rfl
  .rw[qO]at ht;split at ht
   .rename_i x hx;cases ht;obtain⟨_,_,rfl,_⟩:=o7 hx;rfl
   .obtain⟨_,_,_,rfl,_⟩:=lI ht;rfl
 .intro p hp;rw[(g1 p hp).1]
def Base.leB(B B':Base):Prop:=B'.toWorld=B.toWorld/\B'.al=B.al/\∀k o,B.nc k o->B'.nc k o
theorem Base.leB.refl(B:Base):B.leB B:=⟨rfl,rfl,λ_ _ h=>h⟩
theorem Base.leB.trans{A B C:Base} (x:A.leB B) (y:B.leB C):A.leB C:=⟨y.1.trans x.1,y.2.1.trans x.2.1,λk o h=>y.2.2 k o (x.2.2 k o h)⟩
def Base.ZR(r:Bool) (B B':Base):Prop:=B.leB B'/\(r=true->B'=B)
theorem Base.ZR.refl{r:Bool} (B:Base):Base.ZR r B B:=⟨.refl B,λ_=>rfl⟩
theorem Base.ZR.trans{r:Bool}{A B C:Base} (x:Base.ZR r A B) (y:Base.ZR r B C):Base.ZR r A C:=⟨x.1.trans y.1,λh=>(y.2 h).trans (x.2 h)⟩
theorem OK.Rq{B':Base}{T:List aj} (ok:OK B h0 T h β w) (e:B'.toWorld=B.toWorld) (ea:B'.al=B.al) (kn:∀k o,B'.nc k o->w.heap[k]?=some o):OK B' h0 T h β w where
 below:=⟨by rw[e];exact ok.below.os,by rw[e];exact ok.below.tape,by rw[e];exact ok.below.output,by rw[e];exact ok.below.size,by rw[e,ea];exact ok.below.block⟩
 dr:=by rw[e];exact ok.dr
 len:=ok.len
 holds:=ok.holds
 own:=by rw[ea];exact ok.own
 inj:=ok.inj
 hle:=ok.hle
 hw:=ok.hw
 hg:=by rw[ea];exact ok.hg
 kn:=kn
def ownB(T:List aj) (β:List RV) (b:Nat):Prop:=∃(i:Nat) (r:aj) (v:RV),T[i]?=some r/\r.live=true/\β[i]?=some v/\v.has b
abbrev Base.rd(B:Base) (T:List aj) (β:List RV) (A:World):Base:=
 { A with nc:=B.nc,cell:=B.cell,al:=λk=>ownB T β k\/A.heap.size<=k,up:=λ_ h=>.inr h }
theorem OK.enter{T:List aj} (ok:OK B h0 T h β A):OK (B.rd T β A) h T h β A where
 below:=⟨rfl,rfl,rfl,qw _,λ_ _ _=>rfl⟩
 dr:=qw _
 len:=ok.len
 holds:=ok.holds
 own:=λi r v b e hl e' hb=>⟨.inl ⟨i,r,v,e,hl,e',hb⟩,(ok.own i r v b e hl e' hb).2⟩
 inj:=ok.inj
 hle:=FH.le.refl h
 hw:=ok.hw
 hg:=λb o v hh=>.inl hh
 kn:=ok.kn
theorem OK.leave{T:List aj} (ok:OK B h0 T h β A){T':List aj}{h':FH}{A':World}{Br:Base} (e:Br.toWorld=A) (ea:Br.al=(B.rd T β A).al) (en:∀k o,B.nc k o->Br.nc k o) (ok':OK Br h T' h' β' A'):OK B h0 T' h' β' A':=by
 have toB:∀k,Br.al k->B.al k:=by
  intro k hk;rw[ea]at hk;rcases hk with⟨i,r,v,h1,h2,h3,h4⟩ | hk
  .exact(ok.own i r v k h1 h2 h3 h4).1
  .exact B.up k (oh ok.below.size hk)
 subst e;have cell:∀k,ownB T β k->∃o,Br.heap[k]?=some o/\ours o=true:=by
  rintro k ⟨i,r,v,h1,h2,h3,h4⟩;exact(ok.holds i r v h1 h3).cells h2 h4
 refine⟨⟨ok'.below.os.trans ok.below.os,ok'.below.tape.trans ok.below.tape,ok'.below.output.trans ok.below.output,oh ok.below.size ok'.below.size,λk hk ha=>?_⟩,oh ok.dr ok'.dr,ok'.len,ok'.holds,
  λi r v b e1 l1 e2 hb=>⟨toB b (ok'.own i r v b e1 l1 e2 hb).1,(ok'.own i r v b e1 l1 e2 hb).2⟩,ok'.inj,ok.hle.trans ok'.hle,ok'.hw,λb o v hh=>?_,λk o hk=>ok'.kn k o (en k o hk)⟩
 .exact(ok'.below.block k (Qe hk ok.below.size) (λhh=>ha (toB k hh))).trans (ok.below.block k hk ha)
 .rcases ok'.hg b o v hh with h1 | h1
  .exact ok.hg b o v h1
  .exact .inr (toB b h1)
theorem OK.gs{B:Base}{h0:FH}{T:List aj}{h:FH}{β:List RV}{A A':World} (ok:OK B h0 T h β A){G:Nat->Prop} (gs:Gs G A A') (hB:∀k,G k->B.heap.size<=k) (hO:∀k,ownB T β k->¬G k) (hF:∀k o v,h k o=some v->¬G k) (hN:∀k o,B.nc k o->¬G k):OK B h0 T h β A':=by
 have cl:∀b o v,h b o=some v->vis A' b o=some v:=by
  intro b o v hh;have h1:=ok.hw b o v hh;exact(kL (gs.block b (pz h1) (hF b o v hh))).trans h1
 exact {
  below:=⟨gs.os.trans ok.below.os,gs.tape.trans ok.below.tape,gs.output.trans ok.below.output,oh ok.below.size gs.size,λk hk ha=>(gs.block k (Qe hk ok.below.size) (λhg=>by have:=hB k hg;omega)).trans (ok.below.block k hk ha)⟩
  dr:=oh ok.dr gs.dr
  len:=ok.len
  holds:=λi r v e e'=>(ok.holds i r v e e').move (FH.le.refl h) (Ext.refl _) λhl b hb=>gs.block b (ok.own i r v b e hl e' hb).2.1 (hO b ⟨i,r,v,e,hl,e',hb⟩)
  own:=λi r v b e hl e' hb=>by
   obtain⟨h1,h2,h3⟩:=ok.own i r v b e hl e' hb;exact⟨h1,Qe h2 gs.size,h3⟩
  inj:=ok.inj
  hle:=ok.hle
  hw:=cl
  hg:=ok.hg
  kn:=λk o hk=>by
   have h1:=ok.kn k o hk;exact(gs.block k (Eo.1 h1).1 (hN k o hk)).trans h1 }
theorem OK.turn{T:List aj} (ok:OK B h0 T h β w){l:Nat}{o o':Obj} (hB:B.al l) (hn:∀k u,B.nc k u->k≠l) (hl:w.heap[l]?=some o) (ho:ours o=false):OK B h0 T h β (w.putObj l o'):=by
 have cl:∀{b i:Nat}{v:Value},vis w b i=some v->vis (w.putObj l o') b i=some v:=by
  intro b i v hv;have hne:b≠l:=by
   intro e;unfold vis at hv;rw[e,hl]at hv;cases o<;>simp_all[ours]
  exact(kL (World.putObj_heap_other hne)).trans hv
 exact {
  below:=ok.below.grown (row:=some l) ⟨rfl,rfl,rfl,by simp,λk _ hk=>World.putObj_heap_other (λe=>hk (by rw[e]))⟩ (λk e=>by cases e;exact hB)
  dr:=ok.dr
  len:=ok.len
  holds:=λi r v e e'=>(ok.holds i r v e e').move (FH.le.refl h) (Ext.refl _) λhlv b hb=>World.putObj_heap_other (by
   rintro rfl;obtain⟨o1,h1,h2⟩:=(ok.holds i r v e e').cells hlv hb;rw[hl]at h1;cases h1;rw[ho]at h2;cases h2)
  own:=λi r v b e hlv e' hb=>by
   obtain⟨h1,h2,h3⟩:=ok.own i r v b e hlv e' hb;exact⟨h1,by simpa using h2,h3⟩
  inj:=ok.inj
  hle:=ok.hle
  hw:=λb o v hh=>cl (ok.hw b o v hh)
  hg:=ok.hg
  kn:=λk u hk=>(World.putObj_heap_other (hn k u hk)).trans (ok.kn k u hk) }
theorem zU{n:Nat}{ws:List Nat}:∀{l:List (Nat×Gd×aW)}{seen:List Nat},∀p∈keepR n ws seen l,ji p.1 ws=false
 | [],_,p,hp=>by simp[keepR]at hp
 | (k,g,e) :: l,seen,p,hp=>by
   unfold keepR at hp
   repeat' (split at hp)
   all_goals first
    | exact zU p hp
    | (
     rcases nG.1 hp with rfl | hp
     .assumption
     .exact zU p hp)
theorem vW(h:xC n T=true):∀p∈T,p.1=[]/\lY n p.2=true:=by
 intro p hp;have:=zO h p hp;rw[aF,cZ]at this;refine⟨?_,this.2⟩;have h2:=this.1;cases hh:p.1 with
 | nil=>rfl
 | cons _ _=>rw[hh]at h2;simp[isNil]at h2
theorem UE{gl:List Bool}:∀{T:List (Gd×aj)},(∀p∈T,p.1=[])->eff [] T=eff gl T
 | [],_=>rfl
 | (g,r) :: l,h=>by
   have hg:g=[]:=h (g,r) (by simp)
   subst hg;simp only[eff];rw[UE (gl:=gl) (T:=l) λp hp=>h p (by simp[hp])]
theorem KG(ak:Sat N B h0 s h β w a){ws dr:List Nat}{h':FH} (le:h.le h')
 (refs:∀p∈keepR (aT s.T) ws [] s.env,∃z,a.tmps[p.1]?=some z/\dJ h' β' p.2 z):∀t G e,iJ (rdE ws dr s) t=some (G,e)->G=[]/\(ji t ws=false\/ji t dr=false)/\∃z,a.tmps[t]?=some z/\kJ h' β' e z:=by
 intro t G e ht;simp only[rdE]at ht;rw[qO]at ht;split at ht
 .rename_i x hx;cases ht;obtain⟨v,rfl,rfl,hm⟩:=o7 hx;obtain⟨z,q1,q2⟩:=refs _ hm;exact⟨rfl,.inl (zU _ hm),z,q1,q2⟩
 .obtain⟨_,hd,hl,rfl,hf⟩:=lI ht;obtain⟨z,q1,q2,_⟩:=ak.env t [] e hl;exact⟨rfl,.inr hd,z,q1,(kJ.lZ β' hf (q2 rfl)).mono le (Ext.refl _)⟩
theorem ZT{B':Base} (ak:Sat N B h0 s h β w a){ws dr:List Nat}{h':FH}{a':Act} (le:h.le h')
 (refs:∀p∈keepR (aT s.T) ws [] s.env,∃z,a.tmps[p.1]?=some z/\dJ h' β' p.2 z){gl:List Bool} (ok:OK B' h0 (eff gl T) h' β' A) (gT:∀p∈T,wC gl.length p.1=true) (ht:a'.tmps=a.tmps) (df:Qr B' a'):
 Sat N B' h0 { env:=rdE ws dr s,T:=T,gl:=gl,gs:=[] } h' β' A a' where
 ok:=ok
 env:=λt G e h1=>by
  obtain⟨rfl,_,z,q1,q2⟩:=KG ak le refs t G e h1;exact⟨z,by rw[ht];exact q1,λ_=>q2,λhh=>by cases hh⟩
 gs:=λd i hi=>by cases hi
 defers:=df
 sz:=by rw[ht];exact ak.sz
 gb:=λt G e h1=>by
  obtain⟨rfl,_⟩:=KG ak le refs t G e h1;rfl
 gT:=gT
theorem fold_size:∀(l:List (Nat×Value)) (t:Array Value),(l.foldl (λt (p:Nat×Value)=>t.setIfInBounds p.1 p.2) t).size=t.size
 | [],_=>rfl
 | _ :: l,t=>by simp only[JG];rw[fold_size l];simp
theorem yC{k:Nat}:∀(l:List (Nat×Value)) (t:Array Value),(∀p∈l,p.1≠k)->(l.foldl (λt (p:Nat×Value)=>t.setIfInBounds p.1 p.2) t)[k]?=t[k]?
 | [],_,_=>rfl
 | (p,v) :: l,t,h=>by
   simp only[JG];rw[yC l _ λq hq=>h q (by simp[hq])]
   exact ake (h (p,v) (by simp))
theorem FX(ps:Array Tmp) (vs:List Value) (t:Array Value):(ps.zip vs.toArray).foldl (λt (p,v)=>t.setIfInBounds p v) t=((tl ps).zip vs).foldl (λt (p:Nat×Value)=>t.setIfInBounds p.1 p.2) t:=by
 cases ps with
 | mk l=>simp
theorem ZU{h:FH}{n:Nat}:∀{ps:List Nat}{ss:List Sh}{d:dh ss}{vs:List Value}{t:Array Value},t.size=n->xE n ps ss=true->CG h ss d vs ->
 (∀k G e,iJ (Ob ps ss d) k=some (G,e)->G=[]/\∃z,((ps.zip vs).foldl (λt (p:Nat×Value)=>t.setIfInBounds p.1 p.2) t)[k]?=some z/\∀β,kJ h β e z) /\
 (∀k,iJ (Ob ps ss d) k=none->ji k ps=false)
 | [],[],d,vs,t,_,_,_=>⟨λk G e hh=>by simp[Ob,iJ]at hh,λk _=>rfl⟩
 | [],_ :: _,d,vs,t,_,hp,_=>by simp[xE]at hp
 | _ :: _,[],d,vs,t,_,hp,_=>by simp[xE]at hp
 | p :: ps,s :: ss,d,vs,t,hn,hp,hv=>by
   cases vs with
   | nil=>exact hv.elim
   | cons v vs=>
     simp only[xE,aF,cZ]at hp;obtain⟨⟨hp1,hp2⟩,hp3⟩:=hp;have hp2:ji p ps=false:=by simpa using hp2
     have hp1:=qW hp1;obtain⟨i1,i2⟩:=ZU (t:=t.setIfInBounds p v) (by simp[hn]) hp3 hv.2
     have hnot:∀q∈ps.zip vs,q.1≠p:=by
      intro q hq e;have hm:q.1∈ps:=(List.of_mem_zip hq).1;rw[e]at hm;have:∀{l:List Nat},p∈l->ji p l=true:=by
       intro l
       induction l with
       | nil=>intro h;cases h
       | cons x l ih=>
         intro h;rw[jK];rcases nG.1 h with rfl | h
         .simp
         .rw[ih h];simp
      rw[this hm]at hp2;cases hp2
     refine⟨λk G e hh=>?_,λk hh=>?_⟩
     .simp only[Ob]at hh;rw[bF]at hh;split at hh
      .rename_i hk;subst hk;cases hh;refine⟨rfl,v,?_,λβ=>?_⟩
       .simp only[List.zip_cons_cons,JG];rw[yC _ _ hnot];rw[Array.getElem?_setIfInBounds_self_of_lt (by omega)]
       .obtain⟨cs,rfl,r⟩:=hv.1;exact jX s r
      .simpa only[List.zip_cons_cons,JG]using i1 k G e hh
     .simp only[Ob]at hh;rw[bF]at hh;split at hh
      .cases hh
      .rename_i hk;rw[jK,i2 k hh,Bool.or_false];cases hb:Nat.beq k p with
       | false=>rfl
       | true=>exact absurd (iI hb).symm hk
def Apt(n:Nat) (T:List aj) (h:FH) (β:List RV) (G:Nat->Prop):Prop:=(∀b,G b->n<=b)/\(∀b,ownB T β b->¬G b)/\∀b o v,h b o=some v->¬G b
theorem IV{T:List aj}{G:Nat->Prop} (ok':OK B h0 T h β A) (ap:Apt n T h β G) (apb:∀b,G b->b < A.heap.size)
 {B2:Base}{s2:St}{h2:FH}{β2:List RV}{A2:World}{a2:Act} (AV:(B.rd T β A).leB B2) (bM:Sat N B2 h s2 h2 β2 A2 a2):
 OK B h0 (eff s2.gl s2.T) h2 β2 A2/\Apt n (eff s2.gl s2.T) h2 β2 G/\A.heap.size<=A2.heap.size/\(∀k,k < A.heap.size->¬ownB T β k->A2.heap[k]?=A.heap[k]?) /\
  (∀k o,A.heap[k]?=some o->ours o=false->¬ownB T β k):=by
 have same:∀k,k < A.heap.size->¬ownB T β k->A2.heap[k]?=A.heap[k]?:=by
  intro k hk hn;have h1:=bM.ok.below;have h2:=AV.1;have h3:B2.al k↔(ownB T β k\/A.heap.size<=k):=by rw[AV.2.1]
  have h4:=h1.block k (by rw[h2];exact hk) (λhh=>by rcases h3.1 hh with hh | hh<;>first | exact hn hh | omega)
  rw[h2]at h4;exact h4
 refine⟨ok'.leave AV.1 AV.2.1 AV.2.2 bM.ok,⟨ap.1,?_,?_⟩,?_,same,?_⟩
 .rintro b ⟨i,r,v,e1,e2,e3,e4⟩ hb;have hh:=(bM.ok.own i r v b e1 e2 e3 e4).1;rw[AV.2.1]at hh;rcases hh with hh | hh
  .exact ap.2.1 b hh hb
  .have:=apb b hb;omega
 .intro b o v hh hb;rcases bM.ok.hg b o v hh with h1 | h1
  .exact ap.2.2 b o v h1 hb
  .rw[AV.2.1]at h1;rcases h1 with h1 | h1
   .exact ap.2.1 b h1 hb
   .have:=apb b hb;omega
 .have:=bM.ok.below.size;rw[AV.1]at this;exact this
 .rintro k o hk ho ⟨i,r,v,e1,e2,e3,e4⟩;obtain⟨o',q1,q2⟩:=(ok'.holds i r v e1 e3).cells e2 e4;rw[hk]at q1;cases q1;rw[ho]at q2;cases q2
theorem ZV{Hr c:Code} (rec:∀(c':Code),c'=Hr\/c'=c->∀(h0:FH) (E:Env) (B:Base) (s:St) (h:FH) (β:List RV) (w:World) (a:Act) (K:Exit->St->Prop) (Q:Exit->Act->World->Prop) (l:Nat),gW P E->aP E.cx.gd h0->E.rd=true->Sat E.n B h0 s h β w a ->
 jF E c' s K->(∀e s' h' β' w' a' B',Base.ZR E.rd B B'->K e s'->h.le h'->Sat E.n B' h0 s' h' β' w' a'->Same (writes c') a a'->Q e a' w')->c'.wpIn (Fence.wide.inRound l) 0 P Q a w)
 (ok:gW P E) (hg:aP E.cx.gd h0){K:Exit->St->Prop} (ak:Sat E.n B h0 s h β w a)
 {g:Operand}{ss:List Sh}{L:List (dh ss)} (gv:Gives P h ss L (a.eval g)){ps:Array Tmp}{ra:RA}
 (k:Rn E.n (λs K=>jF { E with rd:=true } Hr s λe s'=>match e with
  | .normal=>jF { E with rd:=true } c s' K
  | _=>False) (fD ra.drop (fD (tl ps) (fD (writes Hr) (writes c)))) ra (tl ps) ss L s K)
 (hrd:E.rd=false) (next:∀e s' h' β' w' a' B',Base.ZR E.rd B B'->K e s'->h.le h'->Sat E.n B' h0 s' h' β' w' a'->Same [] a a'->Q e a' w'):(Code.rangeFunc g ps Hr c).wpIn Fence.wide n P Q a w:=by
 unfold Rn at k;split at k
 .cases k
 rename_i hpar;obtain⟨⟨x0,i0,t0⟩,kr,kd⟩:=k;obtain⟨ws,hws⟩:∃ws,ws=fD ra.drop (fD (tl ps) (fD (writes Hr) (writes c))):=⟨_,rfl⟩;rw[<-hws]at kr kd;have good:∀i x,i<=L.length->ra.inv i x->xC (aT s.T) (kT (ra.res x) s.T)=true:=by
  intro i x hi hx;cases hd:L[i]? with
  | some d=>
    have:=kr i x d hx hd;split at this
    .cases this
    .rename_i hh;exact hh
  | none=>
    have he:i=aT L:=by rw[bI];have:=List.getElem?_eq_none_iff.1 hd;omega
    subst he;have:=kd x hx;split at this
    .cases this
    .rename_i hh;exact hh
 have asa:∀x,aT s.T=(kT (ra.res x) s.T).length:=λx=>by rw[zQ,bI]
 have hpl:ps.size=ss.length:=by
  have:∀{l:List Nat}{ss:List Sh},xE E.n l ss=true->l.length=ss.length:=by
   intro l
   induction l with
   | nil=>intro ss h;cases ss with | nil=>rfl | cons _ _=>simp[xE]at h
   | cons x l ih=>
     intro ss h;cases ss with
     | nil=>simp[xE]at h
     | cons s ss=>
       simp only[xE,aF,cZ]at h;simp[ih h.2]
  have h1:=this hpar;cases ps;simpa using h1
 have psw:∀t,ji t ws=false->ji t (tl ps)=false/\ji t (writes Hr)=false/\ji t (writes c)=false:=by
  intro t ht;rw[hws,lX,lX,lX,lM,lM,lM]at ht;exact⟨ht.2.1,ht.2.2.1,ht.2.2.2⟩
 have UF:∀(vs:List Value) t,ji t (tl ps)=false->((ps.zip vs.toArray).foldl (λt (p,v)=>t.setIfInBounds p v) a.tmps)[t]?=a.tmps[t]?:=by
  intro vs t ht;rw[FX];refine yC _ _ λq hq e=>?_
  have hm:q.1∈tl ps:=(List.of_mem_zip hq).1;rw[e]at hm;have:∀{l:List Nat},t∈l->ji t l=true:=by
   intro l
   induction l with
   | nil=>intro h;cases h
   | cons x l ih=>
     intro h;rw[jK];rcases nG.1 h with rfl | h
     .simp
     .rw[ih h];simp
  rw[this hm]at ht;cases ht
 have apJ:∀p∈keepR (aT s.T) ws [] s.env,∃z,a.tmps[p.1]?=some z/\dJ h β p.2 z:=by
  intro p hp;obtain⟨z,q1,q2,_⟩:=ak.env _ _ _ (sN p hp).2;exact⟨z,q1,q2 rfl⟩
 have ZW:∀kk o,B.nc kk o->kk < w.heap.size:=λkk o hk=>(Eo.1 (ak.ok.kn kk o hk)).1
 have hBs:B.heap.size<=w.heap.size:=ak.ok.below.size
 -- the iterator's blocks are no one else's
 let Ap:List aj->FH->List RV->(Nat->Prop)->Prop:=λT h' β' G=>Apt w.heap.size T h' β' G
 have apG:∀{T:List aj}{h':FH}{β':List RV}{G G':Nat->Prop}{A A':World},OK B h0 T h' β' A->w.heap.size<=A.heap.size->Ap T h' β' G->Own' G G' A A'->Ap T h' β' G':=by
  intro T h' β' G G' A A' ok' hsz ⟨a1,a2,a3⟩ ho;refine⟨λb hb=>?_,λb hb hg=>?_,λb o v hb hg=>?_⟩
  .rcases(ho b hb).2 with h1 | h1
   .exact a1 b h1
   .omega
  .rcases(ho b hg).2 with h1 | h1
   .exact a2 b hb h1
   .obtain⟨i,r,v,e1,e2,e3,e4⟩:=hb;have:=(ok'.own i r v b e1 e2 e3 e4).2.1;omega
  .rcases(ho b hg).2 with h1 | h1
   .exact a3 b o v hb h1
   .have:=pz (ok'.hw b o v hb);omega
 have gsO:∀{T:List aj}{h':FH}{β':List RV}{G:Nat->Prop}{A A':World},OK B h0 T h' β' A->Ap T h' β' G->Gs G A A'->OK B h0 T h' β' A':=λok' ⟨a1,a2,a3⟩ gs=>
  ok'.gs gs (λk hk=>oh hBs (a1 k hk)) a2 a3 (λk o hk hg=>by have:=ZW k o hk;have:=a1 k hg;omega)
 -- what holds between the rounds;what holds where a round has left
 let I:Nat->(Nat->Prop)->World->Prop:=λi G A=>i<=L.length/\(w.heap.size<=A.heap.size/\∀b,G b->b < A.heap.size)/\∃x h' β',Ap (eff [] (kT (ra.res x) s.T)) h' β' G/\ra.inv i x/\h.le h'/\OK B h0 (eff [] (kT (ra.res x) s.T)) h' β' A/\∀p∈keepR (aT s.T) ws [] s.env,∃z,a.tmps[p.1]?=some z/\dJ h' β' p.2 z
 let Ix:Code->(Nat->Prop)->World->Prop:=λcc G A=>w.heap.size<=A.heap.size/\∃e T gl h' β',Ap (eff gl T) h' β' G/\((cc=.ret/\e=Exit.ret)\/∃j,cc=.exit j/\e=Exit.exit j)/\K e { env:=rdE ws ra.drop s,T:=T,gl:=gl,gs:=[] }/\h.le h'/\OK B h0 (eff gl T) h' β' A /\
  (∀p∈T,wC gl.length p.1=true)/\∀p∈keepR (aT s.T) ws [] s.env,∃z,a.tmps[p.1]?=some z/\dJ h' β' p.2 z
 have dfr:∀A,A.heap[w.heap.size]?=some (.deferred (some []))->∃B':Base,B.leB B'/\Qr B' { a with defers:=yB w.heap.size :: a.defers }/\(∀{T h' β'},OK B h0 T h' β' A->OK B' h0 T h' β' A):=by
  intro A hA;refine⟨{ B with nc:=λk o=>B.nc k o\/(k=w.heap.size/\o=.deferred (some [])),cell:=λk o hh=>hh.elim (B.cell k o) λhh=>by rw[hh.2] },⟨rfl,rfl,λk o hh=>.inl hh⟩,?_,λok'=>ok'.Rq rfl rfl (λk o hh=>hh.elim (ok'.kn k o) λhh=>by rw[hh.1,hh.2];exact hA)⟩
  obtain⟨X,x1,x2,x3⟩:=ak.defers;refine⟨w.heap.size :: X,by simp[x1,yB],?_,?_⟩
  .refine Wn.2 ⟨λhm=>?_,x2⟩
   have:=ZW _ _ (x3 _ hm).2;omega
  .intro D hD;rcases nG.1 hD with rfl | hD
   .exact⟨B.up _ hBs,.inr ⟨rfl,rfl⟩⟩
   .exact⟨(x3 D hD).1,.inl (x3 D hD).2⟩
 have fin:∀e cc G A,((cc=.ret/\e=Exit.ret)\/∃j,cc=.exit j/\e=Exit.exit j)->Ix cc G A->A.heap[w.heap.size]?=some (.deferred (some []))->Q e { a with defers:=yB w.heap.size :: a.defers } A:=by
  rintro e cc G A he ⟨_,e',T,gl,h',β',_,he',kk,le,ok',gT,refs⟩ hA;have hee:e'=e:=by
   rcases he with⟨rfl,rfl⟩ | ⟨j,rfl,rfl⟩<;>rcases he' with⟨h1,h2⟩ | ⟨j',h1,h2⟩<;>first | (cases h1;exact h2) | cases h1
  subst hee;obtain⟨B',lb,df,up⟩:=dfr A hA;exact next _ _ h' β' A _ B' ⟨lb,λhh=>(by rw[hrd]at hh;cases hh)⟩ kk le (ZT ak le refs (up ok') gT rfl df) λ_ _=>rfl
 refine Xt gv hpl I Ix ?_ ?_ ?_ ?_ ?_ ?_ ?_ ?_ ?_ (λG A hA=>fin .ret .ret G A (.inl ⟨rfl,rfl⟩) hA) (λj G A hA=>fin (.exit j) (.exit j) G A (.inr ⟨j,rfl,rfl⟩) hA)
 .rintro i G A ⟨_,_,x,h',β',_,_,le,ok',_⟩;exact HW.mono le ok'.hw
 .rintro cc G A ⟨_,e,T,gl,h',β',_,he,kk,le,ok',_⟩;exact HW.mono le ok'.hw
 .rintro i G G' A A' ⟨hi,hsz,x,h',β',ap,i1,le,ok',refs⟩ gs ho;exact⟨hi,⟨oh hsz.1 gs.size,λb hb=>(ho b hb).1⟩,x,h',β',apG ok' hsz.1 ap ho,i1,le,gsO ok' ap gs,refs⟩
 .rintro cc G G' A A' ⟨hsz,e,T,gl,h',β',ap,he,kk,le,ok',gT,refs⟩ gs ho;exact⟨oh hsz gs.size,e,T,gl,h',β',apG ok' hsz ap ho,he,kk,le,gsO ok' ap gs,gT,refs⟩
 .rintro i G A l o o' ⟨hi,hsz,x,h',β',ap,i1,le,ok',refs⟩ hl hA ho;exact⟨hi,⟨by simpa using hsz.1,by simpa using hsz.2⟩,x,h',β',ap,i1,le,ok'.turn (B.up _ (oh hBs hl)) (λkk u hk e=>by have:=ZW kk u hk;omega) hA ho,refs⟩
 .rintro cc G A l o o' ⟨hsz,e,T,gl,h',β',ap,he,kk,le,ok',gT,refs⟩ hl hA ho;exact⟨by simpa using hsz,e,T,gl,h',β',ap,he,kk,le,ok'.turn (B.up _ (oh hBs hl)) (λkk u hk e=>by have:=ZW kk u hk;omega) hA ho,gT,refs⟩
 .refine⟨MJ _,⟨qw _,λb hb=>hb.elim⟩,x0,h,β,⟨λb hb=>hb.elim,λb _ hb=>hb.elim,λb o v _ hb=>hb.elim⟩,i0,FH.le.refl h,?_,apJ⟩
  have g0:=good 0 x0 (MJ _) i0;rw[UE (gl:=s.gl) λp hp=>(vW g0 p hp).1,<-t0]
  exact ak.ok
 .rintro i d vs G A l o1 Xu o2 hd hv ⟨hi,⟨hsz,apb⟩,x,h',β',ap,i1,le,ok',refs⟩ hl hA1 ho1 asb hA2 ho2 hGl;have kk:=kr i x d i1 hd;have gx:=good i x hi i1;rw[gx]at kk;simp only at kk;have blen:β'.length=aT s.T:=by rw[ok'.len,jA,<-asa]
  obtain⟨p1,p2⟩:=ZU (t:=a.tmps) (n:=E.n) ak.sz hpar hv;have asc:Sat E.n (B.rd (eff [] (kT (ra.res x) s.T)) β' A) h'
   { env:=fD (Ob (tl ps) ss d) (rdE ws (fD ra.drop (tl ps)) s),T:=kT (ra.res x) s.T,gl:=[],gs:=[] } h' β' A { tmps:=(ps.zip vs.toArray).foldl (λt (p,v)=>t.setIfInBounds p v) a.tmps,defers:=[] }:=by
   refine⟨ok'.enter,?_,?_,Qr.nil rfl,?_,?_,?_⟩
   .intro t G e ht;simp only at ht ⊢;rw[qO]at ht;split at ht
    .rename_i y hy;cases ht;obtain⟨rfl,z,z1,z2⟩:=p1 t G e hy;refine⟨z,by rw[FX];exact z1,λ_=>(z2 β').mono le (Ext.refl _),λhh=>by cases hh⟩
    .rename_i hy;obtain⟨rfl,hm,z,z1,z2⟩:=KG ak le refs t G e ht;have hps:ji t (tl ps)=false:=p2 t hy;exact⟨z,by rw[UF vs t hps];exact z1,λ_=>z2,λhh=>by cases hh⟩
   .intro dd ii hh;cases hh
   .rw[FX,fold_size];exact ak.sz
   .intro t G e ht;simp only at ht;rw[qO]at ht;split at ht
    .rename_i y hy;cases ht;obtain⟨rfl,_⟩:=p1 t G e hy;rfl
    .obtain⟨rfl,_⟩:=KG ak le refs t G e ht;rfl
   .intro p hp;rw[(vW gx p hp).1]
  have okE:gW P { E with rd:=true }:=⟨ok.prog,ok.hc,ok.ZB,ok.mixed,ok.ti,ok.ct,ok.ip,ok.sq,ok.sf⟩
  refine rec Hr (.inl rfl) h' { E with rd:=true } _ _ h' β' A _ _ _ l okE (hg.mono ok'.hle) rfl asc kk ?_
  rintro e1 s1 h1 β1 A1 a1 B1 ⟨lb1,lr1⟩ k1 le1 jE sm1;cases e1 with
  | exit j=>exact k1.elim
  | goto j=>exact k1.elim
  | ret=>exact k1.elim
  | panic c=>exact k1.elim
  | outgrown=>exact k1.elim
  | normal=>
  obtain⟨q1,q2,q3,q4,q5⟩:=IV ok' ap apb lb1 jE;have ZX:∀b,b=l\/b=w.heap.size\/G b->A1.heap[b]?=A.heap[b]?:=by
   rintro b (rfl | rfl | hb)
   .exact q4 _ (Eo.1 hA1).1 (q5 _ _ hA1 ho1)
   .exact q4 _ (Eo.1 hA2).1 (q5 _ _ hA2 ho2)
   .exact q4 b (apb b hb) (λhh=>ap.2.1 b hh hb)
  refine⟨ZX,?_⟩;have hB1:A1.heap[l]?=some o1:=(ZX l (.inl rfl)).trans hA1;have hl1:l < A1.heap.size:=(Eo.1 hB1).1
  -- the record is turned;all else stands
  have okt:OK B h0 (eff s1.gl s1.T) h1 β1 (A1.putObj l Xu):=q1.turn (B.up _ (oh hBs (by omega))) (λkk u hk e=>by have:=ZW kk u hk;omega) hB1 ho1
  have apK:Sat E.n (B.rd (eff s1.gl s1.T) β1 (A1.putObj l Xu)) h1 s1 h1 β1 (A1.putObj l Xu) a1:=by
   have hd1:a1.defers=[]:=by
    obtain⟨X,x1,x2,x3⟩:=jE.defers;cases X with
    | nil=>simpa using x1
    | cons D X=>
      exfalso;obtain⟨d1,d2⟩:=x3 D (by simp)
      rw[lr1 rfl]at d1 d2;have hk:=ok'.kn D _ d2;rcases d1 with d1 | d1
      .obtain⟨i,r,v,e1,e2,e3,e4⟩:=d1;obtain⟨o',q1,q2⟩:=(ok'.holds i r v e1 e3).cells e2 e4;rw[hk]at q1;cases q1;cases q2
      .have:=(Eo.1 hk).1;omega
   exact⟨okt.enter,jE.env,jE.gs,Qr.nil hd1,jE.sz,jE.gb,jE.gT⟩
  have hsz1:w.heap.size<=(A1.putObj l Xu).heap.size:=by simp;omega
  have ak5:∀b,G b->b < (A1.putObj l Xu).heap.size:=λb hb=>by have:=apb b hb;simp;omega
  have hT2:(A1.putObj l Xu).heap[w.heap.size]?=some o2:=(World.putObj_heap_other (by omega)).trans ((ZX _ (.inr (.inl rfl))).trans hA2)
  have hT1:(A1.putObj l Xu).heap[l]?=some Xu:=World.putObj_heap_same hl1;refine rec c (.inr rfl) h1 { E with rd:=true } _ _ h1 β1 _ _ _ _ l okE (hg.mono (ok'.hle.trans le1)) rfl apK k1 ?_
  rintro e s2 h2 β2 A2 a2 B2 ⟨AV,_⟩ k2 iK bM xG;obtain⟨ok2,ap2,q8,q9,q10⟩:=IV okt q2 ak5 AV bM;have keep:∀b,b=l\/b=w.heap.size\/G b->A2.heap[b]?=(A1.putObj l Xu).heap[b]?:=by
   rintro b (rfl | rfl | hb)
   .exact q9 _ (Eo.1 hT1).1 (q10 _ _ hT1 asb)
   .exact q9 _ (Eo.1 hT2).1 (q10 _ _ hT2 ho2)
   .exact q9 b (ak5 b hb) (λhh=>q2.2.1 b hh hb)
  split at k2
  .cases k2
  rename_i hR;have hsz2:w.heap.size<=A2.heap.size:=oh hsz1 q8;have ZY:∀p∈keepR (aT s.T) ws [] s.env,∃z,a.tmps[p.1]?=some z/\dJ h2 β2 p.2 z:=by
   intro p hp;obtain⟨z,q1,q2,_⟩:=bM.env _ _ _ (sK hR p hp);obtain⟨w1,w2,w3⟩:=psw _ (zU p hp);have e1:=xG p.1 w3;have e2:=sm1 p.1 w2;simp only at e2;rw[e1,e2,UF vs _ w1]at q1;exact⟨z,q1,q2 rfl⟩
  cases e with
  | normal=>
    simp only at k2;obtain⟨x',j1,j2⟩:=k2;have hi1:i+1<=L.length:=(eX.1 hd).1;have gx':=good (i+1) x' hi1 j1;have et:eff [] (kT (ra.res x') s.T)=(eff s2.gl s2.T).take (aT s.T):=by
     rw[jW]at j2;rw[<-j2,oN (gl:=s2.gl) λp hp=>by rw[j2]at hp;exact(vW gx' p hp).1]
    refine⟨keep,hi1,⟨hsz2,λb hb=>Qe (ak5 b hb) q8⟩,x',h2,β2.take (aT s.T),?_,j1,(le.trans le1).trans iK,?_,λp hp=>?_⟩
    .refine⟨ap2.1,?_,ap2.2.2⟩;rintro b ⟨i,r,v,e1,e2,e3,e4⟩ hb;rw[et]at e1;have hi:i < aT s.T:=by have:=(eX.1 e1).1;simp at this;omega
     rw[lg hi]at e1 e3;exact ap2.2.1 b ⟨i,r,v,e1,e2,e3,e4⟩ hb
    .rw[et];rw[jW]at j2;have hlen:aT s.T<=s2.T.length:=by
      have:=oW List.length j2;rw[zQ,kH,bI]at this;rw[bI];omega
     refine ok2.take (by rw[jA];exact hlen) ?_
     rw[<-et];have:∀{l:List (Gd×aj)},(∀p∈l,p.1=[]/\lY (aT s.T) p.2=true)->∀r∈eff [] l,lY (aT s.T) r=true:=by
      intro l
      induction l with
      | nil=>intro _ r hr;simp[eff]at hr
      | cons q l ih=>
        obtain⟨g,r0⟩:=q;intro hh r hr;have hg:=hh (g,r0) (by simp)
        have hg1:g=[]:=hg.1;subst hg1;simp only[eff]at hr;rcases nG.1 hr with rfl | hr
        .exact hg.2
        .exact ih (λp hp=>hh p (by simp[hp])) r hr
     exact this (vW gx')
    .obtain⟨z,q1,q2⟩:=ZY p hp;exact⟨z,q1,dJ.below (qP p hp) q2⟩
  | ret=>exact⟨keep,hsz2,.ret,s2.T,s2.gl,h2,β2,ap2,.inl ⟨rfl,rfl⟩,k2,(le.trans le1).trans iK,ok2,bM.gT,ZY⟩
  | exit j=>exact⟨keep,hsz2,.exit j,s2.T,s2.gl,h2,β2,ap2,.inr ⟨j,rfl,rfl⟩,k2,(le.trans le1).trans iK,ok2,bM.gT,ZY⟩
  | goto t=>exact k2.elim
  | panic ch=>exact k2.elim
  | outgrown=>exact k2.elim
 .rintro G A ⟨_,_,x,h',β',_,i1,le,ok',refs⟩ hA;have kk:=kd x (by rw[bI];exact i1)
  have gx:=good _ x (qw _) i1;rw[gx]at kk;simp only at kk;obtain⟨B',lb,df,up⟩:=dfr A hA;exact next _ _ h' β' A _ B' ⟨lb,λhh=>(by rw[hrd]at hh;cases hh)⟩ kk le (ZT ak le refs (up ok') (λp hp=>by rw[(vW gx p hp).1]) rfl df) λ_ _=>rfl
theorem jl{P:Program}{n:Nat}:∀(c:Code){h0:FH}{E:Env} (ok:gW P E) (hg:aP E.cx.gd h0){F:Fence} (hF:Wd F) (hr:E.rd=false->F=Fence.wide){B:Base}{s:St}{h:FH}{β:List RV}{w:World}{a:Act}{K:Exit->St->Prop}{Q:Exit->Act->World->Prop},Sat E.n B h0 s h β w a ->
 jF E c s K->(∀e s' h' β' w' a' B',Base.ZR E.rd B B'->K e s'->h.le h'->Sat E.n B' h0 s' h' β' w' a'->Same (writes c) a a'->Q e a' w')->c.wpIn F n P Q a w
 | .skip,h0,E,ok,hg,F,hF,hr,B,s,h,β,w,a,K,Q,ak,k,next=>wpIn_skip (next _ _ _ _ _ _ _ (.refl _) k (FH.le.refl h) ak (Same.refl _ _))
 | .exit i,h0,E,ok,hg,F,hF,hr,B,s,h,β,w,a,K,Q,ak,k,next=>wpIn_exit (next _ _ _ _ _ _ _ (.refl _) k (FH.le.refl h) ak (Same.refl _ _))
 | .ret,h0,E,ok,hg,F,hF,hr,B,s,h,β,w,a,K,Q,ak,k,next=>wpIn_ret (next _ _ _ _ _ _ _ (.refl _) k (FH.le.refl h) ak (Same.refl _ _))
 | .region id ops false,h0,E,ok,hg,F,hF,hr,B,s,h,β,w,a,K,Q,ak,k,next=>by
   simp only[jF]at k;split at k
   .cases k
   rename_i hnd;have et:tl ops=ops.toList:=by cases ops;rfl
   rw[et]at hnd k;refine Q8 (R:=λa w=>Q .normal a w) hF (λ_ _ hh=>hh) hnd (KC ok hg ops.toList ak (by rw[et];exact k) λs' h' β' w' a' k' le aY sm=>next .normal _ _ _ _ _ _ (.refl _) k' le aY.clean ?_)
   simp only[writes];rw[et];exact sm
 | .seq x y,h0,E,ok,hg,F,hF,hr,B,s,h,β,w,a,K,Q,ak,k,next=>by
   simp only[jF]at k;split at k
   .rename_i la _;obtain⟨β0,ak6⟩:=ak.yA la.pad;clear ak;generalize yA la.pad s=s at ak6 k;generalize β0=β at ak6;have ak:=ak6;obtain⟨k1,k2⟩:=k;have D0:∀h' a',h.le h'->Same (writes x) a a'->∀t e,iJ (qN (fD la.drop (writes x)) [] s.env) t=some ([],e)->∃z,a'.tmps[t]?=some z/\kJ h' [] e z:=by
     intro h' a' le sm t e ht;obtain⟨_,hw,hl,_,hf⟩:=lI ht;obtain⟨z,q1,q2,_⟩:=ak.env t [] e hl;exact⟨z,by rw[sm t (by rw[lX,lM]at hw;exact hw.2)];exact q1,(kJ.lZ [] hf (q2 rfl)).mono le (Ext.refl _)⟩
    refine wpIn_seq (jl x ok hg hF hr ak k1 λe s' h' β' w' a' B1 lb k' le aY sm=>?_)
    cases e with
    | normal=>
      simp only at k';unfold apD at k';obtain⟨h1,β1,le1,bM⟩:=Sat.uK aY la.Hq la.uT la.nil la.pX la.deep;obtain⟨β20,apM⟩:=bM.oI la.ren;obtain⟨β2,Ro⟩:=apM.uQ la.can;split at k'
      .rename_i hR;obtain⟨v,j1,j2,j3⟩:=k';have kk:=k2 v j1;split at kk
       .cases kk
       .rename_i hc;rw[aF,cZ]at hc;exact jl y ok hg hF hr (zS Ro j3 hc.1 hc.2 j2 (sK hR) (D0 h1 a' (le.trans le1) sm)) kk λe s2 h2 β3 w2 a2 B2 AV k3 iK ZQ xG=>next e s2 h2 β3 w2 a2 B2 (lb.trans AV) k3 ((le.trans le1).trans iK) ZQ (sm.left.trans xG.right)
      .exact k'.elim
    | exit i=>exact next _ _ _ _ _ _ _ lb k' le aY sm.left
    | goto l=>exact next _ _ _ _ _ _ _ lb k' le aY sm.left
    | ret=>exact next _ _ _ _ _ _ _ lb k' le aY sm.left
    | panic ch=>exact next _ _ _ _ _ _ _ lb k' le aY sm.left
    | outgrown=>exact next _ _ _ _ _ _ _ lb k' le aY sm.left
   .refine wpIn_seq (jl x ok hg hF hr ak k λe s' h' β' w' a' B1 lb k' le aY sm=>?_)
    cases e with
    | normal=>exact jl y ok hg hF hr aY k' λe s2 h2 β2 w2 a2 B2 AV k2 iK bM xG=>next e s2 h2 β2 w2 a2 B2 (lb.trans AV) k2 (le.trans iK) bM (sm.left.trans xG.right)
    | exit i=>exact next _ _ _ _ _ _ _ lb k' le aY sm.left
    | goto l=>exact next _ _ _ _ _ _ _ lb k' le aY sm.left
    | ret=>exact next _ _ _ _ _ _ _ lb k' le aY sm.left
    | panic ch=>exact next _ _ _ _ _ _ _ lb k' le aY sm.left
    | outgrown=>exact next _ _ _ _ _ _ _ lb k' le aY sm.left
 | .cond c x y,h0,E,ok,hg,F,hF,hr,B,s,h,β,w,a,K,Q,ak,k,next=>by
   simp only[jF]at k;split at k
   .rename_i b hb;have hc:a.eval c=.bool b:=(aS ak (hg.mono ak.ok.hle) (show gv s.gl []=true from rfl) hb).1.1
    refine wpIn_cond_split hc (λht=>jl x ok hg hF hr ak ((ah.1 k).1 ht) λe s' h' β' w' a' B1 lb k' le aY sm=>next _ _ _ _ _ _ _ lb k' le aY sm.left)
     (λhf=>jl y ok hg hF hr ak ((ah.1 k).2 hf) λe s' h' β' w' a' B1 lb k' le aY sm=>next _ _ _ _ _ _ _ lb k' le aY sm.right)
   .cases k
 | .block id c,h0,E,ok,hg,F,hF,hr,B,s,h,β,w,a,K,Q,ak,k,next=>by
   refine wpIn_block (jl c ok hg hF hr ak k λe s' h' β' w' a' B1 lb k' le aY sm=>?_)
   cases e with
   | normal=>exact next _ _ _ _ _ _ _ lb k' le aY sm
   | exit i=>
     simp only at k';simp only[Exit.inBlock];split at k'
     .rename_i hi;have:i=id:=iI hi;rw[if_pos this];exact next _ _ _ _ _ _ _ lb k' le aY sm
     .rename_i hi;have:¬i=id:=λhh=>by rw[hh]at hi;simp at hi
      rw[if_neg this];exact next _ _ _ _ _ _ _ lb k' le aY sm
   | goto l=>exact next _ _ _ _ _ _ _ lb k' le aY sm
   | ret=>exact next _ _ _ _ _ _ _ lb k' le aY sm
   | panic ch=>exact next _ _ _ _ _ _ _ lb k' le aY sm
   | outgrown=>exact next _ _ _ _ _ _ _ lb k' le aY sm
 | .loop c,h0,E,ok,hg,F,hF,hr,B,s,h,β,w,a,K,Q,ak,k,next=>by
   simp only[jF]at k;split at k
   .rename_i la _;obtain⟨h1,β1,le1,jE⟩:=Sat.uK ak la.Hq la.uT la.nil la.pX la.deep
    replace next:=λe s' h' β' w' a' B1 lb k' le aY sm=>next e s' h' β' w' a' B1 lb k' (le1.trans le) aY sm
    clear le1 ak;clear h
    rename FH=>h
    generalize uK s la.Hq la.uT la.nil la.pX la.deep=s at jE k;obtain⟨β2,ak⟩:=jE.yA la.pad;clear jE;have jE:=ak;clear ak;generalize yA la.pad s=s at jE k;have ak:=jE;clear jE;obtain⟨⟨x,i1,i2,i3⟩,k2⟩:=k;have good:∀x,la.inv x->xC (aT s.T) (kT (la.res x) s.T)=true/\IQ (aT s.T) (fD la.drop (writes c)) (la.slots x)=true /\
     jF E c (ru (fD la.drop (writes c)) s (la.slots x) (la.res x)) (λe s'=>match e with
      | .normal=>match FU (uQ la.can (oI la.ren s')) (keepR (aT s.T) (fD la.drop (writes c)) [] s.env) with
        | true=>∃x',la.inv x'/\Ib (uQ la.can (oI la.ren s')) (la.slots x')/\rH (aT s.T) (uQ la.can (oI la.ren s')).T=kT (la.res x') s.T/\la.meas x' < la.meas x
        | false=>False
      | e=>K e s'):=by
     intro x hx;have:=k2 x hx;split at this
     .cases this
     .rename_i hc;rw[aF,cZ]at hc;exact⟨hc.1,hc.2,this⟩
    have D0:∀h' a',h.le h'->Same (writes c) a a'->∀t e,iJ (qN (fD la.drop (writes c)) [] s.env) t=some ([],e)->∃z,a'.tmps[t]?=some z/\kJ h' [] e z:=by
     intro h' a' le sm t e ht;obtain⟨_,hw,hl,_,hf⟩:=lI ht;obtain⟨z,q1,q2,_⟩:=ak.env t [] e hl;exact⟨z,by rw[sm t (by rw[lX,lM]at hw;exact hw.2)];exact q1,(kJ.lZ [] hf (q2 rfl)).mono le (Ext.refl _)⟩
    refine wpIn_loop_ghost (λn a' w'=>∃x h' β' B1,Base.ZR E.rd B B1/\la.meas x=n/\la.inv x/\h.le h'/\Sat E.n B1 h0 (ru (fD la.drop (writes c)) s (la.slots x) (la.res x)) h' β' w' a'/\Same (writes c) a a') (la.meas x) ?_ ?_
    .obtain⟨g1,g2,_⟩:=good x i1;refine⟨x,h,_,B,.refl _,rfl,i1,FH.le.refl h,zS ak ?_ g1 g2 i2 (λp hp=>(sN p hp).2) (D0 h a (FH.le.refl h) (Same.refl _ _)),Same.refl _ _⟩
     rw[<-i3,jW,bI,Wj]
    .rintro n a' w' ⟨x,h',β',B1,lb,rfl,hx,le,aY,sm⟩;obtain⟨g1,g2,kk⟩:=good x hx;refine jl c ok hg hF hr aY kk λe s2 h2 β2 w2 a2 B2 AV k2 iK bM xG=>?_
     cases e with
     | normal=>
       simp only at k2;split at k2
       .rename_i hR;obtain⟨x',j1,j2,j3,j4⟩:=k2;obtain⟨g1',g2',_⟩:=good x' j1;obtain⟨β30,apN⟩:=bM.oI la.ren;obtain⟨β3,bM⟩:=apN.uQ la.can;refine⟨la.meas x',j4,x',h2,_,B2,lb.trans AV,rfl,j1,le.trans iK,zS bM j3 g1' g2' j2 (sK hR) (D0 h2 a2 (le.trans iK) (sm.trans xG)),sm.trans xG⟩
       .cases k2
     | exit i=>exact next _ _ _ _ _ _ _ (lb.trans AV) k2 (le.trans iK) bM (sm.trans xG)
     | goto l=>exact next _ _ _ _ _ _ _ (lb.trans AV) k2 (le.trans iK) bM (sm.trans xG)
     | ret=>exact next _ _ _ _ _ _ _ (lb.trans AV) k2 (le.trans iK) bM (sm.trans xG)
     | panic ch=>exact next _ _ _ _ _ _ _ (lb.trans AV) k2 (le.trans iK) bM (sm.trans xG)
     | outgrown=>exact next _ _ _ _ _ _ _ (lb.trans AV) k2 (le.trans iK) bM (sm.trans xG)
   .rename_i m _;refine wpIn_loop_rounds m ?_;have key:∀(m:Nat){B:Base}{s:St}{h:FH}{β:List RV}{w:World}{a:Act}{K:Exit->St->Prop}{Q:Exit->Act->World->Prop},Sat E.n B h0 s h β w a->KF (jF E c) m s K ->
     (∀e s' h' β' w' a' B',Base.ZR E.rd B B'->K e s'->h.le h'->Sat E.n B' h0 s' h' β' w' a'->Same (writes c) a a'->Q e a' w')->Code.roundsIn F n P c Q m a w:=by
     intro m
     induction m with
     | zero=>intro B s h β w a K Q ak k next;cases k
     | succ m ih=>
       intro B s h β w a K Q ak k next
       rw[roundsIn_succ];refine jl c ok hg hF hr ak k λe s2 h2 β2 w2 a2 B2 AV k2 iK bM xG=>?_
       cases e with
       | normal=>exact ih bM k2 λe s3 h3 β3 w3 a3 B3 lb3 k3 le3 Ro sm3=>next e s3 h3 β3 w3 a3 B3 (AV.trans lb3) k3 (iK.trans le3) Ro (xG.trans sm3)
       | exit i=>exact next _ _ _ _ _ _ _ AV k2 iK bM xG
       | goto l=>exact next _ _ _ _ _ _ _ AV k2 iK bM xG
       | ret=>exact next _ _ _ _ _ _ _ AV k2 iK bM xG
       | panic ch=>exact next _ _ _ _ _ _ _ AV k2 iK bM xG
       | outgrown=>exact next _ _ _ _ _ _ _ AV k2 iK bM xG
    exact key m ak k next
   .cases k
 | .region id ops true,h0,E,ok,hg,F,hF,hr,B,s,h,β,w,a,K,Q,ak,k,next=>by
   simp only[jF]at k;split at k
   .cases k
   rename_i hnd;have et:tl ops=ops.toList:=by cases ops;rfl
   cases hma:BF E.cx (tl ops) with
   | true=>
     rw[hma]at k;simp only at k;cases hlx:ae7 ops with
     | false=>rw[hlx]at k;cases k
     | true=>
       rw[hlx]at k;exact ZL ok hg hlx ak k hF (by rw[et]at hnd;exact hnd) λs' h' β' w' a' k' le aY sm=>next .normal _ _ _ _ _ _ (.refl _) k' le aY.clean sm
   | false=>
   rw[hma]at k;simp only at k;cases Uh:orB E.cx.rt (N9 E (tl ops)) with
   | true=>
     rw[Uh]at k;simp only at k;cases hd:zL ops with
     | none=>rw[hd]at k;cases k
     | some l=>
       rw[hd]at k;exact ZM ok hg hd ak k hF (by rw[et]at hnd;exact hnd) λs' h' β' w' a' k' le aY sm=>next .normal _ _ _ _ _ _ (.refl _) k' le aY.clean sm
   | false=>
   rw[Uh]at k;simp only at k;cases hd:wP ops with
   | none=>rw[hd]at k;cases k
   | some l=>
     rw[hd]at k;exact UA ok hg hd ak k hF (by rw[et]at hnd;exact hnd) λs' h' β' w' a' k' le aY sm=>next .normal _ _ _ _ _ _ (.refl _) k' le aY.clean sm
 | .rangeFunc g ps Hr c,h0,E,ok,hg,F,hF,hr,B,s,h,β,w,a,K,Q,ak,k,next=>by
   simp only[jF]at k;split at k
   .cases k
   rename_i hrd;have hF':=hr hrd;subst hF';split at k
   .rename_i P' ss L hgE;split at k
    .rename_i ra _;obtain⟨hP,k⟩:=k;have hP:=ok.prog _ hP;subst hP;have gv0:Gives P' h ss L (a.eval g):=(aS ak (hg.mono ak.ok.hle) (show gv s.gl []=true from rfl) hgE).1
     obtain⟨h1,β1,le1,bM⟩:=Sat.uK ak ra.Hq ra.uT ra.nil ra.pX ra.deep
     replace next:=λe s' h' β' w' a' B1 lb k' le aY sm=>next e s' h' β' w' a' B1 lb k' (le1.trans le) aY sm
     have gv1:=Ho.yV (x:=.seq P' ss L) le1 gv0;generalize uK s ra.Hq ra.uT ra.nil ra.pX ra.deep=s2 at bM k;refine ZV (λc' hc' h0' E' B' s' h' β' w' a' K' Q' l ok' hg' he aY k' next'=>?_) ok hg bM gv1 k hrd next
     rcases hc' with rfl | rfl
     .exact jl _ ok' hg' (F:=Fence.wide.inRound l) (.inr ⟨l,rfl⟩) (λhh=>by rw[he]at hh;cases hh) aY k' next'
     .exact jl _ ok' hg' (F:=Fence.wide.inRound l) (.inr ⟨l,rfl⟩) (λhh=>by rw[he]at hh;cases hh) aY k' next'
    .cases k
   .cases k
 | .scope _,h0,E,ok,hg,F,hF,hr,B,s,h,β,w,a,K,Q,ak,k,next=>k.elim
 | .label _,h0,E,ok,hg,F,hF,hr,B,s,h,β,w,a,K,Q,ak,k,next=>k.elim
 | .goto _,h0,E,ok,hg,F,hF,hr,B,s,h,β,w,a,K,Q,ak,k,next=>k.elim
 | .refuse _,h0,E,ok,hg,F,hF,hr,B,s,h,β,w,a,K,Q,ak,k,next=>k.elim
abbrev resV(cx:Cx) (s:St) (r:ResultVar) (K:SV->Prop):Prop:=match r with
 | .tmp t=>match iJ s.env t with
   | some ([],.one v)=>K v
   | _=>False
 | .cell p t=>match iJ s.env p with
   | some ([],.one (.c q))=>vk cx s [] t q λe=>match e with
     | .one v=>K v
     | _=>False
   | _=>False
abbrev Z4(cx:Cx) (s:St):List ResultVar->(List SV->Prop)->Prop
 | [],K=>K []
 | r :: l,K=>resV cx s r λv=>Z4 cx s l λvs=>K (v :: vs)
abbrev Rt(i:Nat):List (Nat×aj)->Bool
 | []=>false
 | (j,_) :: l=>match Nat.beq i j with
   | true=>true
   | false=>Rt i l
abbrev selC(T:List (Gd×aj)) (x:SC) (acc:List (Nat×aj)):Option (SC×List (Nat×aj)):=match x with
 | .v u=>some (.v u,acc)
 | .sl sh l=>some (.sl sh l,acc)
 | .fp sh d=>some (.fp sh d,acc)
 | .one sh d=>some (.one sh d,acc)
 | .abs x=>some (.abs x,acc)
 | .row i=>match fE T i with
   | some ([],.row t sh l)=>match Rt i acc with
     | true=>none
     | false=>some (.row (aT acc),snoc acc (i,.row t sh l))
   | some ([],.deep t sh l tt e so own hs)=>match Rt i acc with
     | true=>none
     | false=>some (.row (aT acc),snoc acc (i,.deep t sh l tt e so own hs))
   | some ([],.mp k sh l)=>match Rt i acc with
     | true=>none
     | false=>some (.row (aT acc),snoc acc (i,.mp k sh l))
   | _=>none
 | _=>none
abbrev Oe(T:List (Gd×aj)):List SC->List (Nat×aj)->Option (List SC×List (Nat×aj))
 | [],acc=>some ([],acc)
 | x :: l,acc=>match selC T x acc with
   | some (y,acc)=>match Oe T l acc with
     | some (m,acc)=>some (y :: m,acc)
     | none=>none
   | none=>none
abbrev ak7(T:List (Gd×aj)) (v:SV) (acc:List (Nat×aj)):Option (SV×List (Nat×aj)):=match v with
 | .c x=>match selC T x acc with
   | some (y,acc)=>some (.c y,acc)
   | none=>none
 | .agg xs=>match Oe T xs acc with
   | some (ys,acc)=>some (.agg ys,acc)
   | none=>none
 | .dat sh d=>some (.dat sh d,acc)
 | .und=>none
abbrev Og(T:List (Gd×aj)):List SV->List (Nat×aj)->Option (List SV×List (Nat×aj))
 | [],acc=>some ([],acc)
 | x :: l,acc=>match ak7 T x acc with
   | some (y,acc)=>match Og T l acc with
     | some (m,acc)=>some (y :: m,acc)
     | none=>none
   | none=>none
abbrev apO:List SV->aW
 | [v]=>.one v
 | vs=>.gY vs
abbrev Xv:List (Nat×aj)->List aj
 | []=>[]
 | (_,r) :: l=>r :: Xv l
abbrev afd(T:List (Gd×aj)) (vs:List SV) (R:List aj->aW->Prop):Prop:=match Og T vs []with
 | some (vs',acc)=>R (Xv acc) (apO vs')
 | none=>False
abbrev Dj(n:Nat):List SV->List (Nat×Gd×aW)
 | []=>[]
 | v :: l=>(n,[],.one v) :: Dj (Nat.succ n) l
abbrev frC(T:List (Gd×aj)) (x:SC):Option (List (Gd×aj)×SC):=match x with
 | .row i=>match fE T i with
   | some ([],.row _ sh l)=>some (dK T i ([],.gone),.sl sh l)
   | some ([],.deep _ sh l _ _ _ _ [])=>some (dK T i ([],.gone),.sl sh l)
   | some ([],.mp k sh l)=>some (dK T i ([],.gone),.one (.mp k sh) l)
   | _=>none
 | x=>some (T,x)
abbrev frL(T:List (Gd×aj)):List SC->Option (List (Gd×aj)×List SC)
 | []=>some (T,[])
 | x :: l=>match frC T x with
   | some (T,y)=>match frL T l with
     | some (T,m)=>some (T,y :: m)
     | none=>none
   | none=>none
abbrev frV(T:List (Gd×aj)) (v:SV):Option (List (Gd×aj)×SV):=match v with
 | .c x=>match frC T x with
   | some (T,y)=>some (T,.c y)
   | none=>none
 | .agg xs=>match frL T xs with
   | some (T,ys)=>some (T,.agg ys)
   | none=>none
 | v=>some (T,v)
abbrev coV(c:RC) (T:List (Gd×aj)) (v:SV) (K:List (Gd×aj)->SV->Prop):Prop:=match c with
 | .keep=>K T v
 | .data sh=>match frV T v with
   | some (T,v)=>match toDat sh v with
     | some d=>K T (iP sh d)
     | none=>False
   | none=>False
 | .row t sh=>match v with
   | .c (.v (.slice none 0 0))=>K (snoc T ([],.row t sh [])) (.c (.row (aT T)))
   | v=>K T v
 | .hd t sh rest=>match v with
   | .agg (x :: xs)=>match frL T xs with
     | some (T',ys)=>match takeD rest ys with
       | some (d,[])=>match flat rest d with
         | some zs=>match x with
           | .v (.slice none 0 0)=>K (snoc T' ([],.row t sh [])) (.agg (.row (aT T') :: zs))
           | x=>K T' (.agg (x :: zs))
         | none=>False
       | _=>False
     | none=>False
   | _=>False
abbrev coK:List RC->List (Gd×aj)->List SV->(List (Gd×aj)->List SV->Prop)->Prop
 | [],T,vs,K=>K T vs
 | _ :: _,T,[],K=>K T []
 | c :: cs,T,v :: vs,K=>coV c T v λT v=>coK cs T vs λT vs=>K T (v :: vs)
section
variable {B:Base}{h0:FH}{gl:List Bool}{w:World}
theorem Z5{T':List (Gd×aj)} (ok:OK B h0 (eff gl T) h β w){x x':SC} (e:frC T x=some (T',x')) (c:eU h β x y):
 ∃h',h.le h'/\OK B h0 (eff gl T') h' β w/\eU h' β x' y:=by
 unfold frC at e;split at e
 .rename_i i;split at e
  .rename_i t sh l hT;cases e;have gy:(eff gl T)[i]?=some (.row t sh l):=by rw[jO,<-fQ,hT];rfl
   obtain⟨h',le,ok',sl⟩:=ok.freeze gy (ok.row_of gy c);exact⟨h',le,by rw[gq];exact ok',sl⟩
  .rename_i t sh l t2 e2 so own hT;cases e;have gy:(eff gl T)[i]?=some (.deep t sh l t2 e2 so own []):=by rw[jO,<-fQ,hT];rfl
   obtain⟨us,hu,hd⟩:=ok.wG gy c;obtain⟨le,ok',vis⟩:=ok.wB gy rfl hu;exact⟨_,le,by rw[gq];exact ok',hd.data le λb hb o z hz=>vis b hb o z hz⟩
  .rename_i k sh l hT;cases e;have gy:(eff gl T)[i]?=some (.mp k sh l):=by rw[jO,<-fQ,hT];rfl
   have hu:=ok.ajt gy c;obtain⟨le,ok',vs⟩:=ok.wB gy rfl hu;exact⟨_,le,by rw[gq];exact ok',Um (β:=β) (ok.holds i _ _ gy hu) le λb hb o z hz=>vs b hb o z hz⟩
  .cases e
 .cases e;exact⟨h,FH.le.refl h,ok,c⟩
theorem Ru:∀{xs xs':List SC}{T T':List (Gd×aj)}{h:FH}{β:List RV}{ys:List Value},OK B h0 (eff gl T) h β w->frL T xs=some (T',xs')->aV (λx y=>eU h β x y/\dO y) xs ys ->
 ∃h',h.le h'/\OK B h0 (eff gl T') h' β w/\aV (λx y=>eU h' β x y/\dO y) xs' ys
 | [],xs',T,T',h,β,[],ok,e,_=>by simp[frL]at e;obtain⟨rfl,rfl⟩:=e;exact⟨h,FH.le.refl h,ok,trivial⟩
 | x :: l,xs',T,T',h,β,y :: ys,ok,e,⟨c,r⟩=>by
   unfold frL at e;split at e
   .rename_i T1 x1 h1;split at e
    .rename_i T2 m h2;cases e;obtain⟨ha,le1,ok1,c1⟩:=Z5 ok h1 c.1;obtain⟨hb,iK,ok2,c2⟩:=Ru ok1 h2 (r.mono λ_ _ q=>⟨q.1.mono le1 (Ext.refl β),q.2⟩)
     exact⟨hb,le1.trans iK,ok2,⟨c1.mono iK (Ext.refl β),c.2⟩,c2⟩
    .cases e
   .cases e
theorem ak8{T':List (Gd×aj)} (ok:OK B h0 (eff gl T) h β w){x x':SV} (e:frV T x=some (T',x')) (c:dJ h β x y):
 ∃h',h.le h'/\OK B h0 (eff gl T') h' β w/\dJ h' β x' y:=by
 unfold frV at e;split at e
 .split at e
  .rename_i T1 y1 h1;cases e;obtain⟨h',le,ok',c'⟩:=Z5 ok h1 c.1;exact⟨h',le,ok',c',c.2⟩
  .cases e
 .split at e
  .rename_i T1 y1 h1;cases e;obtain⟨ys,rfl,a⟩:=c;obtain⟨h',le,ok',c'⟩:=Ru ok h1 a;exact⟨h',le,ok',ys,rfl,c'⟩
  .cases e
 .cases e;exact⟨h,FH.le.refl h,ok,c⟩
theorem ak9(ok:OK B h0 (eff gl T) h β w){c:RC}{v:SV}{K:List (Gd×aj)->SV->Prop} (k:coV c T v K) (cv:dJ h β v y):
 ∃T' v' h' β',K T' v'/\h.le h'/\Ext β β'/\OK B h0 (eff gl T') h' β' w/\dJ h' β' v' y:=by
 unfold coV at k;split at k
 .exact⟨T,v,h,β,k,FH.le.refl h,Ext.refl β,ok,cv⟩
 .split at k
  .rename_i T1 v1 h1;split at k
   .rename_i d hd;obtain⟨h',le,ok',c'⟩:=ak8 ok h1 cv;obtain⟨cs,rfl,rd⟩:=toDat_ok hd c';exact⟨T1,_,h',β,k,le,Ext.refl β,ok',jX _ rd⟩
   .cases k
  .cases k
 .rename_i t sh;split at k
  .obtain⟨e,_⟩:=cv;obtain⟨rfl,_⟩:=e;refine⟨_,_,h,β++[.row (.slice none 0 0)],k,FH.le.refl h,Ext.append _ _,?_,?_⟩
   .rw[iY,pR];exact ok.add (r:=.row t sh []) (v:=.row (.slice none 0 0)) (dD w none) (λb hb=>by rw[bG]at hb;simp[aC]at hb) (.inl ⟨rfl,rfl⟩)
   .refine⟨⟨.row (.slice none 0 0),?_,rfl⟩,rfl,rfl⟩;have:aT T=β.length:=by rw[ok.len,jA,bI]
    rw[this];simp
  .exact⟨T,v,h,β,k,FH.le.refl h,Ext.refl β,ok,cv⟩
 .rename_i t sh rest;split at k
  .rename_i x xs;split at k
   .rename_i T' ys hfr;split at k
    .rename_i d htk;split at k
     .rename_i zs hfl;obtain⟨us,e0,a⟩:=cv;cases us with
      | nil=>exact a.elim
      | cons u us=>
        obtain⟨cu,a⟩:=a;obtain⟨h',le,ok',a'⟩:=Ru ok hfr a;obtain⟨c1,c2,e1,rd,a2⟩:=pG rest htk a';have ec:c2=[]:=by cases c2 with | nil=>rfl | cons _ _=>exact a2.elim
        subst ec;rw[JE]at e1;subst e1;split at k
        .obtain⟨⟨rfl,_⟩,_⟩:=cu;refine⟨_,_,h',β++[.row (.slice none 0 0)],k,le,Ext.append _ _,?_,?_⟩
         .rw[iY,pR];exact ok'.add (r:=.row t sh []) (v:=.row (.slice none 0 0)) (dD w none) (λb hb=>by rw[bG]at hb;simp[aC]at hb) (.inl ⟨rfl,rfl⟩)
         .refine⟨.slice none 0 0 :: us,e0,⟨⟨.row (.slice none 0 0),?_,rfl⟩,rfl,rfl⟩,yY rest hfl rd⟩;have:aT T'=β.length:=by rw[ok'.len,jA,bI]
          rw[this];simp
        .exact⟨T',_,h',β,k,le,Ext.refl β,ok',u :: us,e0,⟨cu.1.mono le (Ext.refl β),cu.2⟩,yY rest hfl rd⟩
     .cases k
    .cases k
   .cases k
  .cases k
theorem Z7:∀{cs:List RC}{vs:List SV}{ys:List Value}{T:List (Gd×aj)}{h:FH}{β:List RV}{K:List (Gd×aj)->List SV->Prop},OK B h0 (eff gl T) h β w->coK cs T vs K->aV (dJ h β) vs ys ->
 ∃T' vs' h' β',K T' vs'/\h.le h'/\Ext β β'/\OK B h0 (eff gl T') h' β' w/\aV (dJ h' β') vs' ys
 | [],vs,ys,T,h,β,K,ok,k,a=>⟨T,vs,h,β,k,FH.le.refl h,Ext.refl β,ok,a⟩
 | _ :: _,[],ys,T,h,β,K,ok,k,a=>⟨T,[],h,β,k,FH.le.refl h,Ext.refl β,ok,a⟩
 | c :: cs,v :: vs,y :: ys,T,h,β,K,ok,k,⟨cv,a⟩=>by
   obtain⟨T1,v1,h1,β1,k1,le1,eb1,ok1,c1⟩:=ak9 ok k cv;obtain⟨T2,vs2,h2,β2,k2,iK,eb2,ok2,c2⟩:=Z7 ok1 k1 (a.mono λ_ _ q=>q.mono le1 eb1)
   exact⟨T2,v1 :: vs2,h2,β2,k2,le1.trans iK,λi u e=>eb2 i u (eb1 i u e),ok2,c1.mono iK eb2,c2⟩
end
abbrev vX(E:Env) (body:Code) (rs:List ResultVar) (args:List SV) (R:List aj->aW->Prop):Prop:=
 jF E body { env:=Dj 0 args,T:=[],gl:=[],gs:=[] } λe s=>match e with
  | .normal=>Z4 E.cx s rs λvs=>coK E.rc s.T vs λT vs=>afd T vs R
  | .ret=>Z4 E.cx s rs λvs=>coK E.rc s.T vs λT vs=>afd T vs R
  | _=>False
section
variable {B:Base}{h0:FH}{h:FH}{β:List RV}{w:World}{T:List (Gd×aj)}{gl:List Bool}
def aj.isRow:aj->Prop
 | .row _ _ _=>True
 | .deep _ _ _ _ _ _ _ _=>True
 | .mp _ _ _=>True
 | _=>False
structure uM (T:List aj) (acc:List (Nat×aj)):Prop where
 at_:∀p∈acc,T[p.1]?=some p.2/\p.2.isRow
 dup:∀(i j:Nat) p q,acc[i]?=some p->acc[j]?=some q->p.1=q.1->i=j
def l7(β:List RV) (acc:List (Nat×aj)):List RV:=acc.map λp=>β.getD p.1 .no
theorem yD:∀{acc:List (Nat×aj)}{i:Nat},Rt i acc=false->∀p∈acc,p.1≠i
 | [],i,_,p,hp=>by simp at hp
 | (j,r) :: l,i,h,p,hp=>by
   simp only[Rt]at h;split at h
   .cases h
   .rename_i hij;rcases nG.1 hp with rfl | hp
    .exact λhh=>Yi hij hh.symm
    .exact yD h p hp
theorem uM.snoc{T:List aj} (k:uM T acc){r:aj} (hT:T[i]?=some r) (hr:r.isRow) (hm:Rt i acc=false):uM T (acc++[(i,r)]) where
 at_:=by
  intro p hp;rw[Du]at hp;rcases hp with hp | hp
  .exact k.at_ p hp
  .simp at hp;subst hp;exact⟨hT,hr⟩
 dup:=by
  intro a b p q ha hb e;rcases aG ha with⟨h1,ha⟩ | ⟨h1,rfl⟩<;>rcases aG hb with⟨h2,hb⟩ | ⟨h2,rfl⟩
  .exact k.dup a b p q ha hb e
  .exact(yD hm p (gQ ha) e).elim
  .exact(yD hm q (gQ hb) e.symm).elim
  .omega
theorem FY(β:List RV) (acc ext:List (Nat×aj)):Ext (l7 β acc) (l7 β (acc++ext)):=by
 unfold l7;rw[Qj];exact Ext.append _ _
theorem UG(ok:OK B h0 (eff gl T) h β w){x x':SC}{acc':List (Nat×aj)} (e:selC T x acc=some (x',acc')) (k:uM (eff gl T) acc) (c:eU h β x y):
 uM (eff gl T) acc'/\(∃ext,acc'=acc++ext)/\eU h (l7 β acc') x' y:=by
 unfold selC at e;split at e
 .cases e;exact⟨k,⟨[],by simp⟩,c⟩
 .cases e;exact⟨k,⟨[],by simp⟩,c⟩
 .cases e;exact⟨k,⟨[],by simp⟩,c⟩
 .cases e;exact⟨k,⟨[],by simp⟩,c⟩
 .cases e;exact⟨k,⟨[],by simp⟩,c⟩
 .rename_i i;split at e
  .rename_i t sh l hT;split at e
   .cases e
   .rename_i hm;cases e;have gy:(eff gl T)[i]?=some (.row t sh l):=by rw[jO,<-fQ,hT];rfl
    rw[iY];refine⟨k.snoc gy trivial hm,⟨_,rfl⟩,?_⟩;obtain⟨u,c,cs⟩:=c;refine⟨u,?_,cs⟩;unfold l7;rw[Qj,bI,Qd (by simp)]
    simp[c]
  .rename_i t sh l t2 e2 so own hs hT;split at e
   .cases e
   .rename_i hm;cases e;have gy:(eff gl T)[i]?=some (.deep t sh l t2 e2 so own hs):=by rw[jO,<-fQ,hT];rfl
    rw[iY];refine⟨k.snoc gy trivial hm,⟨_,rfl⟩,?_⟩;obtain⟨u,c,cs⟩:=c;refine⟨u,?_,cs⟩;unfold l7;rw[Qj,bI,Qd (by simp)]
    simp[c]
  .rename_i k2 sh l hT;split at e
   .cases e
   .rename_i hm;cases e;have gy:(eff gl T)[i]?=some (.mp k2 sh l):=by rw[jO,<-fQ,hT];rfl
    rw[iY];refine⟨k.snoc gy trivial hm,⟨_,rfl⟩,?_⟩;obtain⟨u,c,cs⟩:=c;refine⟨u,?_,cs⟩;unfold l7;rw[Qj,bI,Qd (by simp)]
    simp[c]
  .cases e
 .cases e
theorem Oh(ok:OK B h0 (eff gl T) h β w):∀{xs xs':List SC}{acc acc':List (Nat×aj)}{ys:List Value},Oe T xs acc=some (xs',acc')->uM (eff gl T) acc->aV (λx y=>eU h β x y/\dO y) xs ys ->
 uM (eff gl T) acc'/\(∃ext,acc'=acc++ext)/\aV (λx y=>eU h (l7 β acc') x y/\dO y) xs' ys
 | [],xs',acc,acc',[],e,k,_=>by simp[Oe]at e;obtain⟨rfl,rfl⟩:=e;exact⟨k,⟨[],by simp⟩,trivial⟩
 | x :: l,xs',acc,acc',y :: ys,e,k,⟨c,r⟩=>by
   unfold Oe at e;split at e
   .rename_i x1 ala h1;split at e
    .rename_i m asi h2;cases e;obtain⟨k1,⟨ext1,rfl⟩,c1⟩:=UG ok h1 k c.1;obtain⟨k2,⟨alb,rfl⟩,c2⟩:=Oh ok h2 k1 r;exact⟨k2,⟨ext1++alb,by rw[yU]⟩,⟨c1.mono (FH.le.refl h) (FY _ _ _),c.2⟩,c2⟩
    .cases e
   .cases e
theorem afe(ok:OK B h0 (eff gl T) h β w){x x':SV}{acc':List (Nat×aj)} (e:ak7 T x acc=some (x',acc')) (k:uM (eff gl T) acc) (c:dJ h β x y):
 uM (eff gl T) acc'/\(∃ext,acc'=acc++ext)/\dJ h (l7 β acc') x' y:=by
 unfold ak7 at e;split at e
 .split at e
  .rename_i y1 ala h1;cases e;obtain⟨k1,e1,c1⟩:=UG ok h1 k c.1;exact⟨k1,e1,c1,c.2⟩
  .cases e
 .split at e
  .rename_i y1 ala h1;cases e;obtain⟨vs,e0,a⟩:=c;obtain⟨k1,e1,c1⟩:=Oh ok h1 k a;exact⟨k1,e1,vs,e0,c1⟩
  .cases e
 .cases e;exact⟨k,⟨[],by simp⟩,c⟩
 .cases e
theorem Oi(ok:OK B h0 (eff gl T) h β w):∀{xs xs':List SV}{acc acc':List (Nat×aj)}{ys:List Value},Og T xs acc=some (xs',acc')->uM (eff gl T) acc->aV (dJ h β) xs ys ->
 uM (eff gl T) acc'/\(∃ext,acc'=acc++ext)/\aV (dJ h (l7 β acc')) xs' ys
 | [],xs',acc,acc',[],e,k,_=>by simp[Og]at e;obtain⟨rfl,rfl⟩:=e;exact⟨k,⟨[],by simp⟩,trivial⟩
 | x :: l,xs',acc,acc',y :: ys,e,k,⟨c,r⟩=>by
   unfold Og at e;split at e
   .rename_i x1 ala h1;split at e
    .rename_i m asi h2;cases e;obtain⟨k1,⟨ext1,rfl⟩,c1⟩:=afe ok h1 k c;obtain⟨k2,⟨alb,rfl⟩,c2⟩:=Oi ok h2 k1 r;exact⟨k2,⟨ext1++alb,by rw[yU]⟩,dJ.mono (FH.le.refl h) (FY _ _ _) c1,c2⟩
    .cases e
   .cases e
theorem KH:∀(l:List (Nat×aj)),Xv l=l.map (·.2)
 | []=>rfl
 | (_,r) :: l=>by simp[Xv,KH l]
theorem OK.pick{T:List aj} (ok:OK B h0 T h β w) (k:uM T acc):OK B h0 (Xv acc) h (l7 β acc) w:=by
 have get:∀{i:Nat}{r:aj}{v:RV},(Xv acc)[i]?=some r->(l7 β acc)[i]?=some v->∃p,acc[i]?=some p/\T[p.1]?=some r/\β[p.1]?=some v/\r.isRow:=by
  intro i r v e e';rw[KH,Es]at e;unfold l7 at e';rw[Es]at e';cases hp:acc[i]? with
  | none=>rw[hp]at e;cases e
  | some p=>
    rw[hp]at e e';cases e;cases e';obtain⟨h1,h2⟩:=k.at_ p (gQ hp);have iT:p.1 < β.length:=by rw[ok.len];exact(eX.1 h1).1
    exact⟨p,rfl,h1,by simp[iT],h2⟩
 exact {
  below:=ok.below
  dr:=ok.dr
  len:=by rw[KH];simp[l7]
  holds:=by
   intro i r v e e';obtain⟨p,_,h1,h2,hr⟩:=get e e';have:=ok.holds _ _ _ h1 h2;cases r with
   | row _ _ _=>
     cases v with
     | row y=>exact this
     | _=>exact this.elim
   | deep _ _ _ _ _ _ _ _=>
     cases v with
     | deep y us=>exact this
     | _=>exact this.elim
   | mp _ _ _=>
     cases v with
     | row y=>exact this
     | _=>exact this.elim
   | P8 _ _ _ _=>exact hr.elim
   | it _ _ _ _=>exact hr.elim
   | MV _ _ _ _=>exact hr.elim
   | Ip _ _ _ _=>exact hr.elim
   | blk _ _=>exact hr.elim
   | obj _ _ _=>exact hr.elim
   | gone=>exact hr.elim
  own:=by
   intro i r v b e l e' hb;obtain⟨p,_,h1,h2,_⟩:=get e e';exact ok.own _ r v b h1 l h2 hb
  inj:=by
   intro i j r r' u v b e l e' l' f f' hb hb';obtain⟨p,p1,h1,h2,_⟩:=get e f;obtain⟨q,q1,h3,h4,_⟩:=get e' f';exact k.dup i j p q p1 q1 (ok.inj _ _ r r' u v b h1 l h3 l' h2 h4 hb hb')
  hle:=ok.hle
  hw:=ok.hw
  hg:=ok.hg
  kn:=ok.kn }
end
def KI(a:Act):ResultVar->Sem Value
 | .tmp t=>pure (a.tmps.getD t undef)
 | .cell p t=>do loadVar t (<-asAddr (a.tmps.getD p undef))
theorem aff(hc:cO P cx.ti) (ak:Sat N B h0 s h β w a){r:ResultVar}{K:SV->Prop} (k:resV cx s r K):
 ∃v y,K v/\(KI a r).run P w=.ok y w/\dJ h β v y:=by
 unfold resV at k;split at k
 .rename_i t;split at k
  .rename_i v hv;obtain⟨z,q1,q2,_⟩:=ak.env _ _ _ hv;exact⟨v,z,k,by simp[KI,q1],q2 rfl⟩
  .cases k
 .rename_i p t;split at k
  .rename_i q hq;obtain⟨z,q1,q2,_⟩:=ak.env _ _ _ hq;obtain⟨e,k1,k2⟩:=EM hc ak k;split at k1
   .rename_i v;obtain⟨y,r1,r2⟩:=k2 rfl z (q2 rfl).1;refine⟨v,y,k1,?_,r2⟩;have hz:∃ad,z=.pointer (some ad):=by
     have c:=(q2 rfl).1;cases q with
     | v x=>
       unfold vk at k;split at k
       .cases k
       .cases k
     | sl _ _=>
       unfold vk at k;split at k
       .cases k
       .cases k
     | fp _ _=>obtain⟨b,o,_,e,_⟩:=c;exact⟨_,e⟩
     | own _ _=>obtain⟨b,_,e⟩:=c;exact⟨_,e⟩
     | row _=>
       unfold vk at k;split at k
       .cases k
       .cases k
     | kM _ _ _ _=>obtain⟨_,g,_,_,e⟩:=c;exact⟨_,e⟩
     | mQ _ _ _ _ _=>obtain⟨_,_,g,_,_,e⟩:=c;exact⟨_,e⟩
     | sub _ _=>
       unfold vk at k;split at k
       .cases k
       .cases k
     | one _ _=>
       unfold vk at k;split at k
       .cases k
       .cases k
     | abs _=>
       unfold vk at k;split at k
       .cases k
       .cases k
     | junk=>
       unfold vk at k;split at k
       .cases k
       .cases k
    obtain⟨ad,rfl⟩:=hz;have hg:a.tmps.getD p undef=.pointer (some ad):=by simp[q1]
    simp only[KI];rw[hg];simpa[Instr.loadAt,Instr.sureAddr,asAddr]using r1 w (oq.refl w)
   .cases k1
  .cases k
theorem UH{cx:Cx}{P:Program} (hc:cO P cx.ti){N:Nat}{B:Base}{h0:FH}{s:St}{h:FH}{β:List RV}{w:World}{a:Act} (ak:Sat N B h0 s h β w a):∀{rs:List ResultVar}{K:List SV->Prop},Z4 cx s rs K ->
 ∃vs ys,K vs/\(rs.mapM (KI a)).run P w=.ok ys w/\aV (dJ h β) vs ys
 | [],K,k=>⟨[],[],k,rfl,trivial⟩
 | r :: l,K,k=>by
   obtain⟨v,y,k1,r1,c1⟩:=aff hc ak k;obtain⟨vs,ys,k2,r2,c2⟩:=UH hc ak k1;refine⟨v :: vs,y :: ys,k2,?_,c1,c2⟩;rw[List.mapM_cons];simp only[Sem.run_bind,Sem.run_pure];rw[r1];simp only[Result.andThen_ok];rw[r2];rfl
theorem Rw(fn:Func) (a:Act):results fn a.tmps=(do let vs <-fn.results.mapM (KI a);pure (if h:vs.size=1 then vs[0] else .tuple vs):Sem Value):=by
 unfold results
 congr 1
theorem CV{fn:Func}{ys:List Value}
 (h:((tl fn.results).mapM (KI a)).run P w=.ok ys w):
 (results fn a.tmps).run P w=.ok (match ys with | [y]=>y | _=>.tuple ys.toArray) w:=by
 rw[Rw];have e:(fn.results.mapM (KI a)).run P w=.ok ys.toArray w:=by
  cases hr:fn.results with
  | mk l=>
    rw[hr]at h;have e2:=List.mapM_toArray (m:=Sem) (f:=(KI a)) (l:=l);refine(oW (λx=>Sem.run P x w) e2).trans ?_
    simp only[Sem.run_map];rw[show Sem.run P (List.mapM (KI a) l) w=_ from h];rfl
 simp only[Sem.run_bind];rw[e];simp only[Result.andThen_ok,Sem.run_pure]
 congr 1
 match ys with
 | []=>rfl
 | [y]=>rfl
 | _ :: _ :: _=>simp
abbrev kD(fn:Func):Code:=match fn.body with
 | some c=>c
 | none=>.skip
theorem CW{P:Program}{fn:Func}{tmps:Array Value}{R:Ending->World->Prop}{N:Nat}{B:World}{h0:FH}{s:St}{h:FH}{β:List RV}:∀(X:List Nat){w:World},X.Nodup->(∀D∈X,B.heap.size<=D/\w.heap[D]?=some (.deferred (some []))) ->
 Sat N (Base.of B) h0 s h β w { tmps:=tmps,defers:=[] }->(∀w',Sat N (Base.of B) h0 s h β w' { tmps:=tmps,defers:=[] }->∃v,(results fn tmps).run P w'=.ok v w'/\R (.returned v) w') ->
 LeavesInM Fence.wide 0 P fn tmps R (X.map (λD=>({ target:=.collected D,args:=#[] }:Deferred))) .returning w
 | [],w,_,_,ak,fin=>fin w ak
 | D :: X,w,hn,hx,ak,fin=>by
   obtain⟨h1,h2⟩:=hx D (by simp)
   have hn:=Wn.1 hn;refine⟨λhh=>(by cases hh),.inl ⟨D,w.putObj D (.deferred none),rfl,run_takeDeferred h2,?_⟩⟩
   refine CW X hn.2 (λD' hD'=>?_) ⟨ak.ok.turn h1 (λk u hk=>hk.elim) h2 rfl,ak.env,ak.gs,Qr.nil rfl,ak.sz,ak.gb,ak.gT⟩ fin
   obtain⟨g1,g2⟩:=hx D' (by simp[hD'])
   refine⟨g1,(World.putObj_heap_other ?_).trans g2⟩;rintro rfl;exact hn.1 hD'
abbrev KJ:List Value->List SV
 | []=>[]
 | v :: l=>.c (.v v) :: KJ l
theorem UJ{h:FH}{β:List RV}:∀{l:List Value},(∀v∈l,EF v=true)->aV (dJ h β) (KJ l) l
 | [],_=>trivial
 | v :: l,hh=>⟨⟨⟨rfl,rO (hh v (by simp))⟩,rO (hh v (by simp))⟩,UJ λu hu=>hh u (by simp[hu])⟩
theorem aV.append{α β:Type}{R:α->β->Prop}:∀{l l':List α}{m m':List β},aV R l m->aV R l' m'->aV R (l++l') (m++m')
 | [],_,[],_,_,h=>h
 | _ :: _,_,_ :: _,_,⟨a,b⟩,h=>⟨a,aV.append b h⟩
theorem Rx(ok:gW P E){fn:Func}{sv:List SV} (hf:P.funcs[f]?=some fn) (hb:fn.body=some body) (hn:fn.ntmps=E.n) (hle:Nat.ble (aT ct.ps+aT sv) E.n=true)
 (k:∀d,ct.pre d->∃ann,vX { E with ann:=ann } body (tl fn.results) (fD (fK ct.ps d) sv) λT e=>(ct.res d).1=T/\(ct.res d).2=e):CTS P E.cx.gd f sv ct:=by
 intro d vs suf h B hw hg hargs hys aA;obtain⟨ann,kk⟩:=k d aA;have ok:gW P { E with ann:=ann }:=⟨ok.prog,ok.hc,ok.ZB,ok.mixed,ok.ti,ok.ct,ok.ip,ok.sq,ok.sf⟩
 have hlen:∀{ss:List Sh}{d:dh ss},(fK ss d).length=aT ss:=by
  intro ss
  induction ss with
  | nil=>intro d;rfl
  | cons s l ih=>intro d;simp[fK,aT,ih]
 have hvl:vs.length=aT ct.ps:=by rw[<-hargs.length,hlen]
 have hvn:(vs++suf).length<=E.n:=by rw[kK,hvl,<-hys.length,<-bI sv];exact qW hle
 replace hargs:aV (dJ h []) (fD (fK ct.ps d) sv) (vs++suf):=by
  rw[fZ];exact hargs.append hys
 generalize fD (fK ct.ps d) sv=av at hargs kk;clear hvl hys;generalize vs++suf=vs at hargs hvn ⊢;refine callsIn_wide.1 (callsIn_of_wp_marks (F:=Fence.wide) (n:=0) hf hb trivial ?_);have ak:Sat E.n (Base.of B) h { env:=Dj 0 av,T:=[],gl:=[],gs:=[] } h [] B { tmps:=vs.toArray++Array.replicate (fn.ntmps - vs.toArray.size) undef,defers:=[] }:=by
  have look:∀{xs:List SV}{ys:List Value}{n t:Nat}{G:Gd}{e:aW},aV (dJ h []) xs ys->iJ (Dj n xs) t=some (G,e)->∃y,G=[]/\n<=t/\ys[t - n]?=some y/\kJ h [] e y:=by
   intro xs
   induction xs with
   | nil=>intro ys n t G e _ hh;simp[Dj,iJ]at hh
   | cons x xs ih=>
     intro ys n t G e a hh;cases ys with
     | nil=>exact a.elim
     | cons y ys=>
       simp only[Dj]at hh;rw[bF]at hh;split at hh
       .rename_i hk;subst hk;cases hh;exact⟨y,rfl,qw _,by simp,a.1⟩
       .obtain⟨u,h1,h2,h3,h4⟩:=ih a.2 hh;refine⟨u,h1,by omega,?_,h4⟩
        rw[show t - n=(t - (n+1))+1 by omega]
        simpa using h3
  refine⟨⟨Bw.refl (Base.of B),qw _,rfl,λi r v e _=>by simp[eff]at e,λi r v b e _ _ _=>by simp[eff]at e,λi j r r' u v b e _ _ _ _ _ _ _=>by simp[eff]at e,FH.le.refl h,hw,λb o v hh=>.inl hh,λk o hh=>hh.elim⟩,?_,?_,Qr.nil rfl,?_,?_,?_⟩
  .intro t G e ht;obtain⟨y,rfl,h2,h3,h4⟩:=look hargs ht;simp only[Nat.sub_zero]at h3;refine⟨y,?_,λ_=>h4,λhh=>by cases hh⟩
   rw[Array.getElem?_append_left (by have:=(eX.1 h3).1;simpa using this)]
   simpa using h3
  .intro d i hi;cases hi
  .simp only[A89,Ht,Array.size_replicate];omega
  .intro t G e ht;obtain⟨y,rfl,_⟩:=look hargs ht;rfl
  .intro p hp;cases hp
 refine jl body ok hg (.inl rfl) (λ_=>rfl) ak kk λe s' h' β' w' a' B' lb k' le aY sm=>?_
 have fin:Z4 E.cx s' (tl fn.results) (λvs=>coK E.rc s'.T vs λT vs=>afd T vs λT e=>(ct.res d).1=T/\(ct.res d).2=e) ->
  LeavesInM Fence.wide 0 P fn a'.tmps (λen w'=>∃h' β y,en=.returned y/\OK (Base.of B) h (ct.res d).1 h' β w'/\kJ h' β (ct.res d).2 y) a'.defers .returning w':=by
  intro kr;obtain⟨X,x1,x2,x3⟩:=aY.defers;rw[x1];have e0:B'.toWorld=B:=lb.1.1;have ea:B'.al=(Base.of B).al:=lb.1.2.1;have nd:∀D∈X,B.heap.size<=D/\w'.heap[D]?=some (.deferred (some [])):=λD hD=>⟨by have:=(x3 D hD).1;rw[ea]at this;exact this,aY.ok.kn D _ (x3 D hD).2⟩
  have jE:Sat E.n (Base.of B) h s' h' β' w' { tmps:=a'.tmps,defers:=[] }:=
   ⟨aY.ok.Rq (B':=Base.of B) (by rw[e0]) (by rw[ea]) (λk o hh=>hh.elim),aY.env,aY.gs,Qr.nil rfl,aY.sz,aY.gb,aY.gT⟩
  refine CW X x2 nd jE λw' aY=>?_
  replace kr:=kr
  obtain⟨vs,ys,k1,r1,c1⟩:=UH ok.ti aY kr;obtain⟨T1,vs1,h1,β1,k1,le1,eb1,ok1,c1⟩:=Z7 aY.ok k1 c1;unfold afd at k1;split at k1
  .rename_i vs' acc hsel;obtain⟨e1,e2⟩:=k1;obtain⟨ka,_,c2⟩:=Oi ok1 hsel ⟨λp hp=>by simp at hp,λi j p q hp=>by simp at hp⟩ c1
   refine⟨_,CV r1,h1,_,_,rfl,by rw[e1];exact ok1.pick ka,?_⟩
   rw[e2]
   match vs',ys,c2 with
   | [],[],c2=>exact⟨[],rfl,c2⟩
   | [v],[y],c2=>exact c2.1
   | _ :: _ :: _,y :: z :: ys,c2=>exact⟨_,rfl,c2⟩
  .cases k1
 cases e with
 | normal=>exact fin k'
 | ret=>exact fin k'
 | exit i=>exact k'.elim
 | goto l=>exact k'.elim
 | panic ch=>exact k'.elim
 | outgrown=>exact k'.elim
theorem Z8(ok:gW P E){fn:Func}{suf:List Value} (afg:∀v∈suf,EF v=true) (hf:P.funcs[f]?=some fn) (hb:fn.body=some body) (hn:fn.ntmps=E.n) (hle:Nat.ble (aT ct.ps+aT suf) E.n=true)
 (k:∀d,ct.pre d->∃ann,vX { E with ann:=ann } body (tl fn.results) (fD (fK ct.ps d) (KJ suf)) λT e=>(ct.res d).1=T/\(ct.res d).2=e):CTX P E.cx.gd f suf ct:=by
 intro d vs h B hw hg hargs aA;have hl:aT (KJ suf)=aT suf:=by
  clear hle k afg
  induction suf with
  | nil=>rfl
  | cons v l ih=>simp[KJ,aT,ih]
 exact Rx ok hf hb hn (by rw[hl];exact hle) k d vs suf h B hw hg hargs (UJ afg) aA
theorem Z9(ok:gW P E){fn:Func} (hf:P.funcs[f]?=some fn) (hb:fn.body=some body) (hn:fn.ntmps=E.n) (hle:Nat.ble (aT ct.ps) E.n=true)
 (k:∀d,ct.pre d->∃ann,vX { E with ann:=ann } body (tl fn.results) (fK ct.ps d) λT e=>(ct.res d).1=T/\(ct.res d).2=e):Nw P E.cx.gd f ct:=
 (Z8 (suf:=[]) ok (λv hv=>by cases hv) hf hb hn (by simpa[aT]using hle) (λd hd=>by
  obtain⟨ann,kk⟩:=k d hd;exact⟨ann,by rw[show fD (fK ct.ps d) (KJ [])=fK ct.ps d by rw[fZ];simp[KJ]];exact kk⟩)).ok
abbrev lkC:List (Nat×CT)->Nat->Option CT
 | [],_=>none
 | (k,e) :: l,n=>cnd (Nat.beq k n) (some e) (lkC l n)
def Met(P:Program) (gd:Nat->Option (Sigma Sh.den)) (f:FuncId) (c:CT):Prop:=Nw P gd f c/\Hy P f
def l9(P:Program) (gd:Nat->Option (Sigma Sh.den)):List (Nat×CT)->Prop
 | []=>True
 | (k,c) :: l=>Met P gd k c/\l9 P gd l
theorem l9.get{P:Program}{gd:Nat->Option (Sigma Sh.den)}:∀{l:List (Nat×CT)}{f:Nat}{c:CT},l9 P gd l->lkC l f=some c->Met P gd f c
 | [],_,_,_,e=>by simp[lkC]at e
 | (k,x) :: l,t,i,⟨h1,h2⟩,e=>by
   simp only[lkC,kS]at e;split at e
   .rename_i hk;have:k=t:=by simpa using hk
    subst this;cases e;exact h1
   .exact l9.get h2 e
abbrev lkI:List (Nat×IP)->Nat->Option IP
 | [],_=>none
 | (k,e) :: l,n=>cnd (Nat.beq k n) (some e) (lkI l n)
def UK(P:Program) (gd:Nat->Option (Sigma Sh.den)) (f:FuncId) (c:IP):Prop:=WW P gd f c/\Hy P f
def FZ(P:Program) (gd:Nat->Option (Sigma Sh.den)):List (Nat×IP)->Prop
 | []=>True
 | (k,c) :: l=>UK P gd k c/\FZ P gd l
theorem FZ.get{P:Program}{gd:Nat->Option (Sigma Sh.den)}:∀{l:List (Nat×IP)}{f:Nat}{c:IP},FZ P gd l->lkI l f=some c->UK P gd f c
 | [],_,_,_,e=>by simp[lkI]at e
 | (k,x) :: l,t,i,⟨h1,h2⟩,e=>by
   simp only[lkI,kS]at e;split at e
   .rename_i hk;have:k=t:=by simpa using hk
    subst this;cases e;exact h1
   .exact FZ.get h2 e
theorem Ry{il:List (Nat×IP)} (mx:P.follows .mixedOrders=true) (ti:cO P cx.ti) (cm:l9 P cx.gd cl) (im:FZ P cx.gd il){fn:Func} (hf:P.funcs[f]?=some fn) (hb:fn.body=some (kD fn)) (hn:fn.ntmps=n) (hle:Nat.ble (aT ct.ps) n=true)
 (hs:fn.body.isSome=true) (hname:(fn.name == "runtime.NumGoroutine")=false)
 (k:∀d,ct.pre d->∃ann,vX { cx:=cx,n:=n,ct:=lkC cl,ann:=ann,ip:=lkI il,rc:=rc } (kD fn) (tl fn.results) (fK ct.ps d) λT e=>(ct.res d).1=T/\(ct.res d).2=e):Met P cx.gd f ct:=
 ⟨Z9 (E:={ cx:=cx,n:=n,ct:=lkC cl,ann:=λ_=>none,ip:=lkI il,rc:=rc }) ⟨λP' e=>(by cases e),λ_ _ _ e=>(by cases e),λ_ _ e=>(by cases e),mx,ti,λf c h=>⟨(cm.get h).1,(cm.get h).2⟩,λf c h=>⟨(im.get h).1,(im.get h).2⟩,λ_ _ e=>(by cases e),λ_ _ e=>(by cases e)⟩ hf hb hn hle k,⟨fn,hf,hs,hname⟩⟩
theorem ald(mx:P.follows .mixedOrders=true) (ti:cO P cx.ti) (cm:l9 P cx.gd cl){fn:Func} (hf:P.funcs[f]?=some fn) (hb:fn.body=some (kD fn)) (hn:fn.ntmps=n) (hle:Nat.ble (aT ct.ps) n=true)
 (hs:fn.body.isSome=true) (hname:(fn.name == "runtime.NumGoroutine")=false)
 (k:∀d,ct.pre d->∃ann,vX { cx:=cx,n:=n,ct:=lkC cl,ann:=ann } (kD fn) (tl fn.results) (fK ct.ps d) λT e=>(ct.res d).1=T/\(ct.res d).2=e):Met P cx.gd f ct:=
 ⟨Z9 (E:={ cx:=cx,n:=n,ct:=lkC cl,ann:=λ_=>none }) ⟨λP' e=>(by cases e),λ_ _ _ e=>(by cases e),λ_ _ e=>(by cases e),mx,ti,λf c h=>⟨(cm.get h).1,(cm.get h).2⟩,λf c h=>(by cases h),λ_ _ e=>(by cases e),λ_ _ e=>(by cases e)⟩ hf hb hn hle k,⟨fn,hf,hs,hname⟩⟩
def aad(P:Program) (gd:Nat->Option (Sigma Sh.den)) (g:Nat) (m:MK):Prop:=
 ∀d h lb,m.pre d->aP gd h->capD h m.ss d lb->(m.f d).rel h (.func (.func g) #[] lb.toArray)
abbrev lkM:List (Nat×MK)->Nat->Option MK
 | [],_=>none
 | (k,e) :: l,n=>cnd (Nat.beq k n) (some e) (lkM l n)
def zV(P:Program) (gd:Nat->Option (Sigma Sh.den)):List (Nat×MK)->Prop
 | []=>True
 | (k,c) :: l=>aad P gd k c/\zV P gd l
theorem zV.get{P:Program}{gd:Nat->Option (Sigma Sh.den)}:∀{l:List (Nat×MK)}{f:Nat}{c:MK},zV P gd l->lkM l f=some c->aad P gd f c
 | [],_,_,_,e=>by simp[lkM]at e
 | (k,x) :: l,t,i,⟨h1,h2⟩,e=>by
   simp only[lkM,kS]at e;split at e
   .rename_i hk;have:k=t:=by simpa using hk
    subst this;cases e;exact h1
   .exact zV.get h2 e
def KL(P:Program) (gd:Nat->Option (Sigma Sh.den)) (f:FuncId) (suf:List Value) (c:CT):Prop:=CTX P gd f suf c/\Hy P f
abbrev lkH:List (Nat×Nat×CT)->Nat->Nat->Option CT
 | [],_,_=>none
 | (k,g,e) :: l,n,m=>cnd (dL (Nat.beq k n) (Nat.beq g m)) (some e) (lkH l n m)
def IW(P:Program) (gd:Nat->Option (Sigma Sh.den)):List (Nat×Nat×CT)->Prop
 | []=>True
 | (k,g,c) :: l=>KL P gd k [.func (.func g) #[] #[]] c/\IW P gd l
theorem IW.get{P:Program}{gd:Nat->Option (Sigma Sh.den)}:∀{l:List (Nat×Nat×CT)}{f g:Nat}{c:CT},IW P gd l->lkH l f g=some c->KL P gd f [.func (.func g) #[] #[]] c
 | [],_,_,_,_,e=>by simp[lkH]at e
 | (k,g',x) :: l,t,g,i,⟨h1,h2⟩,e=>by
   simp only[lkH,kS,aF]at e;split at e
   .rename_i hk;rw[cZ]at hk;have e1:k=t:=iI hk.1;have e2:g'=g:=iI hk.2;subst e1;subst e2;cases e;exact h1
   .exact IW.get h2 e
abbrev aae(P:Program) (cx:Cx) (n:Nat) (cl:List (Nat×CT)) (il:List (Nat×IP)) (hl:List (Nat×Nat×CT)) (ml:List (Nat×MK)) (rc:List RC) (lits:List Nat) (ann:Nat->Option (St->iE)):Env:=
 { cx:=cx,n:=n,ct:=lkC cl,ann:=ann,ip:=lkI il,rc:=rc,lits:=lits,P:=some P,hc:=lkH hl,ZB:=lkM ml }
theorem UL{il:List (Nat×IP)}{hl:List (Nat×Nat×CT)}{lits:List Nat}{ann:Nat->Option (St->iE)}
 (mx:P.follows .mixedOrders=true) (ti:cO P cx.ti) (cm:l9 P cx.gd cl) (im:FZ P cx.gd il) (hm:IW P cx.gd hl) (mm:zV P cx.gd ml):gW P (aae P cx n cl il hl ml rc lits ann) where
 prog:=λP' e=>by cases e;rfl
 hc:=λf g c e=>hm.get e
 ZB:=λg fx e=>mm.get e
 mixed:=mx
 ti:=ti
 ct:=λf c h=>cm.get h
 ip:=λf c h=>im.get h
 sq:=λf c h=>by cases h
 sf:=λf c h=>by cases h
theorem oO{il:List (Nat×IP)}{hl:List (Nat×Nat×CT)}{lits:List Nat}{suf:List Value}
 (mx:P.follows .mixedOrders=true) (ti:cO P cx.ti) (cm:l9 P cx.gd cl) (im:FZ P cx.gd il) (hm:IW P cx.gd hl) (mm:zV P cx.gd ml){fn:Func} (hf:P.funcs[f]?=some fn) (hb:fn.body=some (kD fn)) (hn:fn.ntmps=n)
 (hle:Nat.ble (aT ct.ps+aT suf) n=true) (hs:fn.body.isSome=true) (hname:(fn.name == "runtime.NumGoroutine")=false) (afg:∀v∈suf,EF v=true)
 (k:∀d,ct.pre d->∃ann,vX (aae P cx n cl il hl ml rc lits ann) (kD fn) (tl fn.results) (fD (fK ct.ps d) (KJ suf)) λT e=>(ct.res d).1=T/\(ct.res d).2=e):KL P cx.gd f suf ct:=
 ⟨Z8 (E:=aae P cx n cl il hl ml rc lits λ_=>none) (UL mx ti cm im hm mm) afg hf hb hn hle k,⟨fn,hf,hs,hname⟩⟩
def apS(P:Program) (gd:Nat->Option (Sigma Sh.den)) (f:FuncId) (q:SQ):Prop:=(∀L,CTS P gd f [.c (.abs (.seq P q.ss L))] (q.ct L))/\Hy P f
abbrev lkQ:List (Nat×SQ)->Nat->Option SQ
 | [],_=>none
 | (k,e) :: l,n=>cnd (Nat.beq k n) (some e) (lkQ l n)
def afh(P:Program) (gd:Nat->Option (Sigma Sh.den)):List (Nat×SQ)->Prop
 | []=>True
 | (k,c) :: l=>apS P gd k c/\afh P gd l
theorem afh.get{P:Program}{gd:Nat->Option (Sigma Sh.den)}:∀{l:List (Nat×SQ)}{f:Nat}{c:SQ},afh P gd l->lkQ l f=some c->apS P gd f c
 | [],_,_,_,e=>by simp[lkQ]at e
 | (k,x) :: l,t,i,⟨h1,h2⟩,e=>by
   simp only[lkQ,kS]at e;split at e
   .rename_i hk;have:k=t:=by simpa using hk
    subst this;cases e;exact h1
   .exact afh.get h2 e
def afi(P:Program) (gd:Nat->Option (Sigma Sh.den)) (f:FuncId) (q:SF):Prop:=(∀pre g,CTS P gd f [.c (.abs (.clo P q.ss q.r pre g))] (q.ct pre g))/\Hy P f
abbrev lkF:List (Nat×SF)->Nat->Option SF
 | [],_=>none
 | (k,e) :: l,n=>cnd (Nat.beq k n) (some e) (lkF l n)
def Rz(P:Program) (gd:Nat->Option (Sigma Sh.den)):List (Nat×SF)->Prop
 | []=>True
 | (k,c) :: l=>afi P gd k c/\Rz P gd l
theorem Rz.get{P:Program}{gd:Nat->Option (Sigma Sh.den)}:∀{l:List (Nat×SF)}{f:Nat}{c:SF},Rz P gd l->lkF l f=some c->afi P gd f c
 | [],_,_,_,e=>by simp[lkF]at e
 | (k,x) :: l,t,i,⟨h1,h2⟩,e=>by
   simp only[lkF,kS]at e;split at e
   .rename_i hk;have:k=t:=by simpa using hk
    subst this;cases e;exact h1
   .exact Rz.get h2 e
abbrev RD(P:Program) (cx:Cx) (n:Nat) (cl:List (Nat×CT)) (ml:List (Nat×MK)) (fl:List (Nat×SF)) (rc:List RC) (ann:Nat->Option (St->iE)):Env:=
 { cx:=cx,n:=n,ct:=lkC cl,ann:=ann,rc:=rc,P:=some P,ZB:=lkM ml,sf:=lkF fl }
theorem KN{fl:List (Nat×SF)}{ann:Nat->Option (St->iE)}
 (mx:P.follows .mixedOrders=true) (ti:cO P cx.ti) (cm:l9 P cx.gd cl) (mm:zV P cx.gd ml) (fm:Rz P cx.gd fl):gW P (RD P cx n cl ml fl rc ann) where
 prog:=λP' e=>by cases e;rfl
 hc:=λf g c e=>by cases e
 ZB:=λg fx e=>mm.get e
 mixed:=mx
 ti:=ti
 ct:=λf c h=>cm.get h
 ip:=λf c h=>by cases h
 sq:=λf c h=>by cases h
 sf:=λf c h=>fm.get h
theorem ale{fl:List (Nat×SF)}{q:SF}
 (mx:P.follows .mixedOrders=true) (ti:cO P cx.ti) (cm:l9 P cx.gd cl) (mm:zV P cx.gd ml) (fm:Rz P cx.gd fl){fn:Func} (hf:P.funcs[f]?=some fn) (hb:fn.body=some (kD fn)) (hn:fn.ntmps=n)
 (hle:∀pre g,Nat.ble (aT (q.ct pre g).ps+1) n=true) (hs:fn.body.isSome=true) (hname:(fn.name == "runtime.NumGoroutine")=false)
 (k:∀pre g d,(q.ct pre g).pre d->∃ann,vX (RD P cx n cl ml fl rc ann) (kD fn) (tl fn.results) (fD (fK (q.ct pre g).ps d) [.c (.abs (.clo P q.ss q.r pre g))]) λT e=>((q.ct pre g).res d).1=T/\((q.ct pre g).res d).2=e):afi P cx.gd f q:=
 ⟨λpre g=>Rx (E:=RD P cx n cl ml fl rc λ_=>none) (KN mx ti cm mm fm) hf hb hn (hle pre g) (k pre g),⟨fn,hf,hs,hname⟩⟩
theorem afj{fl:List (Nat×SF)}
 (mx:P.follows .mixedOrders=true) (ti:cO P cx.ti) (cm:l9 P cx.gd cl) (mm:zV P cx.gd ml) (fm:Rz P cx.gd fl){fn:Func} (hf:P.funcs[f]?=some fn) (hb:fn.body=some (kD fn)) (hn:fn.ntmps=n)
 (hle:Nat.ble (aT ct.ps) n=true) (hs:fn.body.isSome=true) (hname:(fn.name == "runtime.NumGoroutine")=false)
 (k:∀d,ct.pre d->∃ann,vX (RD P cx n cl ml fl rc ann) (kD fn) (tl fn.results) (fK ct.ps d) λT e=>(ct.res d).1=T/\(ct.res d).2=e):Met P cx.gd f ct:=
 ⟨Z9 (E:=RD P cx n cl ml fl rc λ_=>none) (KN mx ti cm mm fm) hf hb hn hle k,⟨fn,hf,hs,hname⟩⟩
theorem KL.met{gd:Nat->Option (Sigma Sh.den)}{c:CT} (h:KL P gd f [] c):Met P gd f c:=⟨h.1.ok,h.2⟩
theorem bV(ti:cO P cx.ti) (cm:l9 P cx.gd cl){fn:Func} (hf:P.funcs[f]?=some fn)
 (k:∀d,ct.pre d->∃ann,vX (aae P cx n cl [] [] [] rc [] ann) (kD fn) (tl fn.results) (fD (fK ct.ps d) (KJ [])) λT e=>(ct.res d).1=T/\(ct.res d).2=e)
 (mx:P.follows .mixedOrders=true:=by kernel_rfl) (hb:fn.body=some (kD fn):=by kernel_rfl) (hn:fn.ntmps=n:=by rfl) (hle:Nat.ble (aT ct.ps+aT ([]:List Value)) n=true:=by kernel_rfl)
 (hs:fn.body.isSome=true:=by kernel_rfl) (hname:(fn.name == "runtime.NumGoroutine")=false:=by kernel_rfl):Met P cx.gd f ct:=
 (oO (il:=[]) (hl:=[]) (ml:=[]) (lits:=[]) (suf:=[]) mx ti cm trivial trivial trivial hf hb hn hle hs hname (by simp) k).met
theorem jG(ti:cO P cx.ti) (cm:l9 P cx.gd cl){fn:Func} (hf:P.funcs[f]?=some fn)
 (k:∀d,ct.pre d->∃ann,vX { cx:=cx,n:=n,ct:=lkC cl,ann:=ann } (kD fn) (tl fn.results) (fK ct.ps d) λT e=>(ct.res d).1=T/\(ct.res d).2=e)
 (mx:P.follows .mixedOrders=true:=by kernel_rfl) (hb:fn.body=some (kD fn):=by kernel_rfl) (hn:fn.ntmps=n:=by rfl) (hle:Nat.ble (aT ct.ps) n=true:=by kernel_rfl)
 (hs:fn.body.isSome=true:=by kernel_rfl) (hname:(fn.name == "runtime.NumGoroutine")=false:=by kernel_rfl):Met P cx.gd f ct:=
 ald mx ti cm hf hb hn hle hs hname k
end Go.jw
