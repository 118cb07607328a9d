/- Part 4 of the proof. Conditions: the rows'. -/
import Derived.Test.YtaagmchgokmdgaaGreatDoorB3
import Derived.Laws.IdiomRangeMap
import Derived.Deep.LoopGhost
set_option linter.unusedSimpArgs false
set_option linter.unusedVariables false
set_option maxRecDepth 1000000
set_option maxHeartbeats 8000000
namespace Go.lM
open Go Go.RowKit
variable {t:TypeId}{kk:IntKind}{n N i id:Nat}{P:Program}{B:Base}{h0 h:FH}{w A:World}{a:Act}{o:Oper}{K:St->Prop}{s:St}{β β':List RV}{ops:Array Oper}{bl:List Nat}{F:Fence}{Q:Exit->Act->World->Prop}{T:List aC}
abbrev zu(cx:Cx) (t:TypeId) (K:IntKind->TypeId->TI->Sh->Prop):Prop:=match mQ cx.ti t with
 | some i=>match i.desc with
   | .map kt et=>match mQ cx.ti kt with
     | some ik=>match ik.desc with
       | .int kk=>match mQ cx.ti et with
         | some ie=>match ie.jK with
           | some sh=>K kk et ie sh
           | none=>False
         | none=>False
       | _=>False
     | none=>False
   | _=>False
 | none=>False
abbrev TA(cx:Cx) (t:TypeId):Bool:=match mQ cx.ti t with
 | some i=>match i.desc with
   | .map _ _=>true
   | _=>false
 | none=>false
abbrev Nq(cx:Cx) (s:St) (x:Operand) (kk:IntKind) (sh:Sh):Option (List (Int×sh.den)):=match bI cx s [] x with
 | some (.one (.c (.one s' d)))=>iV s' d (.mp kk sh)
 | some (.one (.c (.row i)))=>match dH s.T i with
   | some ([],.mp kk' sh' l)=>iV (.mp kk' sh') l (.mp kk sh)
   | _=>none
 | some (.one (.c (.v (.map none))))=>some []
 | _=>none
abbrev TB(cx:Cx) (s:St) (x:Operand) (kk:IntKind):Option Int:=match bI cx s [] x with
 | some (.one (.c (.v (.int k n))))=>match Nat.beq (zQ k) (zQ kk) with
   | true=>some n
   | false=>none
 | _=>none
def AV{α:Type} (l:List (Int×α)) (n:Int) (z:α):α:=(yV l n).getD z
def J6{α:Type} (l:List (Int×α)) (n:Int):Bool:=(yV l n).isSome
abbrev Fj(cx:Cx) (s:St) (o:Op) (K:aW->Prop):Option Prop:=match o with
 | .lookup t m x ok=>some (zu cx t λkk _ _ sh=>match Nq cx s m kk sh with
   | none=>False
   | some l=>match TB cx s x kk with
     | none=>False
     | some n=>match ok with
       | false=>K (.one (iG sh (AV l n (oz sh))))
       | true=>K (.iQ [iG sh (AV l n (oz sh)),.c (.v (.bool (J6 l n)))]))
 | .call c=>match c.callee with
   | .builtin .len=>match tl c.argTypes with
     | [t]=>match TA cx t with
       | false=>none
       | true=>some (zu cx t λkk _ _ sh=>match tl c.args with
         | [m]=>match Nq cx s m kk sh with
           | none=>False
           | some l=>K (.one (.c (.v (.int .i64 l.length))))
         | _=>False)
     | _=>none
   | _=>none
 | _=>none
abbrev abH(cx:Cx) (s:St) (o:Oper) (K:St->Prop):Option Prop:=none
section
variable {cx:Cx}{P:Program}{N:Nat}{B:Base}{h0:FH}{s:St}{h:FH}{β:List RV}{w:World}{a:Act}{o:Oper}{K:St->Prop}
structure abI (P:Program) (t:TypeId) (kk:IntKind) (et:TypeId) (ie:TI) (sh:Sh):Prop where
 und:∃kt,P.underlying t=some (.map kt et)/\P.underlying kt=some (.int kk)
 ei:aU P et ie
 es:ie.jK=some sh
theorem AX(hc:bT P cx.ti){K:IntKind->TypeId->TI->Sh->Prop} (k:zu cx t K):∃kk et ie sh,K kk et ie sh/\abI P t kk et ie sh:=by
 unfold zu at k;split at k
 .rename_i i hi;split at k
  .rename_i kt et hd;split at k
   .rename_i ik hik;split at k
    .rename_i kk hkk;split at k
     .rename_i ie hie;split at k
      .rename_i sh hsh;exact⟨kk,et,ie,sh,k,⟨kt,(hc.get hi).CW hd rfl,(hc.get hik).CW hkk rfl⟩,hc.get hie,hsh⟩
      .cases k
     .cases k
    .cases k
   .cases k
  .cases k
 .cases k
theorem Xt{et:TypeId}{ie:TI}{sh:Sh} (k:aU P et ie) (hs:ie.jK=some sh) (h:FH) (w:World):∃z,(zeroValue et).run P w=.ok z w/\DW h sh z (oz sh):=by
 obtain⟨inf,z,h1,h2,h3,h4,h5⟩:=k.info;obtain⟨r,ha⟩:=k.Ph sh hs;refine⟨z,by simp[zeroValue,typeInfo,h1,h4],ie.zero,?_,rG r⟩
 have hz:=k.afh inf z h1 h4;rw[<-ha]at hz;unfold mkV;cases z with
 | agg cs=>
   have hz:sh.isAgg=true:=hz.symm;rw[hz,if_pos rfl];simp[Value.cells]at h5;rw[h5]
 | _=>
   have hz:sh.isAgg=false:=hz.symm;rw[hz,if_neg (by simp)]
   have h6:=qy Array.toList h5;simp only[Value.cells]at h6;rw[show ie.zero=_ from h6.symm];rfl
theorem DW.cn{sh:Sh}{y:Value}{d:sh.den} (x:DW h sh y d):bV h β (iG sh d) y:=by
 obtain⟨cs,rfl,r⟩:=x;exact iH sh r
def TF(h:FH) (w:World) (kk:IntKind) (sh:Sh) (y:Value) (l:List (Int×sh.den)):Prop:=
 (y=.map none/\l=[])\/∃b es c,y=.map (some b)/\w.heap[b]?=some (.map es c)/\uO kk (DW h sh) es c l
theorem abJ{k1:IntKind}{s1 sh:Sh}{l1:List (Int×s1.den)}{l:List (Int×sh.den)} (e:iV (.mp k1 s1) l1 (.mp kk sh)=some l):k1=kk/\∃e':s1=sh,(e'▸l1:List (Int×sh.den))=l:=by
 obtain⟨e1,e2⟩:=jv e;cases e1;exact⟨rfl,rfl,e2⟩
theorem H9(ah:Sat N B h0 s h β w a) (hg:aG cx.gd h){x:Operand}{sh:Sh}{l:List (Int×sh.den)} (e:Nq cx s x kk sh=some l):TF h w kk sh (a.eval x) l:=by
 have tr:gv s.gl []=true:=rfl;unfold Nq at e;split at e
 .rename_i s' d hx;have c:bV h β (.c (.one s' d)) (a.eval x):=aH ah hg tr hx;obtain⟨e1,e2⟩:=jv e;subst e1;simp only at e2;subst e2;obtain⟨v,hv,r⟩:=c.1;have hv:a.eval x=v:=by simpa using hv
  rw[hv];rcases r with r | ⟨b,es,cc,r1,r2,r3⟩
  .exact .inl r
  .exact .inr ⟨b,es,cc,r1,WG (ah.ok.hw b 0 _ r2),r3⟩
 .rename_i i hx;have c:bV h β (.c (.row i)) (a.eval x):=aH ah hg tr hx;split at e
  .rename_i kk' sh' l' hT;obtain⟨e1,e2,e3⟩:=abJ e;subst e1;subst e2;simp only at e3;subst e3;exact .inr (ah.ok.Z9 (bf hT tr) c.1)
  .cases e
 .rename_i hx;have c:bV h β (.c (.v (.map none))) (a.eval x):=aH ah hg tr hx;cases e;exact .inl ⟨c.1.1,rfl⟩
 .cases e
theorem TG(ah:Sat N B h0 s h β w a) (hg:aG cx.gd h){x:Operand}{n:Int} (e:TB cx s x kk=some n):a.eval x=.int kk n:=by
 unfold TB at e;split at e
 .rename_i k m hx;have c:bV h β (.c (.v (.int k m))) (a.eval x):=aH ah hg (show gv s.gl []=true from rfl) hx
  split at e
  .rename_i hk;cases e;rw[c.1.1,ng hk]
  .cases e
 .cases e
theorem Fp{kt:TypeId}{n:Int} (hk:P.underlying kt=some (.int kk)) (b:Bool) (w:World):(Instr.checkKey b 10000 kt (.int kk n)).run P w=.ok () w:=
 MapKept.run_checkKey (n:=9999) (k:=.int kk n) hk (show kk=kk from rfl) b
theorem TJ{et:TypeId}{ie:TI}{sh:Sh} (mt:abI P t kk et ie sh){y:Value}{l:List (Int×sh.den)} (m:TF h w kk sh y l) (n:Int) (ok:Bool):
 ∃v,DW h sh v (AV l n (oz sh))/\(Instr.lookup t y (.int kk n) ok).run P w=.ok (if ok then .tuple #[v,.bool (J6 l n)] else v) w:=by
 obtain⟨kt,hu,hk⟩:=mt.und;obtain⟨z,hz,dz⟩:=Xt mt.ei mt.es h w;rcases m with⟨rfl,rfl⟩ | ⟨b,es,c,rfl,hb,m⟩
 .refine⟨z,dz,?_⟩;have hf:=MapKept.run_findKey (P:=P) (w:=w) (k:=.int kk n) (l:=[]) hk rfl;simp[Instr.lookup,run_underlying hu,Fp hk,hf,hz,J6,yV,Result.andThen]
 .rcases m.find kk n with⟨j,e,d,e1,e2,e3,e4,e5⟩ | ⟨e1,e2⟩
  .refine⟨e.val,by rw[show AV l n (oz sh)=d by simp[AV,e2]];exact e3,?_⟩
   have hf:=MapKept.run_findKey (P:=P) (w:=w) hk e5;simp[Instr.lookup,run_underlying hu,Fp hk,MapKept.run_getObj_map hb,hf,J6,e2,Result.andThen]
  .refine⟨z,by rw[show AV l n (oz sh)=oz sh by simp[AV,e1]];exact dz,?_⟩
   have hf:=MapKept.run_findKey (P:=P) (w:=w) hk e2;simp[Instr.lookup,run_underlying hu,Fp hk,MapKept.run_getObj_map hb,hf,hz,J6,e1,Result.andThen]
theorem TK{et:TypeId}{ie:TI}{sh:Sh} (mt:abI P t kk et ie sh){y:Value}{l:List (Int×sh.den)} (m:TF h w kk sh y l){ts:Array TypeId} (ht:ts=#[t]){ty:TypeId}:
 (Builtin.len_ ts ty #[y]).run P w=.ok (.int .i64 l.length) w:=by
 obtain⟨kt,hu,hk⟩:=mt.und;subst ht;rcases m with⟨rfl,rfl⟩ | ⟨b,es,c,rfl,hb,m⟩
 .simp[Builtin.len_,run_underlying hu,goInt]
 .simp[Builtin.len_,run_underlying hu,MapKept.run_getObj_map hb,goInt,m.len]
theorem Ia(hc:bT P cx.ti) (ah:Sat N B h0 s h β w a) (hg:aG cx.gd h){K:aW->Prop}{p:Prop} (hp:Fj cx s o.op K=some p) (k:p):
 ∃e v,K e/\(execOp a.eval o).run P w=.ok (.value v) w/\iO h β e v:=by
 unfold Fj at hp;split at hp
 .rename_i t m x okb ho;cases hp;obtain⟨kk,et,ie,sh,k,mt⟩:=AX hc k;split at k
  .cases k
  rename_i l hl;split at k
  .cases k
  rename_i n hn;have hm:=H9 ah hg hl;have hx:=TG ah hg hn;obtain⟨v,dv,run⟩:=TJ mt hm n okb;have afw:(execOp a.eval o).run P w=.ok (.value (if okb then .tuple #[v,.bool (J6 l n)] else v)) w:=by
   simp only[execOp,ho,hx,Sem.run_bind,run,Result.andThen_ok,Sem.run_pure]
  split at k
  .exact⟨_,_,k,afw,dv.cn⟩
  .exact⟨_,_,k,afw,[v,.bool (J6 l n)],rfl,dv.cn,⟨⟨rfl,rfl,rfl⟩,rfl,rfl⟩,trivial⟩
 .rename_i c ho;split at hp
  .rename_i bH;split at hp
   .rename_i t ht;split at hp
    .cases hp
    .cases hp;obtain⟨kk,et,ie,sh,k,mt⟩:=AX hc k;split at k
     .rename_i m hm0;split at k
      .cases k
      rename_i l hl;have hm:=H9 ah hg hl;refine⟨_,_,k,?_,⟨⟨rfl,rfl,rfl⟩,rfl,rfl⟩⟩;simp[execOp,ho,resolve,bH,invoke,builtin,gK hm0,TK mt hm (gK ht)]
     .cases k
   .cases hp
  .cases hp
 .cases hp
theorem aI.WT{α β:Type}{R:α->β->Prop}:∀{l:List α}{m:List β}{a:α},aI R l m->a∈l->∃b∈m,R a b
 | [],_,_,_,ha=>by cases ha
 | x :: l,y :: m,a,⟨h1,h2⟩,ha=>by
   rcases jM.1 ha with rfl | ha
   .exact⟨y,by simp,h1⟩
   .obtain⟨b,hb,r⟩:=aI.WT h2 ha;exact⟨b,by simp[hb],r⟩
theorem Xu(hc:bT P cx.ti) (ah:Sat N B h0 s h β w a) (hg:aG cx.gd h) (hd:jC N o.dst=true){p:Prop} (hp:abH cx s o K=some p) (k:p):o.guard=none/\yI P N B h0 h w a o true K:=by
 unfold abH at hp;cases hp
end
structure LA where
 α:Type
 slots:α->List (Nat×SV)
 res:α->List (Nat×aC)
 inv:α->Prop
 meas:α->Nat
 ren:List (Nat×Nat):=[]
 drop:List Nat:=[]
 nil:List (Nat×TypeId×Sh):=[]
 Cm:List Nat:=[]
 pad:Nat:=0
 rV:List Nat:=[]
 deep:List (Nat×TypeId×Sh×Nat):=[]
 uq:List (Nat×Nat×TypeId×Sh):=[]
 can:List (Nat×Loc):=[]
structure RA where
 α:Type
 res:α->List (Nat×aC)
 inv:Nat->α->Prop
 drop:List Nat:=[]
 nil:List (Nat×TypeId×Sh):=[]
 Cm:List Nat:=[]
 rV:List Nat:=[]
 deep:List (Nat×TypeId×Sh×Nat):=[]
 uq:List (Nat×Nat×TypeId×Sh):=[]
inductive mO where
 | inv (a:LA)
 | gen (a:LA) (gh:a.α->Nat)
 | AY (n:Nat)
 | rng (a:RA)
 | cut (a:LA)
inductive RC where
 | keep
 | data (s:Sh)
 | row (t:TypeId) (s:Sh)
 | hd (t:TypeId) (s r:Sh)
 | cel (q:Option (TypeId×Sh×Nat))
structure SQ where
 ss:List Sh
 ct:List (bW ss)->CT
structure SF where
 ss:List Sh
 r:Sh
 ct:(bW ss->Prop)->(bW ss->r.den)->CT
structure Env where
 cx:Cx
 n:Nat
 ct:Nat->Option CT
 ann:Nat->Option (St->mO)
 ip:Nat->Option IP:=λ_=>none
 rc:List RC:=[]
 lits:List Nat:=[]
 P:Option Program:=none
 rd:Bool:=false
 hc:Nat->Nat->Option CT:=λ_ _=>none
 Xv:Nat->Option MK:=λ_=>none
 sq:Nat->Option SQ:=λ_=>none
 sf:Nat->Option SF:=λ_=>none
variable {E:Env}
abbrev Ib:List SV->List Nat
 | []=>[]
 | v :: r=>match v with
   | .c (.row i)=>i :: Ib r
   | .agg xs=>MO xs (Ib r)
   | _=>Ib r
abbrev TL(E:Env) (s:St) (G:Gd) (f:Nat) (args:List Operand):List Nat:=match G with
 | _ :: _=>[]
 | []=>match E.ct f with
   | none=>[]
   | some cc=>match oJ E.cx s [] args with
     | none=>[]
     | some vs=>match allL noRow vs with
       | true=>[]
       | false=>match CY s [] vs with
         | none=>[]
         | some bs=>match uX cc.ps bs with
           | none=>[]
           | some dd=>match bY (EO (cc.res dd).2) (allL tu (cc.res dd).1) with
             | true=>[]
             | false=>Ib vs
abbrev abK(E:Env) (s:St) (G:Gd) (ps:List (Nat×Operand)):List Nat:=match G with
 | _ :: _=>[]
 | []=>rowsOf E.cx s ps
abbrev TM(E:Env) (s:St) (p x:Operand):List Nat:=match bI E.cx s [] x with
 | some (.one v)=>match Ib [v]with
   | []=>[]
   | i :: r=>match bI E.cx s [] p with
     | some (.one (.c (.own q _)))=>match dH s.T q with
       | some ([],.obj _ _ _)=>i :: r
       | _=>[]
     | some (.one (.c (.jh _ _ _ _)))=>i :: r
     | _=>[]
 | _=>[]
abbrev AZ:List Operand->Option (List Operand×Nat)
 | []=>none
 | x :: l=>match l with
   | []=>match x with
     | .func g=>some ([],g)
     | _=>none
   | _ :: _=>match AZ l with
     | some (m,g)=>some (x :: m,g)
     | none=>none
theorem Ba{a:Act}:∀{l xs:List Operand}{g:Nat},AZ l=some (xs,g)->l.map a.eval=xs.map a.eval++[.func (.func g) #[] #[]]
 | [],_,_,h=>by simp[AZ]at h
 | [x],xs,g,h=>by
   simp only[AZ]at h;split at h
   .cases h;rfl
   .cases h
 | x :: y :: l,xs,g,h=>by
   simp only[AZ]at h;split at h
   .rename_i m g' hm;cases h;have:=Ba (a:=a) (l:=y :: l) hm;simp only[Es]at this ⊢;rw[this];rfl
   .cases h
abbrev Bc:List Operand->Option (List Operand×Operand)
 | []=>none
 | x :: l=>match l with
   | []=>some ([],x)
   | _ :: _=>match Bc l with
     | some (m,g)=>some (x :: m,g)
     | none=>none
theorem Bd{a:Act}:∀{l xs:List Operand}{g:Operand},Bc l=some (xs,g)->l.map a.eval=xs.map a.eval++[a.eval g]
 | [],_,_,h=>by simp[Bc]at h
 | [x],xs,g,h=>by
   simp only[Bc]at h;cases h;rfl
 | x :: y :: l,xs,g,h=>by
   simp only[Bc]at h;split at h
   .rename_i m g' hm;cases h;have:=Bd (a:=a) (l:=y :: l) hm;simp only[Es]at this ⊢;rw[this];rfl
   .cases h
abbrev TN(ss ss':List Sh) (L:List (bW ss)):Option (List (bW ss')):=if h:ss=ss' then some (h▸L) else none
theorem TP{ss ss':List Sh}{L:List (bW ss)}{M:List (bW ss')} (h:TN ss ss' L=some M):∃e:ss=ss',e▸L=M:=by
 unfold TN at h;split at h
 .rename_i e;cases h;exact⟨e,rfl⟩
 .cases h
abbrev hcL(E:Env) (f:Nat) (args:List Operand):Option (CT×List Operand):=match AZ args with
 | some (xs,g)=>match E.hc f g with
   | some ct=>some (ct,xs)
   | none=>none
 | none=>none
abbrev Fq(E:Env) (ops:List Oper) (o:Oper) (s:St) (K:St->Prop):Prop:=match jC E.n o.dst with
 | false=>False
 | true=>rD E.lits s ops o.guard λG s=>match o.op with
   | .alloc t=>EI E.cx s G o.dst t K
   | .box t x=>WU E.cx s G o.dst t x K
   | .buildSlice t n ps=>kP E.cx (lg s (abK E s G (tl ps))) G o.dst t n (tl ps) K
   | .makeSlice t l c=>MF E.cx s G o.dst t l c K
   | .store t p x=>match G with
     | []=>match Xg E.cx s o.dst t p x K with
       | some q=>q
       | none=>EJ E.cx (lg s (TM E s p x)) o.dst t p x K
     | _ :: _=>False
   | .call c=>match c.callee with
     | .value (.func f)=>match hcL E f (tl c.args) with
       | some (ct,xs)=>iI E.cx (λ_=>some ct) s G o.dst f xs K
       | none=>iI E.cx E.ct (lg s (TL E s G f (tl c.args))) G o.dst f (tl c.args) K
     | .builtin .append=>match G with
       | []=>match tl c.args with
         | [x,y]=>match tl c.argTypes with
           | [t,t']=>match Nat.beq t t' with
             | true=>match MZ s x λs=>sW E.cx s o.dst t x y K with
               | some q=>q
               | none=>sW E.cx s o.dst t x y K
             | false=>False
           | _=>False
         | _=>False
       | _ :: _=>False
     | .builtin .copy=>match G with
       | []=>match tl c.args with
         | [x,y]=>match tl c.argTypes with
           | [t,_]=>Na E.cx s o.dst t x y K
           | _=>False
         | _=>False
       | _ :: _=>False
     | .builtin .min=>match G with
       | []=>match tl c.args with
         | [x,y]=>Xk E.cx s o.dst x y K
         | _=>False
       | _ :: _=>False
     | .builtin .max=>match G with
       | []=>match tl c.args with
         | [x,y]=>JK E.cx s o.dst x y K
         | _=>False
       | _ :: _=>False
     | _=>lq E.cx s G o λe=>K (s.put o.dst G e)
   | _=>lq E.cx s G o λe=>K (s.put o.dst G e)
abbrev ig(E:Env) (ops:List Oper) (o:Oper) (s:St) (K:St->Prop):Prop:=match apP E.cx s o K with
 | some p=>match jC E.n o.dst with
   | false=>False
   | true=>p
 | none=>Fq E ops o s K
structure eH (P:Program) (E:Env):Prop where
 prog:∀P',E.P=some P'->P'=P
 hc:∀f g c,E.hc f g=some c->CTX P E.cx.gd f [.func (.func g) #[] #[]] c/\CQ P f
 Xv:∀g m,E.Xv g=some m->∀d h lb,m.pre d->aG E.cx.gd h->capD h m.ss d lb->(m.f d).rel h (.func (.func g) #[] lb.toArray)
 mixed:P.follows .mixedOrders=true
 ti:bT P E.cx.ti
 ct:∀f c,E.ct f=some c->EN P E.cx.gd f c/\∃fn,P.funcs[f]?=some fn/\fn.body.isSome=true/\(fn.name == "runtime.NumGoroutine")=false
 ip:∀f c,E.ip f=some c->PL P E.cx.gd f c/\∃fn,P.funcs[f]?=some fn/\fn.body.isSome=true/\(fn.name == "runtime.NumGoroutine")=false
 sq:∀f q,E.sq f=some q->(∀L,CTS P E.cx.gd f [.c (.abs (.seq P q.ss L))] (q.ct L))/\CQ P f
 sf:∀f q,E.sf f=some q->(∀pre g,CTS P E.cx.gd f [.c (.abs (.clo P q.ss q.r pre g))] (q.ct pre g))/\CQ P f
theorem eG.cast{b b':Bool} (e:b=b') (h':eG P N B h0 h w a o b' K):eG P N B h0 h w a o b K:=by rw[e];exact h'
theorem Xw(s:St) (i:Nat):(Hq s i).gl=s.gl:=by
 unfold Hq;split<;>rfl
theorem oO:∀{l:List Nat}{s:St},(lg s l).gl=s.gl
 | [],_=>rfl
 | i :: l,s=>by
   show(lg (Hq s i) l).gl=s.gl;rw[oO,Xw]
theorem eG.le{P:Program}{N:Nat}{B:Base}{h0 h h':FH}{w:World}{a:Act}{o:Oper}{b:Bool}{K:St->Prop} (le:h.le h') (k:eG P N B h0 h' w a o b K):eG P N B h0 h w a o b K:=
 λNx Q next=>k Nx Q λs' h2 β' w' v k' le' q ah=>next s' h2 β' w' v k' (le.trans le') q ah
theorem Qe(ok:eH P E) (ah:Sat E.n B h0 s h β w a) (hg:aG E.cx.gd h)
 (k:Fq E (tl ops) o s K):eG P E.n B h0 h w a o (Region.wanted o (yielded ops a.tmps)) K:=by
 unfold Fq at k;split at k
 .cases k
 rename_i hd;obtain⟨G,s',k,aK,hw,hG⟩:=sV ah k;refine eG.cast hw ?_;split at k
 .rename_i t ho;exact JB ok.ti aK hG hd ho k
 .rename_i t x ho;exact RN ok.ti aK hg hG hd ho k
 .rename_i t n ps ho;obtain⟨h',le,aY⟩:=aK.Cm (l:=abK E s' G (tl ps));have:=qE ok.ti aY (hg.mono le) (by rw[oO];exact hG) hd ho k
  rw[oO]at this;exact eG.le le this
 .rename_i t l c ho;exact PI ok.ti aK hg hG hd ho k
 .rename_i t p x ho;split at k
  .split at k
   .rename_i q hq;exact SN ok.ti aK hg hd ho hq k
   .obtain⟨h',le,aY⟩:=aK.Cm (l:=TM E s' p x);have:=JC ok.ti aY (hg.mono le) hd ho k;rw[oO]at this;exact eG.le le this
  .cases k
 .rename_i c ho;split at k
  .rename_i f bH;split at k
   .rename_i ct xs hl;unfold hcL at hl;split at hl
    .rename_i xs' g hlf;split at hl
     .rename_i ct' hct;cases hl;obtain⟨hc,hf⟩:=ok.hc f g ct hct;have k':iI E.cx (λf'=>if f'=f then some ct else none) s' G o.dst f xs K:=by
       unfold iI at k ⊢;simpa using k
      exact pO (suf:=[.func (.func g) #[] #[]]) (λf' c' e=>by
       split at e
       .rename_i hff;cases e;rw[hff];exact hc
       .cases e) aK hg hG hd ho bH (λ_=>rfl) (by
       have:=Ba (a:=a) hlf;rw[<-this];cases c.args;simp) hf k'
     .cases hl
    .cases hl
   .obtain⟨h',le,aY⟩:=aK.Cm (l:=TL E s' G f (tl c.args));refine eG.le le ?_;rw[<-oO (l:=TL E s' G f (tl c.args)) (s:=s')]at hG ⊢;generalize lg s' (TL E s' G f (tl c.args))=s' at k aY hG ⊢;unfold iI at k;cases hct:E.ct f with
    | none=>rw[hct]at k;cases k
    | some cc=>exact PK (λf c e=>(ok.ct f c e).1) aY (hg.mono le) hG hd ho bH (ok.ct f cc hct).2 k
  .rename_i bH;split at k
   .split at k
    .rename_i x y ha;split at k
     .rename_i t t' ht;split at k
      .rename_i htt;have htt:t=t':=gI htt;subst htt;split at k
       .rename_i q hq;obtain⟨s2,β2,k2,aY,egl⟩:=Xh aK hq k;have:=yH ok.ti aY hg hd ho bH (gK ha) (gK ht) k2;rw[egl]at this;exact this
       .exact yH ok.ti aK hg hd ho bH (gK ha) (gK ht) k
      .cases k
     .cases k
    .cases k
   .cases k
  .rename_i bH;split at k
   .split at k
    .rename_i x y ha;split at k
     .rename_i t t' ht;exact PZ ok.ti aK hg hd ho bH (gK ha) (gK ht) k
     .cases k
    .cases k
   .cases k
  .rename_i bH;split at k
   .split at k
    .rename_i x y ha;exact S9 aK hg hd ho bH (gK ha) k
    .cases k
   .cases k
  .rename_i bH;split at k
   .split at k
    .rename_i x y ha;exact PY aK hg hd ho bH (gK ha) k
    .cases k
   .cases k
  .exact Dv ok.ti aK hg hG hd k
 .exact Dv ok.ti aK hg hG hd k
theorem oP(ok:eH P E) (ah:Sat E.n B h0 s h β w a) (hg:aG E.cx.gd h)
 (k:ig E (tl ops) o s K):eG P E.n B h0 h w a o (Region.wanted o (yielded ops a.tmps)) K:=by
 unfold ig at k;split at k
 .rename_i p hp;split at k
  .cases k
  .rename_i hd;exact Ti ok.ti ah hg hd hp k
 .exact Qe ok ah hg k
abbrev Ic(E:Env) (ops:List Oper):List Oper->St->(St->Prop)->Prop
 | [],s,K=>K s
 | o :: r,s,K=>ig E ops o s λs=>Ic E ops r s K
abbrev gJ:List Oper->List Nat
 | []=>[]
 | o :: l=>match o.dst with
   | some d=>d :: gJ l
   | none=>gJ l
theorem Same.put{o:Oper}{l:List Oper}{a:Act}{v:Value}{b:Act} (x:Same (gJ l) (a.put o.dst v) b):Same (gJ (o :: l)) a b:=by
 intro t h;cases hd:o.dst with
 | none=>
   have e:gJ (o :: l)=gJ l:=by simp only[gJ,hd]
   rw[e]at h;rw[x t h,hd];rfl
 | some d=>
   have e:gJ (o :: l)=d :: gJ l:=by simp only[gJ,hd]
   rw[e,iM,pz]at h;rw[x t h.2,hd];have hne:d≠t:=λhh=>A97 h.1 hh.symm
   simp[Act.put,ZR hne]
abbrev abL(E:Env) (s:St) (o:Oper):Option IP:=match o.guard with
 | some _=>none
 | none=>match o.op with
   | .call c=>match c.callee with
     | .value (.func f)=>match E.ip f with
       | none=>none
       | some ip=>match tl c.args with
         | []=>none
         | x :: _=>match bI E.cx s [] x with
           | some (.one (.c (.row _)))=>some ip
           | _=>none
     | _=>none
   | _=>none
abbrev TQ(E:Env) (s:St) (o:Oper):Option IP:=match o.guard with
 | some _=>none
 | none=>match o.op with
   | .call c=>match c.callee with
     | .value (.func f)=>match E.ip f with
       | none=>none
       | some ip=>match tl c.args with
         | []=>none
         | x :: _=>match bI E.cx s [] x with
           | some (.one (.c (.sub _ _)))=>some ip
           | _=>none
     | _=>none
   | _=>none
abbrev jE:Op->List Operand
 | .call c=>tl c.args
 | _=>[]
abbrev abM:Value->Option Nat
 | .func (.func f) a b=>match tl a with
   | []=>match tl b with
     | []=>some f
     | _ :: _=>none
   | _ :: _=>none
 | _=>none
abbrev yY(sh:Sh):aC->Option SV
 | .obj _ s d=>match bY sh.isAgg s.isAgg with
   | true=>some (.dat s d)
   | false=>none
 | .blk _ xs=>match sh.isAgg with
   | true=>some (.agg xs)
   | false=>match xs with
     | [x]=>some (.c x)
     | _=>none
 | _=>none
abbrev J7(s:St):(ss:List Sh)->List Operand->Option (St×bW ss)
 | [],[]=>some (s,())
 | sh :: ss,x :: l=>match x with
   | .tmp t=>match fH s.env t with
     | some ([],.one (.c (.own i 0)))=>match dH s.T i with
       | some ([],r)=>match yY sh r with
         | some v=>match toDat sh v with
           | some d=>match J7 { s with T:=bQ s.T i ([],.gone) } ss l with
             | some (s',ds)=>some (s',(d,ds))
             | none=>none
           | none=>none
         | none=>none
       | _=>none
     | _=>none
   | _=>none
 | _,_=>none
inductive HO where
 | hc (c:CT) (xs:List Operand)
 | cc (f:Nat) (xs:List Operand)
 | mk (g:Nat) (cap:List Operand)
 | sq (P:Program) (c:CT) (xs:List Operand)
 | sf (P:Program) (ss:List Sh) (r:Sh) (pre:bW ss->Prop) (g:bW ss->r.den) (q:SF) (xs:List Operand)
abbrev afx(E:Env) (s:St) (f:Nat) (args:List Operand):Option HO:=match E.sf f with
 | none=>none
 | some q=>match Bc args with
   | none=>none
   | some (xs,x)=>match bI E.cx s [] x with
     | some (.one (.c (.abs (.clo P ss r pre g))))=>some (.sf P ss r pre g q xs)
     | _=>none
abbrev afy(E:Env) (s:St) (f:Nat) (args:List Operand):Option HO:=match E.sq f with
 | none=>afx E s f args
 | some q=>match Bc args with
   | none=>none
   | some (xs,x)=>match bI E.cx s [] x with
     | some (.one (.c (.abs (.seq P ss L))))=>match TN ss q.ss L with
       | some L=>some (.sq P (q.ct L) xs)
       | none=>none
     | _=>none
abbrev abN(E:Env) (s:St) (o:Oper):Option HO:=match o.guard with
 | some _=>none
 | none=>match o.op with
   | .call c=>match c.callee with
     | .value (.func f)=>match AZ (tl c.args) with
       | some (xs,g)=>match E.hc f g with
         | some ct=>some (.hc ct xs)
         | none=>none
       | none=>afy E s f (tl c.args)
     | .value (.tmp t)=>match fH s.env t with
       | some ([],.one (.c (.v v)))=>match abM v with
         | some f=>some (.cc f (tl c.args))
         | none=>none
       | some ([],.one (.c (.abs (.clo P ss r pre g))))=>some (.sq P { ps:=ss,pre:=pre,res:=λd=>([],.one (iG r (g d))) } (tl c.args))
       | _=>none
     | _=>none
   | .makeFunc (.func g) fst cap=>match tl fst with
     | []=>some (.mk g (tl cap))
     | _ :: _=>none
   | _=>none
abbrev hoK(E:Env) (s:St) (d:Option Nat) (x:HO) (K:St->Prop):Prop:=match x with
 | .hc c xs=>iI E.cx (λ_=>some c) s [] d 0 xs K
 | .cc f xs=>iI E.cx E.ct s [] d f xs K
 | .sq P c xs=>E.P=some P/\iI E.cx (λ_=>some c) s [] d 0 xs K
 | .sf P ss r pre g q xs=>E.P=some P/\∃pre' g',Dj.clo P ss r pre g=Dj.clo P q.ss q.r pre' g'/\iI E.cx (λ_=>some (q.ct pre' g')) s [] d 0 xs K
 | .mk g cap=>match E.Xv g with
   | none=>False
   | some m=>match J7 s m.ss cap with
     | none=>False
     | some (s',ds)=>m.pre ds/\K (s'.put d [] (.one (.c (.abs (m.f ds)))))
abbrev ahW(E:Env) (s:St) (args:List Operand) (n:Nat):Bool:=match oJ E.cx s [] args with
 | some vs=>match vs with
   | .agg xs :: _=>match dH xs n with
     | some (.row _)=>true
     | _=>false
   | _=>false
 | none=>false
abbrev abO(E:Env) (s:St) (o:Oper):Option (CT×Nat):=match o.guard with
 | some _=>none
 | none=>match o.op with
   | .call c=>match c.callee with
     | .value (.func f)=>match E.ct f with
       | none=>none
       | some ct=>match ct.ps with
         | sh :: _=>match abt sh 0 with
           | some n=>match ahW E s (tl c.args) n with
             | true=>some (ct,n)
             | false=>none
           | none=>none
         | []=>none
     | _=>none
   | _=>none
abbrev Ie(E:Env) (ops:List Oper) (o:Oper) (s:St) (K:St->Prop):Prop:=match abO E s o with
 | some p=>match jC E.n o.dst with
   | false=>False
   | true=>ptK E.cx p.1 p.2 s o.dst (jE o.op) K
 | none=>match rtP E.cx s o K with
 | some p=>match jC E.n o.dst with
   | false=>False
   | true=>p
 | none=>match abH E.cx s o K with
 | some p=>match jC E.n o.dst with
   | false=>False
   | true=>p
 | none=>match abN E s o with
 | some x=>match jC E.n o.dst with
   | false=>False
   | true=>hoK E s o.dst x K
 | none=>match TQ E s o with
 | some ip=>match jC E.n o.dst with
   | false=>False
   | true=>abo E.cx ip s o.dst (jE o.op) K
 | none=>match abL E s o with
 | none=>match aby E.cx s o K with
   | none=>ig E ops o s K
   | some p=>match jC E.n o.dst with
     | false=>False
     | true=>p
 | some ip=>match jC E.n o.dst with
   | false=>False
   | true=>ipK E.cx ip s o.dst (jE o.op) K
abbrev Xx(E:Env) (ops:List Oper):List Oper->St->(St->Prop)->Prop
 | [],s,K=>K s
 | o :: r,s,K=>Ie E ops o s λs=>Xx E ops r s K
theorem Qg{ip:IP} (e:abL E s o=some ip):o.guard=none/\∃c f,o.op=.call c/\c.callee=.value (.func f)/\E.ip f=some ip:=by
 unfold abL at e;split at e
 .cases e
 .rename_i hgd;split at e
  .rename_i c ho;split at e
   .rename_i f bH;split at e
    .cases e
    .rename_i ip' MN;split at e
     .cases e
     .split at e
      .cases e;exact⟨hgd,c,f,ho,bH,MN⟩
      .cases e
   .cases e
  .cases e
theorem J8{ip:IP} (e:TQ E s o=some ip):o.guard=none/\∃c f,o.op=.call c/\c.callee=.value (.func f)/\E.ip f=some ip:=by
 unfold TQ at e;split at e
 .cases e
 .rename_i hgd;split at e
  .rename_i c ho;split at e
   .rename_i f bH;split at e
    .cases e
    .rename_i ip' MN;split at e
     .cases e
     .split at e
      .cases e;exact⟨hgd,c,f,ho,bH,MN⟩
      .cases e
   .cases e
  .cases e
theorem Xy{v:Value}{f:Nat} (h:abM v=some f):v=.func (.func f) #[] #[]:=by
 unfold abM at h;split at h
 .rename_i f' x y;split at h
  .rename_i hx;split at h
   .rename_i hy;cases h;rw[gK hx,gK hy]
   .cases h
  .cases h
 .cases h
theorem abP{s:Sh} (h:s.isAgg=false):s.size=1:=by cases s<;>simp_all[Sh.isAgg,Sh.size]
theorem Nr{N:Nat}{B:Base}{h0:FH}{w:World}{a:Act}{β:List RV}:∀{ss:List Sh}{l:List Operand}{s s':St}{h:FH}{ds:bW ss},Sat N B h0 s h β w a->J7 s ss l=some (s',ds) ->
 ∃h',h.le h'/\Sat N B h0 s' h' β w a/\capD h' ss ds (l.map a.eval)
 | [],[],s,s',h,ds,ah,e=>by simp[J7]at e;subst e;exact⟨h,FH.le.refl h,ah,trivial⟩
 | [],_ :: _,s,s',h,ds,ah,e=>by simp[J7]at e
 | _ :: _,[],s,s',h,ds,ah,e=>by simp[J7]at e
 | sh :: ss,x :: l,s,s',h,ds,ah,e=>by
   unfold J7 at e;split at e
   .rename_i t;split at e
    .rename_i i hlk;split at e
     .rename_i r hT;split at e
      .rename_i v hv;split at e
       .rename_i d hd;split at e
        .rename_i s2 ds2 hc;cases e;obtain⟨z,z1,z2,_⟩:=ah.env t [] _ hlk;obtain⟨b,hb,ez⟩:∃b,β[i]?=some (.blk b)/\z=.pointer (some ⟨b,0,none⟩):=(z2 rfl:bV h β (.c (.own i 0)) z).1;have eF:=bf hT (show gv s.gl []=true from rfl)
         have hold:=ah.ok.holds i r _ eF hb;have hlive:r.live=true:=by cases r<;>first | rfl | (simp[yY]at hv)
         obtain⟨le1,ok1⟩:=ah.ok.O8 eF hlive hb (ji.2 rfl);have fQ:Sat N B h0 { s with T:=bQ s.T i ([],.gone) } (h.plus w b) β w a:=ah.mem (by rw[dY];exact ok1) le1 (Ext.refl _) (by
          intro q hq;rw[dM]at hq;rcases LH hq with hq | hq
          .exact ah.gT q hq
          .subst hq;rfl)
         obtain⟨h',fU,aY,cap⟩:=Nr (l:=l) fQ hc;refine⟨h',le1.trans fU,aY,⟨?_,cap⟩⟩;have ev:a.eval (.tmp t)=z:=by simp[Act.eval,z1]
         rw[ev,ez];have at_:∀(ys:List Value) (tt:TypeId),w.heap[b]?=some (.cells ys.toArray tt (0,0))->(∀u∈ys,bZ u)->At h' b 0 ys:=by
          intro ys tt hw h1 j u hj;refine fU _ _ _ ?_;unfold FH.plus;rw[if_pos rfl,yU];exact lN hw (by simpa using hj) (h1 u (kT hj)).2
         have key:∀(ys:List Value) (tt:TypeId),w.heap[b]?=some (.cells ys.toArray tt (0,0))->(sh.isAgg=true->bV h β v (.agg ys.toArray))->(sh.isAgg=false->∃y,ys=[y]/\bV h β v y) ->
          ∃b' cs,(Value.pointer (some ⟨b,0,none⟩))=.pointer (some ⟨b',0,none⟩)/\Rd h' sh cs d/\At h' b' 0 cs:=by
          intro ys tt hw k1 k2;cases hag:sh.isAgg with
          | true=>
            obtain⟨cs,e1,rd⟩:=toDat_ok hd (k1 hag);unfold mkV at e1;rw[if_pos hag]at e1;injection e1 with e1
            have e1:ys=cs:=by simpa using e1
            subst e1;exact⟨b,ys,rfl,(rd.mono le1 _).mono fU _,at_ ys tt hw (Rd.one _ rd)⟩
          | false=>
            obtain⟨y,rfl,c⟩:=k2 hag;obtain⟨cs,e1,rd⟩:=toDat_ok hd c;unfold mkV at e1;rw[if_neg (by rw[hag];simp)]at e1
            have hs:=Rd.size sh rd;rw[abP hag]at hs;obtain⟨u,rfl⟩:=List.length_eq_one_iff.1 hs;have e1:y=u:=e1;subst e1;exact⟨b,[y],rfl,(rd.mono le1 _).mono fU _,at_ [y] tt hw (Rd.one _ rd)⟩
         cases r with
         | obj tt s0 d0=>
           simp only[yY]at hv;split at hv
           .rename_i hag;rw[ay,A8]at hag;cases hv;obtain⟨ys,e1,rd⟩:=hold;exact key ys tt e1 (λ_=>⟨hag.2,ys,rfl,rd⟩) (λhh=>by rw[hag.1]at hh;cases hh)
           .cases hv
         | blk tt cs=>
           obtain⟨ys,e1,al⟩:=hold;simp only[yY]at hv;split at hv
           .rename_i hag;cases hv;exact key ys tt e1 (λ_=>⟨ys,rfl,al⟩) (λhh=>by rw[hag]at hh;cases hh)
           .rename_i hag;split at hv
            .rename_i x;cases hv;cases ys with
             | nil=>exact al.elim
             | cons y ys=>
               cases ys with
               | cons _ _=>exact al.2.elim
               | nil=>exact key [y] tt e1 (λhh=>by rw[hag]at hh;cases hh) (λ_=>⟨y,rfl,al.1⟩)
            .cases hv
         | row _ _ _=>simp[yY]at hv
         | deep _ _ _ _ _ _ _ _=>simp[yY]at hv
         | mp _ _ _=>simp[yY]at hv
         | Jd _ _ _ _=>simp[yY]at hv
         | it _ _ _ _=>simp[yY]at hv
         | GL _ _ _ _=>simp[yY]at hv
         | Dk _ _ _ _=>simp[yY]at hv
         | gone=>simp[yY]at hv
        .cases e
       .cases e
      .cases e
     .cases e
    .cases e
   .cases e
theorem abQ(ok:eH P E) (ah:Sat E.n B h0 s h β w a) (hg:aG E.cx.gd h){x:HO} (hx:abN E s o=some x) (hd:jC E.n o.dst=true)
 (k:hoK E s o.dst x K):eG P E.n B h0 h w a o (Region.wanted o (yielded ops a.tmps)) K:=by
 unfold abN at hx;split at hx
 .cases hx
 rename_i hgd;rw[show Region.wanted o (yielded ops a.tmps)=gv s.gl [] by simp[Region.wanted,hgd,gv]]
 split at hx
 .rename_i c ho;split at hx
  .rename_i f bH;split at hx
   .rename_i xs g hl;split at hx
    .rename_i ct hct;cases hx;obtain⟨hc,hf⟩:=ok.hc f g ct hct;simp only[hoK]at k;have k':iI E.cx (λf'=>if f'=f then some ct else none) s [] o.dst f xs K:=by
      unfold iI at k ⊢;simpa using k
     exact pO (suf:=[.func (.func g) #[] #[]]) (λf' c' e=>by
      split at e
      .rename_i hff;cases e;rw[hff];exact hc
      .cases e) ah hg rfl hd ho bH (λ_=>rfl) (by
      have:=Ba (a:=a) hl;rw[<-this];cases c.args;simp) hf k'
    .cases hx
   .unfold afy at hx;split at hx
    .unfold afx at hx;split at hx
     .cases hx
     rename_i q hq;split at hx
     .cases hx
     rename_i xs x hl;split at hx
     .rename_i P' ss r pre g hxe;cases hx;simp only[hoK]at k;obtain⟨eP,pre',g',eA,k⟩:=k;have:=ok.prog _ eP;subst this;obtain⟨hc,hf⟩:=ok.sf f q hq;have k':iI E.cx (λf'=>if f'=f then some (q.ct pre' g') else none) s [] o.dst f xs K:=by
       unfold iI at k ⊢;simpa using k
      rw[eA]at hxe;have Dw:bV h β (.c (.abs (.clo P' q.ss q.r pre' g'))) (a.eval x):=aH ah hg (show gv s.gl []=true from rfl) hxe
      exact uY (suf:=[a.eval x]) (λc' e d vs h' le hw hg' ha hp=>by
       have e':q.ct pre' g'=c':=by simpa using e
       subst e';exact hc pre' g' d vs [a.eval x] h' w hw hg' ha ⟨⟨(show Dj.rel h' (.clo P' q.ss q.r pre' g') (a.eval x) from Dj.vP le (show Dj.rel h (.clo P' q.ss q.r pre' g') (a.eval x) from Dw.1)),Dw.2⟩,trivial⟩ hp) ah hg rfl hd ho bH (λ_=>rfl) (by
       have:=Bd (a:=a) hl;rw[<-this];cases c.args;simp) hf k'
     .cases hx
    rename_i q hq;split at hx
    .cases hx
    rename_i xs x hl;split at hx
    .rename_i P' ss L hxe;split at hx
     .rename_i L' hL;cases hx;obtain⟨e1,e2⟩:=TP hL;simp only[hoK]at k;obtain⟨eP,k⟩:=k;have:=ok.prog _ eP;subst this;subst e1;simp only at e2;subst e2;obtain⟨hc,hf⟩:=ok.sq f q hq;have k':iI E.cx (λf'=>if f'=f then some (q.ct L) else none) s [] o.dst f xs K:=by
       unfold iI at k ⊢;simpa using k
      have Dw:bV h β (.c (.abs (.seq P' q.ss L))) (a.eval x):=aH ah hg (show gv s.gl []=true from rfl) hxe
      exact uY (suf:=[a.eval x]) (λc' e d vs h' le hw hg' ha hp=>by
       have e':q.ct L=c':=by simpa using e
       subst e';exact hc L d vs [a.eval x] h' w hw hg' ha ⟨⟨(show Dj.rel h' (.seq P' q.ss L) (a.eval x) from Dj.vP le (show Dj.rel h (.seq P' q.ss L) (a.eval x) from Dw.1)),Dw.2⟩,trivial⟩ hp) ah hg rfl hd ho bH (λ_=>rfl) (by
       have:=Bd (a:=a) hl;rw[<-this];cases c.args;simp) hf k'
     .cases hx
    .cases hx
  .rename_i t bH;split at hx
   .rename_i v hlk;split at hx
    .rename_i f hfn;cases hx;simp only[hoK]at k;obtain⟨z,z1,z2,_⟩:=ah.env t [] _ hlk;have ez:z=.func (.func f) #[] #[]:=((z2 rfl:bV h β (.c (.v v)) z).1.1).trans (Xy hfn);have hct:∃cc,E.ct f=some cc:=by
      unfold iI at k;cases hh:E.ct f with
      | none=>rw[hh]at k;cases k
      | some cc=>exact⟨cc,rfl⟩
     obtain⟨cc,hct⟩:=hct;exact pO (suf:=[]) (λf' c' e=>(ok.ct f' c' e).1.x) ah hg rfl hd ho bH (λ_=>by simp[Act.eval,z1,ez]) (by cases c.args;simp) (ok.ct f cc hct).2 k
    .cases hx
   .rename_i P' ss r pre g hlk;cases hx;simp only[hoK]at k;obtain⟨eP,k⟩:=k;have:=ok.prog _ eP;subst this;obtain⟨z,z1,z2,_⟩:=ah.env t [] _ hlk;obtain⟨gn,lb,ez,hf,kk⟩:Rk P' h ss r pre g z:=(z2 rfl:bV h β (.c (.abs (.clo P' ss r pre g))) z).1;have k':iI E.cx (λf'=>if f'=gn then some { ps:=ss,pre:=pre,res:=λd=>([],.one (iG r (g d))) } else none) s [] o.dst gn (tl c.args) K:=by
     unfold iI at k ⊢;simpa using k
    exact Am (lb:=lb) (suf:=lb.toList) (λc' e d vs h' le hw hg' ha hp=>by
     have e':({ ps:=ss,pre:=pre,res:=λd=>([],.one (iG r (g d))) }:CT)=c':=by simpa using e
     subst e';rw[show(vs++lb.toList).toArray=vs.toArray++lb by simp]
     refine(kk d vs h' w le hw (Ak ha) hp).mono ?_;rintro en w' ⟨v,rfl,⟨cs,rfl,rd⟩,bel,dr⟩;refine⟨h',[],_,rfl,⟨⟨bel.os,bel.tape,bel.output,bel.size,λk hk ha=>bel.block k hk⟩,dr,rfl,λi r v e _=>by simp at e,λi r v b e _ _ _=>by simp at e,λi j r r' u v b e _ _ _ _ _ _ _=>by simp at e,FH.le.refl h',λb o v hh=>(jf (bel.block b (kX (hw b o v hh)))).trans (hw b o v hh),λb o v hh=>.inl hh,λk o hh=>hh.elim⟩,iH r (rd.mono (λ_ _ _ e=>by cases e) r)⟩) ah hg rfl hd ho bH (λ_=>by simp[Act.eval,z1,ez]) (by cases c.args;simp) hf k'
   .cases hx
  .cases hx
 .rename_i g fst cap ho;split at hx
  .rename_i ahX;cases hx;simp only[hoK]at k;split at k
   .cases k
   rename_i m hm;split at k
   .cases k
   rename_i s' ds hcap;obtain⟨h',le,aK,cap'⟩:=Nr ah hcap;obtain⟨hmp,k⟩:=k;have rel:=ok.Xv g m hm ds h' _ hmp (hg.mono le) cap';intro Nx Q next
   rw[if_pos rfl];refine gV (v:=.func (.func g) #[] ((tl cap).map a.eval).toArray) ?_ (next _ _ _ _ _ k le (λ_=>jL.refl w) (aK.put (cZ hd) rfl (λ_=>⟨rel,Dj.WH rel⟩) λhh=>by cases hh))
   simp only[execOp,ho,Instr.makeFunc,Sem.run_bind,Sem.run_pure,Result.andThen_ok];rw[gK ahX];have:cap.map a.eval=((tl cap).map a.eval).toArray:=by cases cap;simp
   rw[this];simp
  .cases hx
 .cases hx
theorem Qh{p:CT×Nat} (e:abO E s o=some p):o.guard=none/\∃c f,o.op=.call c/\c.callee=.value (.func f)/\E.ct f=some p.1:=by
 unfold abO at e;split at e
 .cases e
 .rename_i hgd;split at e
  .rename_i c ho;split at e
   .rename_i f bH;split at e
    .cases e
    .rename_i ct hct;split at e
     .split at e
      .split at e
       .cases e;exact⟨hgd,c,f,ho,bH,hct⟩
       .cases e
      .cases e
     .cases e
   .cases e
  .cases e
theorem Bf(ok:eH P E) (ah:Sat E.n B h0 s h β w a) (hg:aG E.cx.gd h)
 (k:Ie E (tl ops) o s K):yI P E.n B h0 h w a o (Region.wanted o (yielded ops a.tmps)) K:=by
 unfold Ie at k;split at k
 .rename_i p hp;obtain⟨hgd,c,f,ho,bH,hf⟩:=Qh hp;split at k
  .cases k
  .rename_i hd;rw[show Region.wanted o (yielded ops a.tmps)=true by simp[Region.wanted,hgd]]
   rw[show jE o.op=tl c.args by simp only[jE,ho]]at k
   exact(Xm (ok.ct f _ hf).1 ah hg hd ho bH (ok.ct f _ hf).2 k).weak
 split at k
 .rename_i p hp;split at k
  .cases k
  .rename_i hd;exact(Tv ok.ti ah hg hd hp k).weak
 split at k
 .rename_i p hp;split at k
  .cases k
  .rename_i hd;obtain⟨hgd,st⟩:=Xu ok.ti ah hg hd hp k;rw[show Region.wanted o (yielded ops a.tmps)=true by simp[Region.wanted,hgd]]
   exact st
 split at k
 .rename_i x hx;split at k
  .cases k
  .rename_i hd;exact(abQ ok ah hg hx hd k).weak
 split at k
 .rename_i ip MN;obtain⟨hgd,c,f,ho,bH,hf⟩:=J8 MN;split at k
  .cases k
  .rename_i hd;rw[show Region.wanted o (yielded ops a.tmps)=true by simp[Region.wanted,hgd]]
   rw[show jE o.op=tl c.args by simp only[jE,ho]]at k
   exact SY (ok.ip f ip hf).1 (ok.ip f ip hf).2 ah hg hd ho bH k
 split at k
 .split at k
  .exact(oP ok ah hg k).weak
  .rename_i p hp;split at k
   .cases k
   .rename_i hd;exact Xn ok.ti ah hg hd hp k
 .rename_i ip MN;obtain⟨hgd,c,f,ho,bH,hf⟩:=Qg MN;split at k
  .cases k
  .rename_i hd;rw[show Region.wanted o (yielded ops a.tmps)=true by simp[Region.wanted,hgd]]
   rw[show jE o.op=tl c.args by simp only[jE,ho]]at k
   exact Xb (ok.ip f ip hf).1 (ok.ip f ip hf).2 ah hg hd ho bH k
theorem Fv{P:Program}{E:Env} (ok:eH P E){B:Base}{h0:FH} (hg:aG E.cx.gd h0){ops:Array Oper}{R:Act->World->Prop}{K:St->Prop}:∀(l:List Oper){s:St}{h:FH}{β:List RV}{w:World}{a:Act},Sat E.n B h0 s h β w a ->
 Xx E (tl ops) l s K->(∀s' h' β' w' a',K s'->h.le h'->Sat E.n B h0 s' h' β' w' a'->Same (gJ l) a a'->R a' w')->Xp P ops R l a w
 | [],s,h,β,w,a,ah,k,next=>next _ _ _ _ _ k (FH.le.refl h) ah (Same.refl _ _)
 | o :: r,s,h,β,w,a,ah,k,next=>by
   have:=Bf ok ah (hg.mono ah.ok.hle) k (Xp P ops R r) EP λs' h' β' w' v k' le aK=>Fv ok hg r aK k' λs2 h2 β2 w2 a2 k2 fU aY sm=>next s2 h2 β2 w2 a2 k2 (le.trans fU) aY sm.put
   unfold Xp;split
   .rename_i hw;rw[if_pos hw]at this;exact this
   .rename_i hw;rw[if_neg hw]at this;exact this
def J9(ops:Array Oper) (listed:Array Bool) (i:Nat):List Nat:=
 (List.range ops.size).foldl (λacc j=>if j != i && !listed.getD j true && (match ops[j]? with | some o=>o.after.any (λe=>Region.binds .any e && (e.on == i || acc.contains e.on)) | none=>false) then j :: acc else acc) []
def Ko(ops:Array Oper) (listed:Array Bool) (i:Nat) (bl:List Nat):Bool:=
 (bl.all λj=>!listed.getD j true && (match ops[j]? with | some o=>o.after.any (λe=>Region.binds .any e && (e.on == i || bl.contains e.on)) | none=>false)) &&
 ((List.range ops.size).all λj=>j == i || listed.getD j true || rM ops j || bl.contains j)
theorem yM{listed:Array Bool} (h:Ko ops listed i bl=true):
 Waits .any ops listed i bl/\∀j,j≠i->listed.getD j true=false->rM ops j=false->j∈bl:=by
 simp only[Ko,A8,LM]at h;refine⟨λj hj=>?_,λj hji hun hs=>?_⟩
 .have h1:=h.1 j hj;simp only[yS]at h1;refine⟨h1.1,?_⟩;cases ho:ops[j]? with
  | none=>rw[ho]at h1;exact absurd h1.2 (by simp)
  | some o=>
    rw[ho]at h1;obtain⟨e,he,hb⟩:=Array.any_eq_true'.1 h1.2;simp only[A8,uM,uo,A93]at hb;exact⟨o,rfl,e,he,hb.1,hb.2⟩
 .rcases Wy j ops.size with gY | hge
  .have h2:=h.2 j (Jk.2 gY);simp only[uM,uo,hji,hun,hs,A93,QX,false_or]at h2;exact h2
  .have:ops[j]?=none:=VW hge;simp[rM,this]at hs
inductive DT where
 | done
 | fl (i:Nat) (t:DT)
 | op (i:Nat) (t:DT)
 | alt (i:Nat) (t m:DT)
inductive OT where
 | done
 | op (o:Oper) (t:OT)
 | alt (o:Oper) (t m:OT)
def DT.alts:DT->List Nat
 | .op i _=>[i]
 | .alt i _ m=>i :: m.alts
 | _=>[]
def zx(ops:Array Oper) (listed:Array Bool) (i:Nat):Bool:=match ops[i]? with
 | some o=>iW o.op && Region.free .any ops listed i && (Region.ready .any ops listed).contains i && (!isLoad o.op || Ko ops listed i (J9 ops listed i))
 | none=>false
def jl(ops:Array Oper):DT->Bool->Nat->Array Bool->Bool
 | .done,top,n,listed=>top && n == 0 && (Region.ready .any ops listed).isEmpty
 | .fl i t,top,n,listed=>top && n != 0 && zx ops listed i && jl ops t true (n - 1) (listed.setIfInBounds i true)
 | .op i t,top,n,listed=>(!top || Region.ready .any ops listed == [i]) && n != 0 && (ops[i]?).isSome && jl ops t true (n - 1) (listed.setIfInBounds i true)
 | .alt i t m,top,n,listed=>(!top || Region.ready .any ops listed == i :: m.alts) && n != 0 && (ops[i]?).isSome && jl ops t true (n - 1) (listed.setIfInBounds i true) && jl ops m false n listed
def goT(g:Nat->DT):List Nat->DT
 | []=>.done
 | [i]=>.op i (g i)
 | i :: r=>.alt i (g i) (goT g r)
def Dc(ops:Array Oper):Nat->Array Bool->DT
 | 0,_=>.done
 | f+1,listed=>
   let rs:=Region.ready .any ops listed
   match rs.find? (λi=>zx ops listed i) with
   | some i=>.fl i (Dc ops f (listed.setIfInBounds i true))
   | none=>goT (λi=>Dc ops f (listed.setIfInBounds i true)) rs
def yc(ops:Array Oper):DT->OT
 | .done=>.done
 | .fl i t=>match ops[i]? with
   | some o=>.op o (yc ops t)
   | none=>.done
 | .op i t=>match ops[i]? with
   | some o=>.op o (yc ops t)
   | none=>.done
 | .alt i t m=>match ops[i]? with
   | some o=>.alt o (yc ops t) (yc ops m)
   | none=>.done
def ofL:List Oper->OT
 | []=>.done
 | o :: l=>.op o (ofL l)
abbrev kQ(E:Env) (ops:List Oper):OT->St->(St->Prop)->Prop
 | .done,s,K=>K s
 | .op o t,s,K=>ig E ops o s λs=>kQ E ops t s K
 | .alt o t m,s,K=>(ig E ops o s λs=>kQ E ops t s K)/\kQ E ops m s K
theorem Ig{E:Env}{ops:List Oper}{K:St->Prop}:∀(l:List Oper),(λs=>kQ E ops (ofL l) s K)=λs=>Ic E ops l s K
 | []=>rfl
 | o :: l=>by
   funext s
   show ig E ops o s (λs=>kQ E ops (ofL l) s K)=ig E ops o s λs=>Ic E ops l s K
   rw[Ig l]
theorem Qi{ops:List Oper} (l:List Oper) (h:kQ E ops (ofL l) s K):Ic E ops l s K:=by
 have:=congrFun (Ig (E:=E) (ops:=ops) (K:=K) l) s;rw[<-this];exact h
def isPure(o:Oper):Bool:=match o.op with
 | .alloc _ | .box .. | .buildSlice .. | .makeSlice .. | .store ..=>false
 | .call c=>(match c.callee with | .value (.func _)=>false | .builtin .append=>false | .builtin .copy=>false | .builtin .min=>false | .builtin .max=>false | _=>true)
 | _=>true
def tN(ops:Array Oper):Option OT:=
 if ops.all isPure && Region.lexB .any ops then some (ofL ops.toList)
 else
  let t:=Dc ops ops.size (Array.replicate ops.size false)
  if Region.noSelect ops && jl ops t true ops.size (Array.replicate ops.size false) then some (yc ops t) else none
section
variable {P:Program}{E:Env}{B:Base}{h0:FH}{s:St}{h:FH}{β:List RV}{w:World}{a:Act}{o:Oper}{ops:Array Oper}{K:St->Prop}
theorem Ih{L:List Nat}{l:List Oper}{g:Option (Nat×Bool)}{K K':Gd->St->Prop} (hk:∀G s,K G s->K' G s) (h:rD L s l g K):rD L s l g K':=by
 unfold rD at *;split at h
 .exact hk _ _ h
 .split at h
  .cases h
  .split at h
   .split at h
    .split at h
     .split at h
      .exact hk _ _ h
      .cases h
     .split at h
      .cases h
      .exact hk _ _ h
    .cases h
   .split at h
    .split at h
     .exact hk _ _ h
     .exact hk _ _ h
    .cases h
theorem Bg(hp:isPure o=true) (k:ig E (tl ops) o s K):jC E.n o.dst=true/\rD E.lits s (tl ops) o.guard λG s=>lq E.cx s G o λe=>K (s.put o.dst G e):=by
 unfold ig at k;rw[Tj (λt n ps ho=>by simp[isPure,ho]at hp) (λc ho bH=>by simp[isPure,ho,bH]at hp)]at k
 simp only at k;unfold Fq at k;split at k
 .cases k
 rename_i hd;refine⟨hd,?_⟩;have key:∀G s,(match o.op with
  | .alloc t=>EI E.cx s G o.dst t K
  | .box t x=>WU E.cx s G o.dst t x K
  | .buildSlice t n ps=>kP E.cx (lg s (abK E s G (tl ps))) G o.dst t n (tl ps) K
  | .makeSlice t l c=>MF E.cx s G o.dst t l c K
  | .store t p x=>match G with
    | []=>match Xg E.cx s o.dst t p x K with
      | some q=>q
      | none=>EJ E.cx (lg s (TM E s p x)) o.dst t p x K
    | _ :: _=>False
  | .call c=>match c.callee with
    | .value (.func f)=>match hcL E f (tl c.args) with
      | some (ct,xs)=>iI E.cx (λ_=>some ct) s G o.dst f xs K
      | none=>iI E.cx E.ct (lg s (TL E s G f (tl c.args))) G o.dst f (tl c.args) K
    | .builtin .append=>match G with
      | []=>match tl c.args with
        | [x,y]=>match tl c.argTypes with
          | [t,t']=>match Nat.beq t t' with
            | true=>match MZ s x λs=>sW E.cx s o.dst t x y K with
              | some q=>q
              | none=>sW E.cx s o.dst t x y K
            | false=>False
          | _=>False
        | _=>False
      | _ :: _=>False
    | .builtin .copy=>match G with
      | []=>match tl c.args with
        | [x,y]=>match tl c.argTypes with
          | [t,_]=>Na E.cx s o.dst t x y K
          | _=>False
        | _=>False
      | _ :: _=>False
    | .builtin .min=>match G with
      | []=>match tl c.args with
        | [x,y]=>Xk E.cx s o.dst x y K
        | _=>False
      | _ :: _=>False
    | .builtin .max=>match G with
      | []=>match tl c.args with
        | [x,y]=>JK E.cx s o.dst x y K
        | _=>False
      | _ :: _=>False
    | _=>lq E.cx s G o λe=>K (s.put o.dst G e)
  | _=>lq E.cx s G o λe=>K (s.put o.dst G e))->lq E.cx s G o λe=>K (s.put o.dst G e):=by
  intro G s k;split at k
  .rename_i ho;simp[isPure,ho]at hp
  .rename_i ho;simp[isPure,ho]at hp
  .rename_i ho;simp[isPure,ho]at hp
  .rename_i ho;simp[isPure,ho]at hp
  .rename_i ho;simp[isPure,ho]at hp
  .rename_i c ho;split at k
   .rename_i hc;simp[isPure,ho,hc]at hp
   .rename_i hc;simp[isPure,ho,hc]at hp
   .rename_i hc;simp[isPure,ho,hc]at hp
   .rename_i hc;simp[isPure,ho,hc]at hp
   .rename_i hc;simp[isPure,ho,hc]at hp
   .exact k
  .exact k
 exact Ih key k
theorem TR{x:Callee} (h:(match x with | .builtin .len=>true | _=>false)=true):x=.builtin .len:=by
 split at h
 .rfl
 .cases h
theorem Kq(hf:iW o.op=true):isPure o=true:=by
 cases ho:o.op with
 | call c=>
   rw[ho]at hf;have:c.callee=.builtin .len:=TR hf;simp[isPure,ho,this]
 | _=>
   rw[ho]at hf
   first
    | (simp[isPure,ho];done)
    | (simp[iW,kM]at hf;done)
theorem nI{x:Op} (hf:iW x=true):quietly x=true:=by
 cases x with
 | call c=>
   have:c.callee=.builtin .len:=TR hf;simp[quietly,this]
 | _=>
   first
    | rfl
    | (simp[iW,kM]at hf;done)
theorem pU(ok:eH P E) (ah:Sat E.n B h0 s h β w a) (hg:aG E.cx.gd h) (hf:iW o.op=true) (k:ig E (tl ops) o s K):
 ∃v s',YI P ops (isLoad o.op) w o v a/\K s'/\Sat E.n B h0 s' h β w (a.put o.dst v):=by
 obtain⟨hd,k⟩:=Bg (Kq hf) k;obtain⟨G,s',k,aK,hw,hG⟩:=sV ah k;obtain⟨e,k1,k2⟩:=Pz ok.ti aK hg hf k;cases hgv:gv s'.gl G with
 | true=>
   obtain⟨v,r,c⟩:=k2 hgv;refine⟨v,_,.inl ⟨by rw[hw];exact hgv,λw' hg'=>?_⟩,k1,aK.put (cZ hd) hG (λ_=>c) λhh=>by rw[hgv]at hh;cases hh⟩
   exact r w' hg'
 | false=>
   exact⟨undef,_,.inr ⟨by rw[hw];exact hgv,rfl⟩,k1,aK.put (cZ hd) hG (λhh=>by rw[hgv]at hh;cases hh) λ_=>rfl⟩
theorem still_step(ok:eH P E) (ah:Sat E.n B h0 s h β w a) (hg:aG E.cx.gd h) (hp:isPure o=true) (k:ig E (tl ops) o s K){Nx:Act->Prop}
 (next:∀v s',K s'->Sat E.n B h0 s' h β w (a.put o.dst v)->Nx (a.put o.dst v)):if Region.wanted o (yielded ops a.tmps) then o.still P a w Nx else Nx (a.put o.dst undef):=by
 obtain⟨hd,k⟩:=Bg hp k;obtain⟨G,s',k,aK,hw,hG⟩:=sV ah k;obtain⟨e,k1,k2⟩:=Af ok.ti aK hg k;rw[hw];cases hgv:gv s'.gl G with
 | true=>
   obtain⟨v,r,c⟩:=k2 hgv;rw[if_pos rfl];unfold Oper.still;rw[r,Oper.stillUpon_value];exact next _ _ k1 (aK.put (cZ hd) hG (λ_=>c) λhh=>by rw[hgv]at hh;cases hh)
 | false=>
   rw[if_neg (by simp)]
   exact next _ _ k1 (aK.put (cZ hd) hG (λhh=>by rw[hgv]at hh;cases hh) λ_=>rfl)
theorem Ii(ok:eH P E) (hg:aG E.cx.gd h0){R:Act->Prop}:∀(l:List Oper){s:St}{a:Act},l.all isPure=true->Sat E.n B h0 s h β w a->Ic E (tl ops) l s K ->
 (∀s' a',K s'->Sat E.n B h0 s' h β w a'->Same (gJ l) a a'->R a')->wpStill P ops w R l a
 | [],s,a,_,ah,k,next=>next _ _ k ah (Same.refl _ _)
 | o :: r,s,a,hp,ah,k,next=>by
   simp only[List.all_cons,A8]at hp;exact still_step ok ah (hg.mono ah.ok.hle) hp.1 k λv s' k' aK=>Ii ok hg r hp.2 aK k' λs2 a2 k2 aY sm=>next s2 a2 k2 aY sm.put
abbrev yg(cx:Cx):List Oper->Bool
 | []=>false
 | o :: l=>match o.op with
   | .call c=>match c.callee with
     | .builtin .len=>match tl c.argTypes with
       | [t]=>match TA cx t with
         | true=>true
         | false=>yg cx l
       | _=>yg cx l
     | _=>yg cx l
   | .lookup _ _ _ _=>true
   | _=>yg cx l
abbrev stepM(E:Env) (ops:List Oper) (o:Oper) (s:St) (K:St->Prop):Prop:=match o.guard with
 | some _=>ig E ops o s K
 | none=>match Fj E.cx s o.op λe=>K (s.put o.dst [] e) with
   | some p=>match jC E.n o.dst with
     | false=>False
     | true=>p
   | none=>ig E ops o s K
abbrev Qj(E:Env) (ops:List Oper):List Oper->St->(St->Prop)->Prop
 | [],s,K=>K s
 | o :: r,s,K=>stepM E ops o s λs=>Qj E ops r s K
theorem yh(ok:eH P E) (hg:aG E.cx.gd h0){R:Act->Prop}:∀(l:List Oper){s:St}{a:Act},l.all isPure=true->Sat E.n B h0 s h β w a->Qj E (tl ops) l s K ->
 (∀s' a',K s'->Sat E.n B h0 s' h β w a'->Same (gJ l) a a'->R a')->wpStill P ops w R l a
 | [],s,a,_,ah,k,next=>next _ _ k ah (Same.refl _ _)
 | o :: r,s,a,hp,ah,k,next=>by
   simp only[List.all_cons,A8]at hp;have old:ig E (tl ops) o s (λs=>Qj E (tl ops) r s K)->wpStill P ops w R (o :: r) a:=λk=>
    still_step ok ah (hg.mono ah.ok.hle) hp.1 k λv s' k' aK=>yh ok hg r hp.2 aK k' λs2 a2 k2 aY sm=>next s2 a2 k2 aY sm.put
   simp only[Qj,stepM]at k;split at k
   .exact old k
   .rename_i hgd;split at k
    .rename_i p hp';split at k
     .cases k
     .rename_i hd;obtain⟨e,v,k1,run,c⟩:=Ia ok.ti ah (hg.mono ah.ok.hle) hp' k;unfold wpStill;rw[if_pos (by simp[Region.wanted,hgd])]
      unfold Oper.still;rw[run,Oper.stillUpon_value];exact yh ok hg r hp.2 (ah.put (cZ hd) rfl (λ_=>c) λhh=>by cases hh) k1 λs2 a2 k2 aY sm=>next s2 a2 k2 aY sm.put
    .exact old k
def Xz(ops:Array Oper):Bool:=ops.all isPure && Region.lexB .any ops
theorem oQ{t:Nat}:∀{l:List Oper},fD t (gJ l)=true↔∃o∈l,o.dst=some t
 | []=>by simp[gJ,fD]
 | o :: l=>by
   cases hd:o.dst with
   | none=>
     have e:gJ (o :: l)=gJ l:=by simp only[gJ,hd]
     rw[e,oQ];simp[hd]
   | some d=>
     have e:gJ (o :: l)=d :: gJ l:=by simp only[gJ,hd]
     rw[e,iM,uM,oQ];constructor
     .rintro(h | ⟨o',h1,h2⟩)
      .exact⟨o,by simp,by rw[hd,gI h]⟩
      .exact⟨o',by simp[h1],h2⟩
     .rintro⟨o',h1,h2⟩;rcases jM.1 h1 with rfl | h1
      .rw[hd]at h2;cases h2;exact .inl (Nat.beq_refl _)
      .exact .inr ⟨o',h1,h2⟩
theorem Same.sub{l m:List Oper}{b:Act} (hs:∀o∈l,o∈m) (x:Same (gJ l) a b):Same (gJ m) a b:=λt h=>x t (by
 cases hh:fD t (gJ l) with
 | false=>rfl
 | true=>
   obtain⟨o,h1,h2⟩:=oQ.1 hh;rw[oQ.2 ⟨o,hs o h1,h2⟩]at h;cases h)
theorem Same.put_mem{ol:List Oper} (ho:o∈ol){b:Act}{v:Value} (x:Same (gJ ol) (a.put o.dst v) b):Same (gJ ol) a b:=by
 intro t h;rw[x t h];cases hd:o.dst with
 | none=>rfl
 | some d=>
   have hne:d≠t:=by
    rintro rfl;rw[oQ.2 ⟨o,ho,hd⟩]at h;cases h
   simp[Act.put,ZR hne]
theorem pV(ok:eH P E) (hg:aG E.cx.gd h0) (hs:Region.noSelect ops=true){R:Act->World->Prop}:∀(t:DT){n:Nat}{listed:Array Bool}{s:St}{h:FH}{β:List RV}{w:World}{a:Act},
 Sat E.n B h0 s h β w a->kQ E (tl ops) (yc ops t) s K->(∀s' h' β' w' a',K s'->h.le h'->Sat E.n B h0 s' h' β' w' a'->Same (gJ ops.toList) a a'->R a' w') ->
 (jl ops t true n listed=true->anyI P .any ops (rM ops) R n listed a w) /\
 (jl ops t false n listed=true->∀i∈t.alts,tC P ops i (λa' w'=>(rM ops i=true->jL w w')/\anyI P .any ops (rM ops) R (n - 1) (listed.setIfInBounds i true) a' w') a w)
 | .done,n,listed,s,h,β,w,a,ah,k,next=>by
   refine⟨λhc=>?_,λhc=>by simp[jl]at hc⟩
   simp only[jl,GH,A8,uo]at hc;obtain⟨rfl,he⟩:=hc;exact⟨by simpa using he,next _ _ _ _ _ k (FH.le.refl h) ah (Same.refl _ _)⟩
 | .fl i t,n,listed,s,h,β,w,a,ah,k,next=>by
   refine⟨λhc=>?_,λhc=>by simp[jl]at hc⟩
   simp only[jl,GH,A8,Jc,ne_eq]at hc;obtain⟨⟨hn,hb⟩,hc⟩:=hc;obtain⟨n,rfl⟩:∃m,n=m+1:=⟨n - 1,by omega⟩
   unfold zx at hb;cases hi:ops[i]? with
   | none=>rw[hi]at hb;simp at hb
   | some o=>
     rw[hi]at hb;simp only[A8]at hb;simp only[yc,hi,kQ]at k;have lH:o∈ops.toList:=kT (i:=i) (by simpa using hi)
     obtain⟨⟨⟨hf,hfree⟩,hr⟩,hl⟩:=hb;obtain⟨v,s',hy,k',aK⟩:=pU ok ah (hg.mono ah.ok.hle) hf k;have hq:rM ops i=true:=by
      simp only[rM,hi];exact nI hf
     refine vg (bl:=J9 ops listed i) hi (Region.noSelect_spec hs) hq n listed a w (Region.free_spec hi hfree) (λe=>?_) (by simpa using hr) hy (λ_=>jL.refl w)
      ((pV ok hg hs t aK k' λs2 h2 β2 w2 a2 k2 fU aY sm=>next s2 h2 β2 w2 a2 k2 fU aY (sm.put_mem lH)).1 hc)
     rw[e]at hl;exact yM (by simpa using hl)
 | .op i t,n,listed,s,h,β,w,a,ah,k,next=>by
   have key:n≠0->(ops[i]?).isSome=true->jl ops t true (n - 1) (listed.setIfInBounds i true)=true->tC P ops i (λa' w'=>(rM ops i=true->jL w w')/\anyI P .any ops (rM ops) R (n - 1) (listed.setIfInBounds i true) a' w') a w:=by
    intro hn hi hc;obtain⟨o,hi⟩:=A77.1 hi;have lH:o∈ops.toList:=kT (i:=i) (by simpa using hi)
    simp only[yc,hi,kQ]at k;unfold tC;simp only[hi];refine oP ok ah (hg.mono ah.ok.hle) k _ EP λs' h' β' w' v k' le xW aK=>⟨λe=>xW (by simpa[rM,hi]using e),?_⟩
    exact(pV ok hg hs t aK k' λs2 h2 β2 w2 a2 k2 fU aY sm=>next s2 h2 β2 w2 a2 k2 (le.trans fU) aY (sm.put_mem lH)).1 hc
   refine⟨λhc=>?_,λhc j hj=>?_⟩
   .simp only[jl,OY,OZ,A8,Jc,ne_eq,uo]at hc;obtain⟨⟨⟨hr,hn⟩,hi⟩,hc⟩:=hc;obtain⟨m,rfl⟩:∃m,n=m+1:=⟨n - 1,by omega⟩
    refine⟨λh0=>by rw[hr]at h0;simp at h0,λj hj=>?_⟩
    rw[hr]at hj;simp at hj;subst hj;exact key hn hi hc
   .simp only[jl,Jl,Jo,GH,A8,Jc,ne_eq]at hc;simp only[DT.alts,Wu]at hj;subst hj;exact key hc.1.1 hc.1.2 hc.2
 | .alt i t m,n,listed,s,h,β,w,a,ah,k,next=>by
   have key:n≠0->(ops[i]?).isSome=true->jl ops t true (n - 1) (listed.setIfInBounds i true)=true->jl ops m false n listed=true ->
    ∀j∈i :: m.alts,tC P ops j (λa' w'=>(rM ops j=true->jL w w')/\anyI P .any ops (rM ops) R (n - 1) (listed.setIfInBounds j true) a' w') a w:=by
    intro hn hi hc hm j hj;obtain⟨o,hi⟩:=A77.1 hi;have lH:o∈ops.toList:=kT (i:=i) (by simpa using hi)
    simp only[yc,hi,kQ]at k;rcases jM.1 hj with rfl | hj
    .unfold tC;simp only[hi];refine oP ok ah (hg.mono ah.ok.hle) k.1 _ EP λs' h' β' w' v k' le xW aK=>⟨λe=>xW (by simpa[rM,hi]using e),?_⟩
     exact(pV ok hg hs t aK k' λs2 h2 β2 w2 a2 k2 fU aY sm=>next s2 h2 β2 w2 a2 k2 (le.trans fU) aY (sm.put_mem lH)).1 hc
    .exact(pV ok hg hs m ah k.2 next).2 hm j hj
   refine⟨λhc=>?_,λhc j hj=>?_⟩
   .simp only[jl,OY,OZ,A8,Jc,ne_eq,uo]at hc;obtain⟨⟨⟨⟨hr,hn⟩,hi⟩,hc⟩,hm⟩:=hc;obtain⟨q,rfl⟩:∃m,n=m+1:=⟨n - 1,by omega⟩
    refine⟨λh0=>by rw[hr]at h0;simp at h0,λj hj=>?_⟩
    rw[hr]at hj;exact key hn hi hc hm j hj
   .simp only[jl,Jl,Jo,GH,A8,Jc,ne_eq]at hc;exact key hc.1.1.1 hc.1.1.2 hc.1.2 hc.2 j hj
theorem Sat.drawn(ah:Sat E.n B h0 s h β w a) (n:Nat) (hn:w.drawn<=n):Sat E.n B h0 s h β { w with drawn:=n } a where
 ok:=⟨⟨ah.ok.below.os,ah.ok.below.tape,ah.ok.below.output,ah.ok.below.size,ah.ok.below.block⟩,o9 ah.ok.dr hn,ah.ok.len,λi r v h1 h2=>by
  have:=ah.ok.holds i r v h1 h2;cases r<;>cases v<;>exact this,ah.ok.own,ah.ok.inj,ah.ok.hle,ah.ok.hw,ah.ok.hg,ah.ok.kn⟩
 env:=ah.env
 gs:=ah.gs
 defers:=ah.defers
 sz:=ah.sz
 gb:=ah.gb
 gT:=ah.gT
theorem Ns(ok:eH P E) (hg:aG E.cx.gd h0){ol:OT} (ho:tN ops=some ol) (ah:Sat E.n B h0 s h β w a) (k:kQ E (tl ops) ol s K) (hF:Wd F) (hn:yX ops.toList=true)
 (next:∀s' h' β' w' a',K s'->h.le h'->Sat E.n B h0 s' h' β' w' a'->Same (gJ (tl ops)) a a'->Q .normal a' w'):(Code.region id ops true).wpIn F n P Q a w:=by
 unfold tN at ho;have et:tl ops=ops.toList:=by cases ops;rfl
 split at ho
 .rename_i hp;cases ho;simp only[A8]at hp;refine wR hF hn ok.mixed hp.2 (Ii ok hg ops.toList (by simpa using hp.1) (ah.drawn _ (LQ _)) (Qi _ k) λs' a' k' aK sm=>next _ _ _ _ _ k' (FH.le.refl h) aK (by rw[et];exact sm))
 .simp only at ho;split at ho
  .rename_i hp;cases ho;simp only[A8,uo]at hp;refine wpIn_region_any ok.mixed (zq (sf:=rM ops) (R:=λa w=>Q .normal a w) hF hn (λ_ _ hh=>hh) _ _ _ _ ?_)
   exact(pV ok hg hp.1 (R:=λa w=>Q .normal a w) (Dc ops ops.size (Array.replicate ops.size false)) (ah.drawn (w.drawn+1) (LQ _)) k λs' h' β' w' a' k' le aK sm=>next _ _ _ _ _ k' le aK (by rw[et];exact sm)).1 hp.2
  .cases ho
end
def Bh(o:Oper) (p:Nat->Bool):Bool:=o.after.all λe=>!Region.binds .any e || p e.on
theorem rW{p:Nat->Bool} (h:Bh o p=true):∀e∈o.after,Region.binds .any e=true->p e.on=true:=by
 intro e he hb;simp only[Bh,Array.all_eq_true']at h;have:=h e he;rw[hb]at this;simpa using this
def Fz(o:Oper) (p:Nat->Bool):Bool:=o.after.any λe=>Region.binds .any e && p e.on
theorem rX{p:Nat->Bool} (h:Fz o p=true):∃e∈o.after,Region.binds .any e=true/\p e.on=true:=by
 obtain⟨e,he,hb⟩:=Array.any_eq_true'.1 h;simp only[A8]at hb;exact⟨e,he,hb.1,hb.2⟩
def XA(ops:Array Oper) (l0:Array Bool) (i di:Nat) (t:TypeId):Bool:=match ops[i]? with
 | some o=>(match o.guard with | none=>true | some _=>false) && o.dst == some di && (match o.op with | .buildSlice t' n ps=>t' == t && n == 0 && ps.size == 0 | _=>false) && Bh o (λk=>l0.getD k false) && !l0.getD i true
 | none=>false
theorem Qk{l0:Array Bool}{di:Nat} (h:XA ops l0 i di t=true):
 (∃o,ops[i]?=some o/\o.guard=none/\o.dst=some di/\o.op=.buildSlice t 0 #[]/\∀e∈o.after,Region.binds .any e=true->l0.getD e.on false=true)/\l0.getD i true=false:=by
 unfold XA at h;split at h
 .rename_i o ho;simp only[A8,uo,yS]at h;obtain⟨⟨⟨⟨h1,h2⟩,h3⟩,h4⟩,h5⟩:=h;refine⟨⟨o,ho,?_,h2,?_,rW h4⟩,h5⟩
  .split at h1
   .assumption
   .cases h1
  .split at h3
   .rename_i t' n ps hop;simp only[A8,uo]at h3;obtain⟨⟨e1,e2⟩,e3⟩:=h3;rw[hop,e1,e2,Array.eq_empty_of_size_eq_zero e3]
   .cases h3
 .cases h
def Ij(ops:Array Oper) (j:Nat):Bool:=match ops[j]? with
 | some o=>match o.op with
   | .call k=>match k.callee with
     | .builtin .append=>match k.args with
       | ⟨.tmp di :: _⟩=>ops.any λp=>p.dst == some di && (match p.op with | .buildSlice _ n ps=>n == 0 && ps.size == 0 | _=>false)
       | _=>false
     | _=>false
   | _=>false
 | none=>false
def Nu(ops:Array Oper) (i:Nat):Bool:=rM ops i || Ij ops i
def Kr(ops:Array Oper) (listed:Array Bool) (i:Nat) (bl:List Nat):Bool:=
 (bl.all λj=>!listed.getD j true && (match ops[j]? with | some o=>o.after.any (λe=>Region.binds .any e && (e.on == i || bl.contains e.on)) | none=>false)) &&
 ((List.range ops.size).all λj=>j == i || listed.getD j true || Nu ops j || bl.contains j)
theorem Ik{listed:Array Bool} (h:Kr ops listed i bl=true):
 Waits .any ops listed i bl/\∀j,j≠i->listed.getD j true=false->Nu ops j=false->j∈bl:=by
 simp only[Kr,A8,LM]at h;refine⟨λj hj=>?_,λj hji hun hs=>?_⟩
 .have h1:=h.1 j hj;simp only[yS]at h1;refine⟨h1.1,?_⟩;cases ho:ops[j]? with
  | none=>rw[ho]at h1;exact absurd h1.2 (by simp)
  | some o=>
    rw[ho]at h1;obtain⟨e,he,hb⟩:=Array.any_eq_true'.1 h1.2;simp only[A8,uM,uo,A93]at hb;exact⟨o,rfl,e,he,hb.1,hb.2⟩
 .rcases Wy j ops.size with gY | hge
  .have h2:=h.2 j (Jk.2 gY);simp only[uM,uo,hji,hun,hs,A93,QX,false_or]at h2;exact h2
  .have:ops[j]?=none:=VW hge;simp[Nu,rM,this]at hs
def FB(ops:Array Oper) (listed:Array Bool) (i:Nat):Bool:=match ops[i]? with
 | some o=>iW o.op && Region.free .any ops listed i && (Region.ready .any ops listed).contains i && (!isLoad o.op || Kr ops listed i (J9 ops listed i))
 | none=>false
def abR(ops:Array Oper) (l0:Array Bool) (j:Nat):Option Ch:=match ops[j]? with
 | some o=>match o.guard with
   | none=>match o.dst with
     | some dj=>match o.op with
       | .call k=>match k.callee with
         | .builtin .append=>match k.args with
           | ⟨[.tmp di,y]⟩=>match k.argTypes with
             | ⟨[t,t']⟩=>match(List.range ops.size).find? (λi=>XA ops l0 i di t) with
               | some i=>if t' == t && Fz o (λn=>n == i) && Bh o (λn=>n == i || l0.getD n false || (Nat.blt n j && Ij ops n)) && !l0.getD j true && XA ops l0 i di t then some ⟨i,j,t,di,dj,y⟩ else none
               | none=>none
             | _=>none
           | _=>none
         | _=>none
       | _=>none
     | none=>none
   | some _=>none
 | none=>none
theorem Ql{l0:Array Bool}{j:Nat}{c:Ch} (h:abR ops l0 j=some c):ChT ops (Ij ops) l0 c:=by
 unfold abR at h;split at h
 .rename_i o ho;split at h
  .rename_i hg;split at h
   .rename_i dj hdj;split at h
    .rename_i k hk;split at h
     .rename_i bH;split at h
      .rename_i di y hargs;split at h
       .rename_i t t' hts;split at h
        .rename_i i hi;split at h
         .rename_i hc;cases h;simp only[A8,uo,yS]at hc;obtain⟨⟨⟨⟨c1,c2⟩,c3⟩,c4⟩,c5⟩:=hc;obtain⟨b1,b2⟩:=Qk c5;refine⟨b1,⟨o,k,ho,hg,hdj,hk,bH,hargs,by rw[hts,c1],?_,λe he hb=>?_⟩,b2,c4⟩
          .obtain⟨e,he,hb,hm⟩:=rX c2;exact⟨e,he,hb,by simpa using hm⟩
          .have:=rW c3 e he hb;simp only[uM,uo,A8,Nat.blt_eq]at this;rcases this with(h | h) | h
           .exact .inl h
           .exact .inr (.inl h)
           .exact .inr (.inr h)
         .cases h
        .cases h
       .cases h
      .cases h
     .cases h
    .cases h
   .cases h
  .cases h
 .cases h
def abS(ops:Array Oper) (l0:Array Bool) (i:Nat):Option (Nat×Nat×TypeId):=match ops[i]? with
 | some o=>match o.guard with
   | none=>match o.dst with
     | some d=>match o.op with
       | .alloc t=>if Bh o (λk=>l0.getD k false) && !l0.getD i true then some (i,d,t) else none
       | _=>none
     | none=>none
   | some _=>none
 | none=>none
theorem Qm{l0:Array Bool}{j:Nat}{q:Nat×Nat×TypeId} (h:abS ops l0 j=some q):AlT ops l0 q.1 q.2.1 q.2.2:=by
 unfold abS at h;split at h
 .rename_i o ho;split at h
  .rename_i hg;split at h
   .rename_i d hd;split at h
    .rename_i t ht;split at h
     .rename_i hc;cases h;simp only[A8,yS]at hc;exact⟨⟨o,ho,hg,hd,ht,rW hc.1⟩,hc.2⟩
     .cases h
    .cases h
   .cases h
  .cases h
 .cases h
def flG(ops:Array Oper):Nat->Array Bool->List Nat
 | 0,_=>[]
 | f+1,listed=>match(Region.ready .any ops listed).find? (λi=>FB ops listed i) with
   | some i=>i :: flG ops f (listed.setIfInBounds i true)
   | none=>[]
def XB(ops:Array Oper):List Nat->Array Bool->Bool
 | [],_=>true
 | i :: l,listed=>FB ops listed i && XB ops l (listed.setIfInBounds i true)
def XC:List Nat->Array Bool->Array Bool
 | [],listed=>listed
 | i :: l,listed=>XC l (listed.setIfInBounds i true)
def opF(ops:Array Oper):List Nat->List Oper
 | []=>[]
 | i :: l=>match ops[i]? with
   | some o=>o :: opF ops l
   | none=>opF ops l
def nodupB:List Nat->Bool
 | []=>true
 | x :: l=>!l.contains x && nodupB l
theorem rY:∀{l:List Nat},nodupB l=true->l.Nodup
 | [],_=>List.nodup_nil
 | x :: l,h=>by
   simp only[nodupB,A8,yS,List.contains_eq_mem,iZ]at h;exact V3.2 ⟨h.1,rY h.2⟩
structure MT where
 fl:List Oper
 ch:List Ch
 al:List (Nat×TypeId)
 tA:OT
 tB:OT
def abT(ops:Array Oper) (l0:Array Bool):List Ch:=(List.range ops.size).filterMap (abR ops l0)
def abU(ops:Array Oper) (l0:Array Bool):List (Nat×Nat×TypeId):=(List.range ops.size).filterMap (abS ops l0)
def ahZ(o:Oper):Bool:=match o.op with
 | .buildSlice _ 0 _=>true
 | _=>false
def blB(ops:Array Oper) (l0:Array Bool) (js mk bl:List Nat):Bool:=
 ((List.range ops.size).all λk=>l0.getD k true || mk.contains k || bl.contains k) &&
 bl.all λk=>!mk.contains k && !l0.getD k true && (match ops[k]? with
  | some o=>(js.all λj=>Fz o λn=>n == j) || Fz o λn=>bl.contains n
  | none=>false)
def Nv(ops:Array Oper):Option MT:=
 if 3<=(ops.toList.filter ahZ).length then
  let l:=Array.replicate ops.size false
  let fl:=flG ops ops.size l
  let l0:=XC fl l
  let ch:=abT ops l0
  let al:=abU ops l0
  let mc:=ch.flatMap λc=>[c.i,c.j]
  let ma:=al.map λq=>q.1
  let bl:=(List.range ops.size).filter λk=>!l0.getD k true && !(mc++ma).contains k
  let nB:=ops.size - fl.length - mc.length
  let tA:=Dc ops (nB - ma.length) (dL (mc++ma) l0)
  let tB:=Dc ops nB (dL mc l0)
  if Region.noSelect ops && XB ops fl l && ((List.range ops.size).all λj=>!Ij ops j || ch.any λc=>c.j == j) && nodupB (mc++ma) && nodupB ((ch.flatMap λc=>[c.di,c.dj])++al.map λq=>q.2.1) && blB ops l0 (ch.map λc=>c.j) (mc++ma) bl && Nat.ble al.length 1 &&
   Nat.ble (fl.length+(mc++ma).length) ops.size && Nat.ble 1 ch.length && jl ops tA true (nB - ma.length) (dL (mc++ma) l0) && jl ops tB true nB (dL mc l0)
  then some ⟨opF ops fl,ch,al.map λq=>q.2,yc ops tA,yc ops tB⟩ else none
 else none
abbrev Nw(E:Env) (s0:St):List Ch->St->(St->Prop)->Prop
 | [],s,K=>K s
 | c :: r,s,K=>fP E.cx c.t λel ie sh=>match fH s0.env c.di with
   | some _=>False
   | none=>match fH s0.env c.dj with
     | some _=>False
     | none=>match bY (jC E.n (some c.di)) (jC E.n (some c.dj)) with
       | false=>False
       | true=>match bI E.cx s0 [] c.y with
         | some (.one v)=>match EL s0 sh v with
           | some l=>wE (aJ l) ie.bytes/\Nw E s0 r (abC s c.dj el sh l) K
           | none=>False
         | _=>False
abbrev TS(E:Env) (ops:List Oper) (m:MT) (s:St) (K:St->Prop):Prop:=Ic E ops m.fl s λs=>Nw E s m.ch s λs'=>match m.al with
 | []=>kQ E ops m.tB s' K
 | (d,t) :: _=>match mQ E.cx.ti t with
   | none=>False
   | some i=>match fH s.env d with
     | some _=>False
     | none=>match jC E.n (some d) with
       | false=>False
       | true=>kQ E ops m.tA (alS s' d (pK E.cx.cz t i)) K/\kQ E ops m.tB s' K
section
variable {P:Program}{E:Env}{B:Base}{h0:FH}{s s0:St}{h:FH}{β:List RV}{w:World}{a:Act}{o:Oper}{ops:Array Oper}{K:St->Prop}{l0:Array Bool}
theorem Il{cp:Nat->Bool} (hc:bT P E.cx.ti):∀{ch:List Ch}{s:St},(∀c∈ch,ChT ops cp l0 c)->Nw E s0 ch s K->∃xs:List CD,(xs.map λx=>x.c)=ch/\(∀x∈xs,Xo P E.cx ops s0 x/\x.c.di < E.n/\x.c.dj < E.n)/\K (yL xs s)
 | [],s,_,k=>⟨[],rfl,λx hx=>(by cases hx),k⟩
 | c :: r,s,ct,k=>by
   unfold Nw fP at k;split at k
   .rename_i el hde;have hu:=bg hc hde (by simp)
    split at k
    .cases k
    rename_i ie hie;have tie:=hc.get hie;split at k
    .cases k
    rename_i sh hsh;split at k
    .rename_i hz;rw[ay,ay,A8,A8]at hz;split at k
     .cases k
     rename_i hdi;split at k
     .cases k
     rename_i hdj;split at k
     .cases k
     rename_i hdo;rw[ay,A8]at hdo;split at k
     .rename_i v hv;split at k
      .rename_i l hl;obtain⟨xs,x1,x2,x3⟩:=Il hc (λc hc=>ct c (by simp[hc])) k.2
       have t:=ct c (by simp)
       refine⟨⟨c,el,ie,sh,l⟩ :: xs,by simp[x1],λx hx=>?_,x3⟩
       rcases jM.1 hx with rfl | hx
       .refine⟨⟨?_,?_,hu,tie,gI hz.1,lK hz.2.1,lK hz.2.2,⟨v,hv,hl⟩,by rw[<-aV];exact k.1,hdi,hdj⟩,cZ hdo.1 _ rfl,cZ hdo.2 _ rfl⟩
        .obtain⟨o,b1,b2,b3,b4,_⟩:=t.bs;exact⟨o,b1,b2,b3,b4⟩
        .obtain⟨o,q,b1,b2,b3,b4,b5,b6,b7,b8,_⟩:=t.ap;exact⟨o,q,b1,b2,b3,b4,b5,b6,b7,b8⟩
       .exact x2 x hx
      .cases k
     .cases k
    .cases k
   .cases k
theorem Ny(ok:eH P E) (hg:aG E.cx.gd h0) (hs:Region.noSelect ops=true){R:Act->World->Prop}{n:Nat}:∀(l:List Nat){listed:Array Bool}{s:St}{a:Act},XB ops l listed=true->Sat E.n B h0 s h β w a ->
 Ic E (tl ops) (opF ops l) s K->(∀s' a',K s'->Sat E.n B h0 s' h β w a'->Same (gJ ops.toList) a a'->anyI P .any ops (Nu ops) R n (XC l listed) a' w)->anyI P .any ops (Nu ops) R (l.length+n) listed a w
 | [],listed,s,a,_,ah,k,next=>by
   rw[OQ,yU];exact next s a k ah (Same.refl _ _)
 | i :: l,listed,s,a,hc,ah,k,next=>by
   simp only[XB,A8]at hc;obtain⟨hb,hc⟩:=hc;unfold FB at hb;cases hi:ops[i]? with
   | none=>rw[hi]at hb;simp at hb
   | some o=>
     rw[hi]at hb;simp only[A8]at hb;simp only[opF,hi,Ic]at k;have lH:o∈ops.toList:=kT (i:=i) (by simpa using hi)
     obtain⟨⟨⟨hf,hfree⟩,hr⟩,hl⟩:=hb;obtain⟨v,s',hy,k',aK⟩:=pU ok ah (hg.mono ah.ok.hle) hf k;have hq:Nu ops i=true:=by
      simp only[Nu,rM,hi,nI hf,Jo]
     have e1:(i :: l).length+n=(l.length+n)+1:=by simp;omega
     rw[e1];refine vg (bl:=J9 ops listed i) hi (Region.noSelect_spec hs) hq (l.length+n) listed a w (Region.free_spec hi hfree) (λe=>?_) (by simpa using hr) hy (λ_=>jL.refl w)
      (Ny ok hg hs l hc aK k' λs2 a2 k2 aY sm=>next s2 a2 k2 aY (sm.put_mem lH))
     rw[e]at hl;exact Ik (by simpa using hl)
theorem Kt{f g:CD->Nat}:∀{xs:List CD},(xs.flatMap λx=>[f x,g x]).Nodup->(∀x∈xs,f x≠g x)/\∀x∈xs,∀y∈xs,x≠y->f x≠f y/\f x≠g y/\g x≠f y/\g x≠g y
 | [],_=>⟨λx hx=>(by cases hx),λx hx=>(by cases hx)⟩
 | z :: r,nd=>by
   simp only[List.flatMap_cons,List.cons_append,LP,V3,jM,not_or,List.mem_flatMap,List.not_mem_nil,or_false,not_exists,not_and]at nd;obtain⟨⟨n1,n2⟩,n3,n4⟩:=nd;obtain⟨i1,i2⟩:=Kt n4;refine⟨λx hx=>?_,λx hx y hy hne=>?_⟩
   .rcases jM.1 hx with rfl | hx
    .exact n1
    .exact i1 x hx
   .rcases jM.1 hx with rfl | hx1<;>rcases jM.1 hy with rfl | hy1
    .exact absurd rfl hne
    .obtain⟨a1,a2⟩:=n2 y hy1;obtain⟨b1,b2⟩:=n3 y hy1;exact⟨a1,a2,b1,b2⟩
    .obtain⟨a1,a2⟩:=n2 x hx1;obtain⟨b1,b2⟩:=n3 x hx1;exact⟨Ne.symm a1,Ne.symm b1,Ne.symm a2,Ne.symm b2⟩
    .exact i2 x hx1 y hy1 hne
theorem Io{xs:List CD}{al:List Al} (h:blB ops l0 (xs.map λx=>x.c.j) (rU xs al) bl=true):BlT ops l0 xs al bl:=by
 simp only[blB,A8,LM,uM,List.contains_eq_mem,iE,yS,iZ,Jk]at h;obtain⟨h1,h2⟩:=h;refine⟨λk o hk hu=>?_,λk hk=>?_⟩
 .rcases h1 k (zh.1 hk).1 with(h3 | h3) | h3
  .rw[hu]at h3;cases h3
  .exact .inl h3
  .exact .inr h3
 .obtain⟨⟨h3,h4⟩,h5⟩:=h2 k hk;refine⟨h3,h4,?_⟩;split at h5
  .rename_i o ho;refine⟨o,ho,?_⟩;simp only[uM,LM]at h5;rcases h5 with h5 | h5
   .refine .inl λx hx=>?_
    obtain⟨e,he,hb,hm⟩:=rX (h5 x.c.j (QS.2 ⟨x,hx,rfl⟩));exact⟨e,he,hb,by simpa using hm⟩
   .obtain⟨e,he,hb,hm⟩:=rX h5;exact .inr ⟨e,he,hb,by simpa[List.contains_eq_mem]using hm⟩
  .cases h5
theorem TT{xs:List CD}{al:List Al} (n1:(rU xs al).Nodup) (n2:((xs.flatMap λx=>[x.c.di,x.c.dj])++al.map λq=>q.d).Nodup) (ha:al.length<=1):Dis xs al:=by
 obtain⟨a1,a2,a3⟩:=List.nodup_append.1 n1;obtain⟨b1,b2,b3⟩:=List.nodup_append.1 n2;obtain⟨c1,c2⟩:=Kt (f:=λx=>x.c.i) (g:=λx=>x.c.j) a1
 obtain⟨d1,d2⟩:=Kt (f:=λx=>x.c.di) (g:=λx=>x.c.dj) b1
 refine⟨λx hx=>⟨c1 x hx,d1 x hx⟩,λx hx y hy hne=>?_,λx hx q hq=>?_,λp hp q hq hne=>?_⟩
 .obtain⟨e1,e2,e3,e4⟩:=c2 x hx y hy hne;obtain⟨f1,f2,f3,f4⟩:=d2 x hx y hy hne;exact⟨⟨e1,e2,e3,e4⟩,f1,f2,f3,f4⟩
 .have m1:∀k,k=x.c.i\/k=x.c.j->k∈xs.flatMap λx=>[x.c.i,x.c.j]:=λk hk=>List.mem_flatMap.2 ⟨x,hx,by simpa using hk⟩
  have m2:∀k,k=x.c.di\/k=x.c.dj->k∈xs.flatMap λx=>[x.c.di,x.c.dj]:=λk hk=>List.mem_flatMap.2 ⟨x,hx,by simpa using hk⟩
  have m3:q.i∈al.map λq=>q.i:=QS.2 ⟨q,hq,rfl⟩
  have m4:q.d∈al.map λq=>q.d:=QS.2 ⟨q,hq,rfl⟩
  exact⟨⟨a3 _ (m1 _ (.inl rfl)) _ m3,a3 _ (m1 _ (.inr rfl)) _ m3⟩,b3 _ (m2 _ (.inl rfl)) _ m4,b3 _ (m2 _ (.inr rfl)) _ m4⟩
 .exfalso
  match al,ha with
  | [],_=>cases hp
  | [z],_=>
    simp at hp hq;exact hne (hp.trans hq.symm)
  | _ :: _ :: _,ha=>simp at ha
theorem Bj:∀{xs:List CD},(xs.flatMap λx=>[x.c.i,x.c.j]).Nodup->(xs.map λx=>x.c.j).Nodup
 | [],_=>List.nodup_nil
 | x :: r,h1=>by
   simp only[List.flatMap_cons,List.cons_append,LP,V3,jM,not_or,List.mem_flatMap,List.not_mem_nil,or_false,not_exists,not_and]at h1;obtain⟨_,h2,h3⟩:=h1;simp only[Es,V3,QS,not_exists,not_and];exact⟨λy hy e=>(h2 y hy).2 e.symm,Bj h3⟩
theorem XD(ok:eH P E) (hg:aG E.cx.gd h0){m:MT} (ho:Nv ops=some m) (ah:Sat E.n B h0 s h β w a) (k:TS E (tl ops) m s K) (hF:Wd F) (hn:yX ops.toList=true)
 (next:∀s' h' β' w' a',K s'->h.le h'->Sat E.n B h0 s' h' β' w' a'->Same (gJ (tl ops)) a a'->Q .normal a' w'):(Code.region id ops true).wpIn F n P Q a w:=by
 have et:tl ops=ops.toList:=by cases ops;rfl
 rw[et]at next
 unfold Nv at ho;split at ho
 case isFalse=>cases ho
 simp only at ho;split at ho
 case isFalse=>cases ho
 rename_i hc;cases ho;simp only[A8]at hc;obtain⟨⟨⟨⟨⟨⟨⟨⟨⟨⟨hs,hf⟩,hcp⟩,n1⟩,n2⟩,hb⟩,ha⟩,hle⟩,hch⟩,tA⟩,tB⟩:=hc;have n1:=rY n1;have n2:=rY n2;have ha:=lK ha;have hle:=lK hle;have hch:=lK hch;refine wpIn_region_any ok.mixed (zq (sf:=Nu ops) (R:=λa w=>Q .normal a w) hF hn (λ_ _ hh=>hh) _ _ _ _ ?_)
 generalize hfl:flG ops ops.size (Array.replicate ops.size false)=fl at *;generalize hl0:XC fl (Array.replicate ops.size false)=l0 at *;have ct:∀c∈abT ops l0,ChT ops (Ij ops) l0 c:=λc hc=>by
  obtain⟨j,_,hj⟩:=List.mem_filterMap.1 hc;exact Ql hj
 have at1:∀q∈abU ops l0,AlT ops l0 q.1 q.2.1 q.2.2:=λq hq=>by
  obtain⟨j,_,hj⟩:=List.mem_filterMap.1 hq;exact Qm hj
 generalize abT ops l0=ch at *;generalize hal0:abU ops l0=al0 at *;generalize hgA:Dc ops (ops.size - fl.length - (ch.flatMap λc=>[c.i,c.j]).length - (al0.map λq=>q.1).length) _=gA at *
 generalize hgB:Dc ops (ops.size - fl.length - (ch.flatMap λc=>[c.i,c.j]).length) _=gB at *
 obtain⟨rs,hrs⟩:∃rs,ops.size=fl.length+rs:=⟨ops.size - fl.length,by omega⟩
 refine Eq.mpr (qy (λz=>anyI P .any ops (Nu ops) (λa w=>Q .normal a w) z (Array.replicate ops.size false) a { w with drawn:=w.drawn+1 }) hrs) ?_
 unfold TS at k;refine Ny ok hg hs fl hf (ah.drawn (w.drawn+1) (LQ _)) k λs1 a1 k1 fQ sm1=>?_
 rw[hl0];generalize ({ w with drawn:=w.drawn+1 }:World)=w1 at fQ ⊢
 obtain⟨xs,rfl,co,k2⟩:=Il ok.ti ct k1;have ct:∀x∈xs,ChT ops (Ij ops) l0 x.c:=λx hx=>ct x.c (QS.2 ⟨x,hx,rfl⟩)
 have mo:∀{i:Nat}{o:Oper}{d:Nat},ops[i]?=some o->o.dst=some d->fD d (gJ ops.toList)=true:=λ{i o d} h1 h2=>oQ.2 ⟨o,kT (i:=i) (by simpa using h1),h2⟩
 have hD:∀x∈xs,fD x.c.di (gJ ops.toList)=true/\fD x.c.dj (gJ ops.toList)=true:=λx hx=>by
  obtain⟨o,o1,_,o2,_⟩:=(ct x hx).bs;obtain⟨p,q,p1,_,p2,_⟩:=(ct x hx).ap;exact⟨mo o1 o2,mo p1 p2⟩
 have hx0:∃x∈xs,x.c.j∉([]:List Nat):=by
  cases xs with
  | nil=>simp at hch
  | cons x r=>exact⟨x,by simp,by simp⟩
 have em:(List.map (λx=>x.c) xs).flatMap (λc=>[c.i,c.j])=xs.flatMap λx=>[x.c.i,x.c.j]:=by rw[List.flatMap_map]
 have ed:(List.map (λx=>x.c) xs).flatMap (λc=>[c.di,c.dj])=xs.flatMap λx=>[x.c.di,x.c.dj]:=by rw[List.flatMap_map]
 have ej:(List.map (λx=>x.c) xs).map (λc=>c.j)=xs.map λx=>x.c.j:=by rw[List.map_map];rfl
 rw[em]at n1 hb hle tA tB;rw[ed]at n2;rw[ej]at hb;have abV:∀j,Ij ops j=true->∃x∈xs,x.c.j=j:=λj hj=>by
  simp only[LM,Jk,uM,yS,Q5,uo]at hcp;have gY:j < ops.size:=by
   rcases Wy j ops.size with h | h
   .exact h
   .simp[Ij,VW h]at hj
  rcases hcp j gY with h | ⟨c,hc,e⟩
  .rw[hj]at h;cases h
  .obtain⟨x,hx,rfl⟩:=QS.1 hc;exact⟨x,hx,e⟩
 have TU:∀{d:List Nat} (i:Nat),(dL d l0).getD i true=false->Nu ops i=true->(∀k,(∃x∈xs,k∈[x.c.i,x.c.j])->k∈d)->rM ops i=true:=λ{d} i hi hsi hd=>by
  simp only[Nu,uM]at hsi;rcases hsi with h | h
  .exact h
  .obtain⟨x,hx,e⟩:=abV i h;exact absurd (hd i ⟨x,hx,by simp[e]⟩) (AQ hi).2
 have aan:∀{β':List RV}{a':Act}{w':World}{L:Array Bool},Sat E.n B h0 (yL xs s1) h β' w' a'->Same (gJ ops.toList) a1 a'->kQ E (tl ops) (yc ops gB) (yL xs s1) K->L=dL (xs.flatMap λx=>[x.c.i,x.c.j]) l0 ->
  anyI P .any ops (Nu ops) (λa w=>Q .normal a w) (ops.size - fl.length - (xs.flatMap λx=>[x.c.i,x.c.j]).length) L a' w':=by
  intro β' a' w' L aK sm' k' hL;rw[hL];refine Fb _ _ _ _ (λi hi hsi=>TU i hi hsi (λk hk=>List.mem_flatMap.2 hk)) ?_
  exact(pV ok hg hs gB aK k' λs2 h2 β2 w2 a2 k2 fU aY qW=>next s2 h2 β2 w2 a2 k2 fU aY ((sm1.trans sm').trans qW)).1 tB
 match al0,ha with
 | [],_=>
   simp only[List.map_nil,OO]at *;have nd:(rU xs []).Nodup:=by simpa[rU]using n1
   have qV:Dis xs []:=TT nd (by simpa using n2) (by simp)
   have bt:BlT ops l0 xs [] _:=Io (xs:=xs) (al:=[]) (by simpa[rU]using hb)
   have e1:rs=(rU xs []).length+(ops.size - fl.length - (xs.flatMap λx=>[x.c.i,x.c.j]).length):=by simp[rU];simp at hle;omega
   rw[e1];refine H7 abV (al:=[]) (a0:=a1) (D:=gJ ops.toList) (l0:=l0) (sf:=Nu ops) (cz:=false) (hg.mono fQ.ok.hle) qV ct co (λq hq=>by cases hq) bt nd hD (λq hq=>by cases hq) (λdone m a' w' dn sub len j sm hd=>?_)
    (rU xs []).length [] a1 w1 List.nodup_nil (λk hk=>by cases hk) (by simp) (Jm.start fQ ct λq hq=>by cases hq) (Same.refl _ _) hx0
   obtain⟨β',aK,_⟩:=j.fin qV (Bj (List.nodup_append.1 nd).1) ct (λq hq=>by cases hq) (λx hx=>(co x hx).2.2) hd
   have hsub:∀k∈rU xs [],k∈done:=λk hk=>by
    rcases Fe.1 hk with⟨x,hx,rfl | rfl⟩ | ⟨q,hq,_⟩
    .exact(hd x hx).1
    .exact(hd x hx).2
    .cases hq
   have:=List.Nodup.length_le_of_subset nd hsub;have hm:m=0:=by omega
   subst hm;rw[yU];exact aan aK sm k2 (rQ λk=>⟨λhk=>by simpa[rU]using sub k hk,λhk=>hsub k (by simpa[rU]using hk)⟩)
 | [q],_=>
   simp only[Es,List.map_nil]at *;split at k2
   .cases k2
   rename_i ti hti;split at k2
   .cases k2
   rename_i hfr;split at k2
   .cases k2
   rename_i hdq;have hal:=at1 q (by simp)
   have nd:(rU xs [⟨q.1,q.2.1,q.2.2,ti⟩]).Nodup:=by simpa[rU]using n1
   have qV:Dis xs [⟨q.1,q.2.1,q.2.2,ti⟩]:=TT nd (by simpa using n2) (by simp)
   have bt:BlT ops l0 xs [⟨q.1,q.2.1,q.2.2,ti⟩] _:=Io (xs:=xs) (al:=[⟨q.1,q.2.1,q.2.2,ti⟩]) (by simpa[rU]using hb)
   have e1:rs=(rU xs [⟨q.1,q.2.1,q.2.2,ti⟩]).length+(ops.size - fl.length - (xs.flatMap λx=>[x.c.i,x.c.j]).length - 1):=by
    simp only[rU,kD,Es,List.map_nil,zI,OQ]at hle ⊢;omega
   have eB:1+(ops.size - fl.length - (xs.flatMap λx=>[x.c.i,x.c.j]).length - 1)=ops.size - fl.length - (xs.flatMap λx=>[x.c.i,x.c.j]).length:=by
    simp only[kD,zI,OQ]at hle;omega
   have hAl:∀p∈[(⟨q.1,q.2.1,q.2.2,ti⟩:Al)],AlT ops l0 p.i p.d p.t/\aU P p.t p.ti/\p.d < E.n/\fH s1.env p.d=none:=λp hp=>by
    rw[Wu]at hp;subst hp;exact⟨hal,ok.ti.get hti,cZ hdq _ rfl,hfr⟩
   rw[e1];refine H7 abV (al:=[⟨q.1,q.2.1,q.2.2,ti⟩]) (a0:=a1) (D:=gJ ops.toList) (l0:=l0) (sf:=Nu ops) (cz:=E.cx.cz) (hg.mono fQ.ok.hle) qV ct co hAl bt nd hD (λp hp=>by
    rw[Wu]at hp;subst hp;obtain⟨o,o1,_,o2,_⟩:=hal.op;exact mo o1 o2) (λdone m a' w' dn sub len j sm hd=>?_)
    (rU xs [⟨q.1,q.2.1,q.2.2,ti⟩]).length [] a1 w1 List.nodup_nil (λk hk=>by cases hk) (by simp) (Jm.start fQ ct λp hp=>(hAl p hp).1) (Same.refl _ _) hx0
   obtain⟨β',aK,more⟩:=j.fin qV (Bj (List.nodup_append.1 nd).1) ct (λp hp=>(hAl p hp).1) (λx hx=>(co x hx).2.2) hd
   have hc1:∀k,k∈(xs.flatMap λx=>[x.c.i,x.c.j])->k∈done:=λk hk=>by
    obtain⟨x,hx,hk⟩:=List.mem_flatMap.1 hk;simp only[jM,List.not_mem_nil,or_false]at hk;rcases hk with rfl | rfl
    .exact(hd x hx).1
    .exact(hd x hx).2
   by_cases hq:q.1∈done
   .have hsub:∀k∈rU xs [⟨q.1,q.2.1,q.2.2,ti⟩],k∈done:=λk hk=>by
     rcases Cj.1 hk with hk | hk
     .exact hc1 k hk
     .simp at hk;subst hk;exact hq
    have:=List.Nodup.length_le_of_subset nd hsub;have hm:m=0:=by omega
    subst hm;obtain⟨β2,aY⟩:=more ⟨q.1,q.2.1,q.2.2,ti⟩ (by simp) hq (cZ hdq _ rfl)
    rw[yU];have eL:dL done l0=dL ((xs.flatMap λx=>[x.c.i,x.c.j])++[q.1]) l0:=rQ λk=>⟨λhk=>by simpa[rU]using sub k hk,λhk=>hsub k (by simpa[rU]using hk)⟩
    rw[eL];refine Fb _ _ _ _ (λi hi hsi=>TU i hi hsi (λk hk=>Cj.2 (.inl (List.mem_flatMap.2 hk)))) ?_
    exact(pV ok hg hs gA aY k2.1 λs2 h2 β2 w2 a2 k2 fU aY qW=>next s2 h2 β2 w2 a2 k2 fU aY ((sm1.trans sm).trans qW)).1 tA
   .have hsub:∀k∈done,k∈(xs.flatMap λx=>[x.c.i,x.c.j]):=λk hk=>by
     rcases Cj.1 (sub k hk) with h | h
     .exact h
     .simp at h;subst h;exact absurd hk hq
    have h1:=List.Nodup.length_le_of_subset dn hsub;have h2:=List.Nodup.length_le_of_subset (List.nodup_append.1 nd).1 hc1;have hm:m=1:=by
     simp only[rU,kD,Es,List.map_nil,zI,OQ]at len;omega
    subst hm;rw[eB];exact aan aK sm k2.2 (rQ λk=>⟨hsub k,hc1 k⟩)
 | _ :: _ :: _,ha=>simp at ha
end
section
variable {P:Program}{E:Env}{B:Base}{h0:FH}{s:St}{h:FH}{β:List RV}{w:World}{a:Act}{o:Oper}{ops:Array Oper}{K:St->Prop}
theorem TV(ok:eH P E) (hg:aG E.cx.gd h0) (ho:Xz ops=true) (ah:Sat E.n B h0 s h β w a) (k:Qj E (tl ops) (tl ops) s K) (hF:Wd F) (hn:yX ops.toList=true)
 (next:∀s' h' β' w' a',K s'->h.le h'->Sat E.n B h0 s' h' β' w' a'->Same (gJ (tl ops)) a a'->Q .normal a' w'):(Code.region id ops true).wpIn F n P Q a w:=by
 unfold Xz at ho;have et:tl ops=ops.toList:=by cases ops;rfl
 simp only[A8]at ho;rw[et]at next
 refine wR hF hn ok.mixed ho.2 (yh ok hg ops.toList (by simpa using ho.1) (ah.drawn _ (LQ _)) (by rw[et]at k ⊢;exact k) λs' a' k' aK sm=>next _ _ _ _ _ k' (FH.le.refl h) aK sm)
end
abbrev XE:Op->Bool
 | .call _=>true
 | _=>false
def yj:Op->Bool
 | .call c=>(match c.callee with
   | .builtin .len=>true
   | _=>false)
 | o=>quietly o
def Ip(ops:Array Oper) (i:Nat):Bool:=match ops[i]? with
 | some o=>yj o.op
 | none=>true
def Ku(ops:Array Oper) (listed:Array Bool) (i:Nat) (bl:List Nat):Bool:=
 (bl.all λj=>!listed.getD j true && (match ops[j]? with | some o=>o.after.any (λe=>Region.binds .any e && (e.on == i || bl.contains e.on)) | none=>false)) &&
 ((List.range ops.size).all λj=>j == i || listed.getD j true || Ip ops j || bl.contains j)
theorem Iq{listed:Array Bool} (h:Ku ops listed i bl=true):
 Waits .any ops listed i bl/\∀j,j≠i->listed.getD j true=false->Ip ops j=false->j∈bl:=by
 simp only[Ku,A8,LM]at h;refine⟨λj hj=>?_,λj hji hun hs=>?_⟩
 .have h1:=h.1 j hj;simp only[yS]at h1;refine⟨h1.1,?_⟩;cases ho:ops[j]? with
  | none=>rw[ho]at h1;exact absurd h1.2 (by simp)
  | some o=>
    rw[ho]at h1;obtain⟨e,he,hb⟩:=Array.any_eq_true'.1 h1.2;simp only[A8,uM,uo,A93]at hb;exact⟨o,rfl,e,he,hb.1,hb.2⟩
 .rcases Wy j ops.size with gY | hge
  .have h2:=h.2 j (Jk.2 gY);simp only[uM,uo,hji,hun,hs,A93,QX,false_or]at h2;exact h2
  .have:ops[j]?=none:=VW hge;simp[Ip,this]at hs
def FC(ops:Array Oper) (listed:Array Bool) (i:Nat):Bool:=match ops[i]? with
 | some o=>iW o.op && Region.free .any ops listed i && (Region.ready .any ops listed).contains i && (!isLoad o.op || Ku ops listed i (J9 ops listed i))
 | none=>false
def qM(ops:Array Oper):DT->Bool->Nat->Array Bool->Bool
 | .done,top,n,listed=>top && n == 0 && (Region.ready .any ops listed).isEmpty
 | .fl i t,top,n,listed=>top && n != 0 && FC ops listed i && qM ops t true (n - 1) (listed.setIfInBounds i true)
 | .op i t,top,n,listed=>(!top || Region.ready .any ops listed == [i]) && n != 0 && (ops[i]?).isSome && qM ops t true (n - 1) (listed.setIfInBounds i true)
 | .alt i t m,top,n,listed=>(!top || Region.ready .any ops listed == i :: m.alts) && n != 0 && (ops[i]?).isSome && qM ops t true (n - 1) (listed.setIfInBounds i true) && qM ops m false n listed
def Nz(ops:Array Oper):Nat->Array Bool->DT
 | 0,_=>.done
 | f+1,listed=>
   let rs:=Region.ready .any ops listed
   match rs.find? (λi=>FC ops listed i) with
   | some i=>.fl i (Nz ops f (listed.setIfInBounds i true))
   | none=>goT (λi=>Nz ops f (listed.setIfInBounds i true)) rs
def wS(ops:Array Oper):Option OT:=
 let t:=Nz ops ops.size (Array.replicate ops.size false)
 if Region.noSelect ops && qM ops t true ops.size (Array.replicate ops.size false) then some (yc ops t) else none
abbrev Ir(E:Env) (ops:List Oper) (o:Oper) (s:St) (K:St->Prop):Prop:=match iW o.op with
 | true=>ig E ops o s K
 | false=>match rtP E.cx s o K with
 | some p=>match jC E.n o.dst with
   | false=>False
   | true=>p
 | none=>match XE o.op with
   | true=>Ie E ops o s K
   | false=>ig E ops o s K
abbrev nR(E:Env) (ops:List Oper):OT->St->(St->Prop)->Prop
 | .done,s,K=>K s
 | .op o t,s,K=>Ir E ops o s λs=>nR E ops t s K
 | .alt o t m,s,K=>(Ir E ops o s λs=>nR E ops t s K)/\nR E ops m s K
abbrev Iu(E:Env):List Oper->Bool
 | []=>false
 | o :: l=>match o.op with
   | .call c=>match c.callee with
     | .value (.func f)=>match E.ip f with
       | some _=>true
       | none=>Iu E l
     | _=>Iu E l
   | _=>Iu E l
section
variable {P:Program}{E:Env}{B:Base}{h0:FH}{s:St}{h:FH}{β:List RV}{w:World}{a:Act}{o:Oper}{ops:Array Oper}{K:St->Prop}
theorem Iw(ok:eH P E) (ah:Sat E.n B h0 s h β w a) (hg:aG E.cx.gd h) (hi:ops[i]?=some o) (k:Ir E (tl ops) o s K){R:Act->World->Prop}
 (next:∀s' h' β' w' v,K s'->h.le h'->(Ip ops i=true->jL w w')->Sat E.n B h0 s' h' β' w' (a.put o.dst v)->R (a.put o.dst v) w'):tC P ops i R a w:=by
 unfold tC;simp only[hi];unfold Ir at k;have plain:yj o.op=quietly o.op->ig E (tl ops) o s K->if Region.wanted o (yielded ops a.tmps)=true then o.wp P a w R EP else R (a.put o.dst undef) w:=λhq k=>
  oP ok ah hg k R EP λs' h' β' w' v k' le xW aK=>next s' h' β' w' v k' le (λe=>xW (by rw[<-hq];simpa[Ip,hi]using e)) aK
 split at k
 .rename_i hf;refine plain ?_ k;cases ho:o.op with
  | call c=>
    rw[ho]at hf;have:c.callee=.builtin .len:=TR hf;simp[yj,quietly,this]
  | _=>rfl
 .rename_i hf;split at k
  .rename_i p hp;split at k
   .cases k
   .rename_i hd;refine Tv ok.ti ah hg hd hp k R EP λs' h' β' w' v k' le xW aK=>next s' h' β' w' v k' le (λe=>xW ?_) aK
    simp only[Ip,hi]at e;revert e;unfold yj;split
    .rename_i c hc;split
     .rename_i h2;intro _;rw[hc];simp[quietly,h2]
     .intro e;cases e
    .exact λe=>e
  split at k
  .rename_i hc;refine Bf ok ah hg k R EP λs' h' β' w' v k' le aK=>next s' h' β' w' v k' le (λe=>?_) aK
   exfalso;cases ho:o.op with
   | call c=>
     rw[ho]at hf;simp only[Ip,hi,ho,yj]at e;have h1:c.callee=.builtin .len:=by
      revert e;split
      .rename_i h2;intro _;exact h2
      .intro e;cases e
     have:iW (Op.call c)=true:=by simp[iW,kM,h1]
     rw[this]at hf;cases hf
   | _=>rw[ho]at hc;cases hc
  .rename_i hc;refine plain ?_ k;cases ho:o.op with
   | call c=>rw[ho]at hc;cases hc
   | _=>rfl
theorem rZ(ok:eH P E) (hg:aG E.cx.gd h0) (hs:Region.noSelect ops=true){R:Act->World->Prop}:∀(t:DT){n:Nat}{listed:Array Bool}{s:St}{h:FH}{β:List RV}{w:World}{a:Act},
 Sat E.n B h0 s h β w a->nR E (tl ops) (yc ops t) s K->(∀s' h' β' w' a',K s'->h.le h'->Sat E.n B h0 s' h' β' w' a'->Same (gJ ops.toList) a a'->R a' w') ->
 (qM ops t true n listed=true->anyI P .any ops (Ip ops) R n listed a w) /\
 (qM ops t false n listed=true->∀i∈t.alts,tC P ops i (λa' w'=>(Ip ops i=true->jL w w')/\anyI P .any ops (Ip ops) R (n - 1) (listed.setIfInBounds i true) a' w') a w)
 | .done,n,listed,s,h,β,w,a,ah,k,next=>by
   refine⟨λhc=>?_,λhc=>by simp[qM]at hc⟩
   simp only[qM,GH,A8,uo]at hc;obtain⟨rfl,hr⟩:=hc;exact⟨by simpa using hr,next _ _ _ _ _ k (FH.le.refl h) ah (Same.refl _ _)⟩
 | .fl i t,n,listed,s,h,β,w,a,ah,k,next=>by
   refine⟨λhc=>?_,λhc=>by simp[qM]at hc⟩
   simp only[qM,GH,A8,Jc,ne_eq]at hc;obtain⟨⟨hn0,hb⟩,hc⟩:=hc;obtain⟨n,rfl⟩:∃m,n=m+1:=⟨n - 1,by omega⟩
   unfold FC at hb;cases hi:ops[i]? with
   | none=>rw[hi]at hb;simp at hb
   | some o=>
     rw[hi]at hb;simp only[A8]at hb;simp only[yc,hi,nR]at k;have lH:o∈ops.toList:=kT (i:=i) (by simpa using hi)
     obtain⟨⟨⟨hf,hfree⟩,hr⟩,hl⟩:=hb;have k:ig E (tl ops) o s λs=>nR E (tl ops) (yc ops t) s K:=by
      unfold Ir at k;rw[hf]at k;exact k
     obtain⟨v,s',hy,k',aK⟩:=pU ok ah (hg.mono ah.ok.hle) hf k;have hq:Ip ops i=true:=by
      simp only[Ip,hi];cases ho:o.op with
      | call c=>
        rw[ho]at hf;have:c.callee=.builtin .len:=TR hf;simp[yj,this]
      | _=>
        have:=nI hf;rw[ho]at this;exact this
     refine vg (bl:=J9 ops listed i) hi (Region.noSelect_spec hs) hq n listed a w (Region.free_spec hi hfree) (λe=>?_) (by simpa using hr) hy (λ_=>jL.refl w)
      ((rZ ok hg hs t aK k' λs2 h2 β2 w2 a2 k2 fU aY sm=>next s2 h2 β2 w2 a2 k2 fU aY (sm.put_mem lH)).1 hc)
     rw[e]at hl;exact Iq (by simpa using hl)
 | .op i t,n,listed,s,h,β,w,a,ah,k,next=>by
   have key:n≠0->(ops[i]?).isSome=true->qM ops t true (n - 1) (listed.setIfInBounds i true)=true->tC P ops i (λa' w'=>(Ip ops i=true->jL w w')/\anyI P .any ops (Ip ops) R (n - 1) (listed.setIfInBounds i true) a' w') a w:=by
    intro hn0 hi hc;obtain⟨o,hi⟩:=A77.1 hi;have lH:o∈ops.toList:=kT (i:=i) (by simpa using hi)
    simp only[yc,hi,nR]at k;exact(Iw ok ah (hg.mono ah.ok.hle) hi k λs' h' β' w' v k' le xW aK=>⟨xW,(rZ ok hg hs t aK k' λs2 h2 β2 w2 a2 k2 fU aY sm=>next s2 h2 β2 w2 a2 k2 (le.trans fU) aY (sm.put_mem lH)).1 hc⟩)
   refine⟨λhc=>?_,λhc j hj=>?_⟩
   .simp only[qM,OY,OZ,A8,Jc,ne_eq,uo]at hc;obtain⟨⟨⟨hr,hn0⟩,hi⟩,hc⟩:=hc;obtain⟨m,rfl⟩:∃m,n=m+1:=⟨n - 1,by omega⟩
    refine⟨λh0=>by rw[hr]at h0;simp at h0,λj hj=>?_⟩
    rw[hr]at hj;simp at hj;subst hj;exact key hn0 hi hc
   .simp only[qM,Jl,Jo,GH,A8,Jc,ne_eq]at hc;simp only[DT.alts,Wu]at hj;subst hj;exact key hc.1.1 hc.1.2 hc.2
 | .alt i t mm,n,listed,s,h,β,w,a,ah,k,next=>by
   have key:n≠0->(ops[i]?).isSome=true->qM ops t true (n - 1) (listed.setIfInBounds i true)=true->qM ops mm false n listed=true ->
    ∀j∈i :: mm.alts,tC P ops j (λa' w'=>(Ip ops j=true->jL w w')/\anyI P .any ops (Ip ops) R (n - 1) (listed.setIfInBounds j true) a' w') a w:=by
    intro hn0 hi hc hm j hj;obtain⟨o,hi⟩:=A77.1 hi;have lH:o∈ops.toList:=kT (i:=i) (by simpa using hi)
    simp only[yc,hi,nR]at k;rcases jM.1 hj with rfl | hj
    .exact(Iw ok ah (hg.mono ah.ok.hle) hi k.1 λs' h' β' w' v k' le xW aK=>⟨xW,(rZ ok hg hs t aK k' λs2 h2 β2 w2 a2 k2 fU aY sm=>next s2 h2 β2 w2 a2 k2 (le.trans fU) aY (sm.put_mem lH)).1 hc⟩)
    .exact(rZ ok hg hs mm ah k.2 next).2 hm j hj
   refine⟨λhc=>?_,λhc j hj=>?_⟩
   .simp only[qM,OY,OZ,A8,Jc,ne_eq,uo]at hc;obtain⟨⟨⟨⟨hr,hn0⟩,hi⟩,hc⟩,hm⟩:=hc;obtain⟨q,rfl⟩:∃m,n=m+1:=⟨n - 1,by omega⟩
    refine⟨λh0=>by rw[hr]at h0;simp at h0,λj hj=>?_⟩
    rw[hr]at hj;exact key hn0 hi hc hm j hj
   .simp only[qM,Jl,Jo,GH,A8,Jc,ne_eq]at hc;exact key hc.1.1.1 hc.1.1.2 hc.1.2 hc.2 j hj
theorem TW(ok:eH P E) (hg:aG E.cx.gd h0){ol:OT} (ho:wS ops=some ol) (ah:Sat E.n B h0 s h β w a) (k:nR E (tl ops) ol s K) (hF:Wd F) (hn:yX ops.toList=true)
 (next:∀s' h' β' w' a',K s'->h.le h'->Sat E.n B h0 s' h' β' w' a'->Same (gJ (tl ops)) a a'->Q .normal a' w'):(Code.region id ops true).wpIn F n P Q a w:=by
 unfold wS at ho;have et:tl ops=ops.toList:=by cases ops;rfl
 simp only at ho;split at ho
 .rename_i hp;cases ho;simp only[A8,uo]at hp;refine wpIn_region_any ok.mixed (zq (sf:=Ip ops) (R:=λa w=>Q .normal a w) hF hn (λ_ _ hh=>hh) _ _ _ _ ?_)
  exact(rZ ok hg hp.1 (R:=λa w=>Q .normal a w) (Nz ops ops.size (Array.replicate ops.size false)) (ah.drawn (w.drawn+1) (LQ _)) k λs' h' β' w' a' k' le aK sm=>next _ _ _ _ _ k' le aK (by rw[et];exact sm)).1 hp.2
 .cases ho
end
abbrev isNil{α:Type}:List α->Bool
 | []=>true
 | _ :: _=>false
abbrev sD(seen:List Nat):List (Nat×Gd×aW)->List (Nat×Gd×aW)
 | []=>[]
 | (k,g,e) :: l=>match fD k seen with
   | true=>sD seen l
   | false=>match isNil g with
     | true=>(k,g,e) :: sD (k :: seen) l
     | false=>sD (k :: seen) l
abbrev kH:List (Gd×aC)->List (Gd×aC)
 | []=>[]
 | (g,r) :: l=>match isNil g with
   | true=>([],r) :: kH l
   | false=>([],.gone) :: kH l
abbrev clean(s:St):St:={ env:=sD [] s.env,T:=kH s.T,gl:=[],gs:=[] }
theorem pW:∀{l:List (Nat×Gd×aW)}{seen:List Nat}{t:Nat}{G:Gd}{e:aW},fH (sD seen l) t=some (G,e)->fD t seen=false/\fH l t=some (G,e)/\G=[]
 | [],_,_,_,_,h=>by simp[sD,fH]at h
 | (k,g,e0) :: l,seen,t,G,e,h=>by
   unfold sD at h;split at h
   .rename_i hm;obtain⟨h1,h2,h3⟩:=pW h;refine⟨h1,?_,h3⟩;rw[aX,if_neg]
    .exact h2
    .rintro rfl;rw[hm]at h1;cases h1
   .rename_i hm;have sub:fH (sD (k :: seen) l) t=some (G,e)->fD t seen=false/\fH ((k,g,e0) :: l) t=some (G,e)/\G=[]:=by
     intro h;obtain⟨h1,h2,h3⟩:=pW h;rw[iM,pz]at h1;refine⟨h1.2,?_,h3⟩;rw[aX,if_neg]
     .exact h2
     .rintro rfl;exact A97 h1.1 rfl
    split at h
    .rename_i hn;rw[aX]at h;split at h
     .rename_i hk;subst hk;cases h;refine⟨hm,by rw[aX,if_pos rfl],?_⟩
      cases g with
      | nil=>rfl
      | cons _ _=>cases hn
     .exact sub h
    .exact sub h
theorem Bl(gl:List Bool):∀(T:List (Gd×aC)) (i:Nat) (r:aC),(eff [] (kH T))[i]?=some r->r.live=true->(eff gl T)[i]?=some r
 | [],i,r,h,_=>by simp[kH,eff]at h
 | (g,r0) :: l,i,r,h,hl=>by
   have e1:eff [] (kH ((g,r0) :: l))=(match isNil g with | true=>r0 | false=>aC.gone) :: eff [] (kH l):=by
    simp only[kH];cases isNil g<;>rfl
   rw[e1]at h;cases i with
   | zero=>
     simp only[WA,OU]at h;cases g with
     | nil=>simp only[isNil]at h;subst h;rfl
     | cons _ _=>simp only[isNil]at h;subst h;cases hl
   | succ i=>
     simp only[List.getElem?_cons_succ,eff]at h ⊢
     exact Bl gl l i r h hl
theorem Bo:∀(T:List (Gd×aC)),(kH T).length=T.length
 | []=>rfl
 | (g,r) :: l=>by simp only[kH];split<;>simp[Bo l]
theorem vC:∀{T:List (Gd×aC)}{p:Gd×aC},p∈kH T->p.1=[]
 | [],p,h=>by simp[kH]at h
 | (g,r) :: l,p,h=>by
   simp only[kH]at h;split at h
   .rcases jM.1 h with rfl | h
    .rfl
    .exact vC h
   .rcases jM.1 h with rfl | h
    .rfl
    .exact vC h
theorem OK.weaken{T':List aC} (ok:OK B h0 T h β w) (hl:T'.length=T.length) (sub:∀(i:Nat) r,T'[i]?=some r->r.live=true->T[i]?=some r):OK B h0 T' h β w where
 below:=ok.below
 dr:=ok.dr
 len:=by rw[hl];exact ok.len
 holds:=by
  intro i r v e e';cases hr:r.live with
  | true=>exact ok.holds i r v (sub i r e hr) e'
  | false=>cases r<;>first | (cases hr;done) | (cases v<;>trivial)
 own:=λi r v b e l e' hb=>ok.own i r v b (sub i r e l) l e' hb
 inj:=λi j r r' u v b e l e' l' f f' hb hb'=>ok.inj i j r r' u v b (sub i r e l) l (sub j r' e' l') l' f f' hb hb'
 hle:=ok.hle
 hw:=ok.hw
 hg:=ok.hg
 kn:=ok.kn
theorem Sat.clean{N:Nat}{B:Base}{h0:FH}{s:St}{h:FH}{β:List RV}{w:World}{a:Act} (ah:Sat N B h0 s h β w a):Sat N B h0 (clean s) h β w a:=by
 refine⟨?_,?_,?_,ah.defers,ah.sz,?_,?_⟩
 .exact ah.ok.weaken (by simp[fO,Bo]) λi r e l=>Bl s.gl s.T i r e l
 .intro t G e ht;obtain⟨_,h1,rfl⟩:=pW ht;exact ah.env t [] e h1
 .intro d i hi;have hi:Rq [] d=some i:=hi;cases hi
 .intro t G e ht;obtain⟨_,h1,rfl⟩:=pW ht;rfl
 .intro p hp;rw[vC hp]
abbrev writes:Code->List Nat
 | .region _ ops _=>gJ (tl ops)
 | .seq a b=>dO (writes a) (writes b)
 | .cond _ a b=>dO (writes a) (writes b)
 | .block _ c=>writes c
 | .loop c=>writes c
 | _=>[]
abbrev keyOf:Code->Nat
 | .region id _ _=>id
 | .seq a _=>keyOf a
 | .cond _ a _=>keyOf a
 | .block _ c=>keyOf c
 | .loop c=>keyOf c
 | _=>0
abbrev zy(n:Nat):SC->Bool
 | .own i _=>Nat.ble (i+1) n
 | .row i=>Nat.ble (i+1) n
 | .jh i _ _ _=>Nat.ble (i+1) n
 | .sub i _=>Nat.ble (i+1) n
 | .jX i _ _ _ _=>Nat.ble (i+1) n
 | _=>true
abbrev wU(n:Nat):SV->Bool
 | .c x=>zy n x
 | .agg xs=>allL (zy n) xs
 | _=>true
abbrev jU(n:Nat):aC->Bool
 | .blk _ xs=>allL (zy n) xs
 | _=>true
abbrev jI:SC->Bool
 | .v _=>true
 | .sl _ _=>true
 | .one _ _=>true
 | .fp _ _=>true
 | .abs _=>true
 | .junk=>true
 | _=>false
abbrev yu:SV->Bool
 | .c x=>jI x
 | .agg xs=>allL jI xs
 | _=>true
abbrev pX:aW->Bool
 | .one v=>yu v
 | .iQ vs=>allL yu vs
abbrev nJ(ws seen:List Nat):List (Nat×Gd×aW)->List (Nat×Gd×aW)
 | []=>[]
 | (k,g,e) :: l=>match fD k seen with
   | true=>nJ ws seen l
   | false=>match fD k ws with
     | true=>nJ ws (k :: seen) l
     | false=>match bY (isNil g) (pX e) with
       | true=>(k,g,e) :: nJ ws (k :: seen) l
       | false=>nJ ws (k :: seen) l
abbrev keepR(n:Nat) (ws seen:List Nat):List (Nat×Gd×aW)->List (Nat×SV)
 | []=>[]
 | (k,g,e) :: l=>match fD k seen with
   | true=>keepR n ws seen l
   | false=>match fD k ws with
     | true=>keepR n ws (k :: seen) l
     | false=>match isNil g with
       | true=>match e with
         | .one (.c (.own i off))=>match Nat.ble (i+1) n with
           | true=>(k,.c (.own i off)) :: keepR n ws (k :: seen) l
           | false=>keepR n ws (k :: seen) l
         | .one (.c (.row i))=>match Nat.ble (i+1) n with
           | true=>(k,.c (.row i)) :: keepR n ws (k :: seen) l
           | false=>keepR n ws (k :: seen) l
         | _=>keepR n ws (k :: seen) l
       | false=>keepR n ws (k :: seen) l
abbrev Bq(s:St):List (Nat×SV)->Bool
 | []=>true
 | (k,.c (.own i off)) :: l=>match fH s.env k with
   | some ([],.one (.c (.own i' off')))=>bY (bY (Nat.beq i i') (Nat.beq off off')) (Bq s l)
   | _=>false
 | (k,.c (.row i)) :: l=>match fH s.env k with
   | some ([],.one (.c (.row i')))=>bY (Nat.beq i i') (Bq s l)
   | _=>false
 | _=>false
abbrev Bv:List (Nat×SV)->List (Nat×Gd×aW)
 | []=>[]
 | (k,v) :: l=>(k,[],.one v) :: Bv l
abbrev jq:List (Nat×aC)->List (Gd×aC)->List (Gd×aC)
 | [],T=>T
 | (i,r) :: l,T=>jq l (bQ T i ([],r))
abbrev nS(ws:List Nat) (s:St) (sl:List (Nat×SV)) (rs:List (Nat×aC)):St:=
 { env:=dO (Bv sl) (dO (Bv (keepR (aJ s.T) ws [] s.env)) (nJ ws [] s.env)),T:=jq rs s.T,gl:=[],gs:=[] }
abbrev TY:SV->SV
 | .c x=>match x with
   | .abs (.O6 sh l)=>.c (.sl sh l)
   | x=>.c x
 | v=>v
abbrev Df(s:St):List (Nat×SV)->Prop
 | []=>True
 | (k,v) :: l=>(match fH s.env k with
   | some ([],.one u)=>TY u=v
   | _=>False)/\Df s l
abbrev uG(n:Nat) (T:List (Gd×aC)):Bool:=allL (λp=>bY (isNil p.1) (jU n p.2)) T
abbrev DN(n:Nat) (ws:List Nat) (sl:List (Nat×SV)):Bool:=allL (λp=>bY (wU n p.2) (fD p.1 ws)) sl
abbrev Ua(s:St) (k:Nat) (t:TypeId) (sh:Sh):St:=match fH s.env k with
 | some ([],.one (.c (.v (.slice none 0 0))))=>{ s with T:=snoc s.T ([],.row t sh []),env:=(k,[],.one (.c (.row (aJ s.T)))) :: s.env,gs:=WL s.gs k }
 | some ([],.one (.c (.own i 0)))=>match dH s.T i with
   | some ([],.blk t' [.v (.slice none 0 0)])=>{ s with T:=bQ s.T i ([],.blk t' [.sl sh []]) }
   | _=>s
 | _=>s
abbrev FI(s:St) (k:Nat):St:=match fH s.env k with
 | some ([],.one (.c (.row r)))=>Hq s r
 | some ([],.one (.c (.abs (.O6 sh l))))=>{ s with env:=(k,[],.one (.c (.sl sh l))) :: s.env,gs:=WL s.gs k }
 | _=>s
abbrev oU(s:St):List Nat->St
 | []=>s
 | k :: l=>oU (FI s k) l
theorem Sat.oU{N:Nat}{B:Base}{h0:FH}{w:World}{a:Act}{β:List RV}:∀(l:List Nat){s:St}{h:FH},Sat N B h0 s h β w a->∃h',h.le h'/\Sat N B h0 (oU s l) h' β w a
 | [],s,h,ah=>⟨h,FH.le.refl h,ah⟩
 | k :: l,s,h,ah=>by
   have h1:∃h',h.le h'/\Sat N B h0 (FI s k) h' β w a:=by
    unfold FI;split
    .exact ah.abm _
    .rename_i sh l hk;refine⟨h,FH.le.refl h,ah.ok,?_,?_,ah.defers,ah.sz,?_,ah.gT⟩
     .intro t' G e ht;rw[aX]at ht;split at ht
      .rename_i hkt;subst hkt;cases ht;obtain⟨z,z1,z2,z3⟩:=ah.env k _ _ hk;have c:bV h β (.c (.abs (.O6 sh l))) z:=z2 rfl;exact⟨z,z1,λ_=>⟨c.1.1,c.2⟩,λhh=>by cases hh⟩
      .exact ah.env t' G e ht
     .intro d i hi;obtain⟨hne,hi⟩:=xM _ _ _ _ hi;obtain⟨G,b,q1,q2⟩:=ah.gs d i hi;exact⟨G,b,by rw[aX,if_neg (Ne.symm hne)];exact q1,q2⟩
     .intro t' G e ht;rw[aX]at ht;split at ht
      .cases ht;rfl
      .exact ah.gb _ _ _ ht
    .exact⟨h,FH.le.refl h,ah⟩
   obtain⟨h1,le1,fQ⟩:=h1;obtain⟨h2,fU,aY⟩:=Sat.oU l fQ;exact⟨h2,le1.trans fU,aY⟩
abbrev DR(s:St):List (Nat×TypeId×Sh)->St
 | []=>s
 | (k,t,sh) :: l=>DR (Ua s k t sh) l
theorem Sat.Ua{N:Nat}{B:Base}{h0:FH}{s:St}{h:FH}{β:List RV}{w:World}{a:Act} (ah:Sat N B h0 s h β w a) (k:Nat) (t:TypeId) (sh:Sh):∃β',Sat N B h0 (Ua s k t sh) h β' w a:=by
 unfold lM.Ua;split
 .rename_i hk;obtain⟨z,z1,z2,_⟩:=ah.env k _ _ hk;have ez:z=.slice none 0 0:=(z2 rfl:bV h β (.c (.v (.slice none 0 0))) z).1.1;subst ez;have ok:OK B h0 (eff s.gl (snoc s.T ([],.row t sh []))) h (β++[.row (.slice none 0 0)]) w:=by
   rw[fJ];exact ah.ok.add (r:=.row t sh []) (v:=.row (.slice none 0 0)) (bK w none) (λb hb=>by rw[aT]at hb;simp[au]at hb) (.inl ⟨rfl,rfl⟩)
  have gT:∀p∈snoc s.T (([]:Gd),aC.row t sh []),qX s.gl.length p.1=true:=by
   intro p hp;rw[fM,Cj]at hp;rcases hp with hp | hp
   .exact ah.gT p hp
   .simp at hp;subst hp;rfl
  have sm:=ah.mem ok (FH.le.refl h) (Ext.append _ _) gT;refine⟨_,ok,?_,?_,ah.defers,ah.sz,?_,gT⟩
  .intro t' G e ht;rw[aX]at ht;split at ht
   .rename_i hkt;subst hkt;cases ht;refine⟨_,z1,λ_=>⟨?_,rfl,rfl⟩,λhh=>by cases hh⟩
    refine⟨.row (.slice none 0 0),?_,rfl⟩;have:aJ s.T=β.length:=by rw[ah.ok.len,fO,aV]
    rw[this];simp
   .exact sm.env t' G e ht
  .intro d i hi;obtain⟨hne,hi⟩:=xM _ _ _ _ hi;obtain⟨G,b,q1,q2⟩:=ah.gs d i hi;exact⟨G,b,by rw[aX,if_neg (Ne.symm hne)];exact q1,q2⟩
  .intro t' G e ht;rw[aX]at ht;split at ht
   .cases ht;rfl
   .exact ah.gb _ _ _ ht
 .rename_i i hk;split
  .rename_i t' hT;refine⟨β,?_,ah.env,ah.gs,ah.defers,ah.sz,ah.gb,?_⟩
   .show OK B h0 (eff s.gl (bQ s.T i ([],.blk t' [.sl sh []]))) h β w;rw[dY];refine ah.ok.E8 (bf hT (show gv s.gl []=true from rfl)) rfl λv hv=>?_
    cases v with
    | blk b=>
      obtain⟨ys,e1,al⟩:=hv;refine⟨ys,e1,?_⟩;cases ys with
      | nil=>exact al.elim
      | cons y ys=>
        cases ys with
        | cons _ _=>exact al.2.elim
        | nil=>
          obtain⟨⟨c,o⟩,_⟩:=al;obtain rfl:y=.slice none 0 0:=c.1;exact⟨⟨.inl ⟨rfl,rfl⟩,o⟩,trivial⟩
    | row _=>exact hv.elim
    | deep _ _=>exact hv.elim
    | no=>exact hv.elim
   .intro p hp;rw[dM]at hp;rcases LH hp with hp | hp
    .exact ah.gT p hp
    .subst hp;rfl
  .exact⟨β,ah⟩
 .exact⟨β,ah⟩
theorem Sat.DR{N:Nat}{B:Base}{h0 h:FH}{w:World}{a:Act}:∀(l:List (Nat×TypeId×Sh)){s:St}{β:List RV},Sat N B h0 s h β w a->∃β',Sat N B h0 (DR s l) h β' w a
 | [],s,β,ah=>⟨β,ah⟩
 | (k,t,sh) :: l,s,β,ah=>by
   obtain⟨β1,fQ⟩:=ah.Ua k t sh;exact Sat.DR l fQ
abbrev afB(body:St->(Exit->St->Prop)->Prop) (ws:List Nat) (la:LA) (s:St) (K:Exit->St->Prop):Prop:=
 (∃x,la.inv x/\Df s (la.slots x)/\s.T=jq (la.res x) s.T) /\
 ∀x,la.inv x->match bY (uG (aJ s.T) (jq (la.res x) s.T)) (DN (aJ s.T) ws (la.slots x)) with
   | false=>False
   | true=>body (nS ws s (la.slots x) (la.res x)) λe s'=>match e with
     | .normal=>match Bq (qK la.can (lu la.ren s')) (keepR (aJ s.T) ws [] s.env) with
       | true=>∃x',la.inv x'/\Df (qK la.can (lu la.ren s')) (la.slots x')/\og (aJ s.T) (qK la.can (lu la.ren s')).T=jq (la.res x') s.T/\la.meas x' < la.meas x
       | false=>False
     | e=>K e s'
abbrev FK(body:St->(Exit->St->Prop)->Prop):Nat->St->(Exit->St->Prop)->Prop
 | 0,_,_=>False
 | n+1,s,K=>body s λe s'=>match e with
   | .normal=>FK body n s' K
   | e=>K e s'
abbrev XF(E:Env) (c:Code) (s:St):Option mO:=match E.ann (keyOf c) with
 | some f=>some (f s)
 | none=>none
abbrev NC(s:St) (t:Nat):Int:=match fH s.env t with
 | some (_,.one (.c (.v (.int _ n))))=>n
 | _=>0
abbrev Ub(s:St) (t:Nat):ByteArray:=match fH s.env t with
 | some (_,.one (.c (.v (.string b))))=>b
 | _=>ByteArray.empty
abbrev slotL(sh:Sh) (s:St) (t:Nat):List sh.den:=match fH s.env t with
 | some (_,.one v)=>match EL s sh v with
   | some l=>l
   | none=>[]
 | _=>[]
abbrev br(b:Bool) (X Y:Prop):Prop:=match b with
 | true=>X
 | false=>Y
theorem ak{b:Bool}{X Y:Prop}:br b X Y↔(b=true->X)/\(b=false->Y):=by cases b<;>simp[br]
abbrev Iy:(ps:List Nat)->(ss:List Sh)->bW ss->List (Nat×Gd×aW)
 | p :: ps,s :: ss,d=>(p,[],.one (iG s d.1)) :: Iy ps ss d.2
 | _,_,_=>[]
abbrev uH(n:Nat):List Nat->List Sh->Bool
 | [],[]=>true
 | p :: ps,_ :: ss=>bY (bY (Nat.ble (p+1) n) (!(fD p ps))) (uH n ps ss)
 | _,_=>false
abbrev XG(ws dr:List Nat) (s:St):List (Nat×Gd×aW):=dO (Bv (keepR (aJ s.T) ws [] s.env)) (nJ dr [] s.env)
abbrev Kv(n:Nat) (body:St->(Exit->St->Prop)->Prop) (ws:List Nat) (ra:RA) (ps:List Nat) (ss:List Sh) (L:List (bW ss)) (s:St) (K:Exit->St->Prop):Prop:=
 match uH n ps ss with
 | false=>False
 | true=>
 (∃x,ra.inv 0 x/\s.T=jq (ra.res x) s.T) /\
 (∀i x d,ra.inv i x->L[i]?=some d->match uG (aJ s.T) (jq (ra.res x) s.T) with
  | false=>False
  | true=>body { env:=dO (Iy ps ss d) (XG ws (dO ra.drop ps) s),T:=jq (ra.res x) s.T,gl:=[],gs:=[] } λe s'=>match Bq s' (keepR (aJ s.T) ws [] s.env) with
    | false=>False
    | true=>match e with
      | .normal=>∃x',ra.inv (i+1) x'/\og (aJ s.T) s'.T=jq (ra.res x') s.T
      | .ret=>K .ret { env:=XG ws ra.drop s,T:=s'.T,gl:=s'.gl,gs:=[] }
      | .exit j=>K (.exit j) { env:=XG ws ra.drop s,T:=s'.T,gl:=s'.gl,gs:=[] }
      | _=>False) /\
 ∀x,ra.inv (aJ L) x->match uG (aJ s.T) (jq (ra.res x) s.T) with
   | false=>False
   | true=>K .normal { env:=XG ws ra.drop s,T:=jq (ra.res x) s.T,gl:=[],gs:=[] }
abbrev qG(s:St) (Cm rV:List Nat) (nl:List (Nat×TypeId×Sh)) (uq:List (Nat×Nat×TypeId×Sh)) (dp:List (Nat×TypeId×Sh×Nat)):St:=tK (DC (DR (xZ (oU s Cm) rV) nl) uq) dp
theorem Sat.qG{N:Nat}{B:Base}{h0 h:FH}{w:World}{a:Act}{s:St}{β:List RV} (ah:Sat N B h0 s h β w a) (Cm rV:List Nat) (nl:List (Nat×TypeId×Sh)) (uq:List (Nat×Nat×TypeId×Sh)) (dp:List (Nat×TypeId×Sh×Nat)):∃h' β',h.le h'/\Sat N B h0 (qG s Cm rV nl uq dp) h' β' w a:=by
 obtain⟨h1,le1,fQ⟩:=Sat.oU Cm ah;obtain⟨h2,β2,fU,aY⟩:=Sat.xZ (l:=rV) fQ;obtain⟨β3,Kw⟩:=Sat.DR nl aY;obtain⟨β4,Uc⟩:=Sat.DC uq Kw;obtain⟨β5,ah1⟩:=Sat.tK dp Uc;exact⟨h2,β5,le1.trans fU,ah1⟩
abbrev vF:Nat->St->St
 | 0,s=>s
 | n+1,s=>vF n { s with T:=snoc s.T ([],.gone) }
theorem Sat.vF{N:Nat}{B:Base}{h0 h:FH}{w:World}{a:Act}:∀(n:Nat){s:St}{β:List RV},Sat N B h0 s h β w a->∃β',Sat N B h0 (vF n s) h β' w a
 | 0,s,β,ah=>⟨β,ah⟩
 | n+1,s,β,ah=>by
   refine Sat.vF n (β:=β++[.no]) (s:={ s with T:=snoc s.T ([],.gone) }) ?_
   refine ah.mem ?_ (FH.le.refl h) (Ext.append _ _) λp hp=>?_
   .rw[fJ];exact ah.ok.add (r:=.gone) (v:=.no) (bK w none) (λb hb=>(Jp hb).elim) trivial
   .rw[fM,Cj]at hp;rcases hp with hp | hp
    .exact ah.gT p hp
    .simp at hp;subst hp;rfl
abbrev ah2(E:Env) (c:Code) (s:St):Option LA:=match XF E c s with
 | some (.cut la)=>some la
 | _=>none
abbrev afC(ws:List Nat) (la:LA) (s s':St):Prop:=match Bq (qK la.can (lu la.ren (qG s' la.Cm la.rV la.nil la.uq la.deep))) (keepR (aJ s.T) ws [] s.env) with
 | true=>∃v,la.inv v/\Df (qK la.can (lu la.ren (qG s' la.Cm la.rV la.nil la.uq la.deep))) (la.slots v)/\og (aJ s.T) (qK la.can (lu la.ren (qG s' la.Cm la.rV la.nil la.uq la.deep))).T=jq (la.res v) s.T
 | false=>False
abbrev iJ:Env->Code->St->(Exit->St->Prop)->Prop
 | E,.skip,s,K=>K .normal s
 | E,.region _ ops draw,s,K=>match yX (tl ops) with
   | false=>False
   | true=>match draw with
     | false=>Xx E (tl ops) (tl ops) s λs=>K .normal (clean s)
     | true=>match yg E.cx (tl ops) with
       | true=>match Xz ops with
         | true=>Qj E (tl ops) (tl ops) s λs=>K .normal (clean s)
         | false=>False
       | false=>match Nv ops with
         | some m=>TS E (tl ops) m s λs=>K .normal (clean s)
         | none=>match orB E.cx.rt (Iu E (tl ops)) with
           | true=>match wS ops with
             | some l=>nR E (tl ops) l s λs=>K .normal (clean s)
             | none=>False
           | false=>match tN ops with
             | some l=>kQ E (tl ops) l s λs=>K .normal (clean s)
             | none=>False
 | E,.seq x y,s,K=>match ah2 E y s with
   | some la=>(iJ E x (vF la.pad s) λe s'=>match e with
    | .normal=>afC (dO la.drop (writes x)) la (vF la.pad s) s'
    | e=>K e s')/\∀v,la.inv v->match bY (uG (aJ (vF la.pad s).T) (jq (la.res v) (vF la.pad s).T)) (DN (aJ (vF la.pad s).T) (dO la.drop (writes x)) (la.slots v)) with
      | false=>False
      | true=>iJ E y (nS (dO la.drop (writes x)) (vF la.pad s) (la.slots v) (la.res v)) K
   | none=>iJ E x s λe s'=>match e with
     | .normal=>iJ E y s' K
     | e=>K e s'
 | E,.cond c x y,s,K=>match bI E.cx s [] c with
   | some (.one (.c (.v (.bool b))))=>br b (iJ E x s K) (iJ E y s K)
   | _=>False
 | E,.block id c,s,K=>iJ E c s λe s'=>match e with
   | .exit i=>match Nat.beq i id with
     | true=>K .normal s'
     | false=>K (.exit i) s'
   | e=>K e s'
 | E,.loop c,s,K=>match XF E c s with
   | some (.inv la)=>afB (iJ E c) (dO la.drop (writes c)) la (vF la.pad (qG s la.Cm la.rV la.nil la.uq la.deep)) K
   | some (.AY n)=>FK (iJ E c) n s K
   | _=>False
 | E,.rangeFunc g ps CB c,s,K=>match E.rd with
   | true=>False
   | false=>match bI E.cx s [] g with
     | some (.one (.c (.abs (.seq P' ss L))))=>match XF E c s with
       | some (.rng ra)=>E.P=some P'/\Kv E.n (λs K=>iJ { E with rd:=true } CB s λe s'=>match e with
         | .normal=>iJ { E with rd:=true } c s' K
         | _=>False) (dO ra.drop (dO (tl ps) (dO (writes CB) (writes c)))) ra (tl ps) ss L (qG s ra.Cm ra.rV ra.nil ra.uq ra.deep) K
       | _=>False
     | _=>False
 | E,.exit i,s,K=>K (.exit i) s
 | E,.ret,s,K=>K .ret s
 | _,_,_,_=>False
abbrev vG(D:Nat):Deferred:={ target:=.collected D,args:=#[] }
theorem XH(w:World) (a b:Obj) (G:Nat->Prop):Gs G w ((w.alloc a).alloc b):=
 ⟨rfl,rfl,rfl,by simp;omega,mZ _,λk hk _=>by
  rw[Below.heap_alloc _ _ _ (by simp;omega),Below.heap_alloc _ _ _ hk]⟩
def abW(A:World) (l D:Nat) (G:Nat->Prop) (I:World->Prop) (Ix:Code->World->Prop):Exit->Act->World->Prop
 | .normal,_,A'=>(∀b,b=l\/b=D\/G b->A'.heap[b]?=A.heap[b]?)/\I A'
 | .ret,_,A'=>(∀b,b=l\/b=D\/G b->A'.heap[b]?=A.heap[b]?)/\Ix .ret A'
 | .exit id,_,A'=>(∀b,b=l\/b=D\/G b->A'.heap[b]?=A.heap[b]?)/\Ix (.exit id) A'
 | .goto t,_,_=>False
 | .panic _,_,_=>False
 | .outgrown,_,_=>False
theorem Qn{ss:List Sh}{L:List (bW ss)}{g:Operand}{ps:Array Tmp}{CB body:Code}
 (gv:Gives P h ss L (a.eval g)) (hps:ps.size=ss.length)
 (I:Nat->(Nat->Prop)->World->Prop) (Ix:Code->(Nat->Prop)->World->Prop) (hI:∀i G A,I i G A->HW h A) (hX:∀c G A,Ix c G A->HW h A)
 (hIg:∀i G G' A A',I i G A->Gs G A A'->Own' G G' A A'->I i G' A') (hXg:∀c G G' A A',Ix c G A->Gs G A A'->Own' G G' A A'->Ix c G' A')
 (hIp:∀i G A l o o',I i G A->w.heap.size<=l->A.heap[l]?=some o->ours o=false->I i G (A.putObj l o'))
 (hXp:∀c G A l o o',Ix c G A->w.heap.size<=l->A.heap[l]?=some o->ours o=false->Ix c G (A.putObj l o'))
 (h0:I 0 (λ_=>False) w)
 (hbody:∀(i:Nat) (d:bW ss) (vs:List Value) (G:Nat->Prop) (A:World) (l:Nat) (o1 Qo o2:Obj),L[i]?=some d->yF h ss d vs->I i G A->w.heap.size < l->A.heap[l]?=some o1->ours o1=false->ours Qo=false->A.heap[w.heap.size]?=some o2->ours o2=false->¬G l ->
  CB.wpIn (Fence.wide.inRound l) 0 P (Exit.then (λa1 A1=>(∀b,b=l\/b=w.heap.size\/G b->A1.heap[b]?=A.heap[b]?) /\
   body.wpIn (Fence.wide.inRound l) 0 P (abW (A1.putObj l Qo) l w.heap.size G (I (i+1) G) (λc=>Ix c G)) a1 (A1.putObj l Qo)) (λ_ _ _=>False)) { tmps:=(ps.zip vs.toArray).foldl (λt (p,v)=>t.setIfInBounds p v) a.tmps,defers:=[] } A)
 (hdone:∀G A,I L.length G A->A.heap[w.heap.size]?=some (.deferred (some []))->Q .normal { a with defers:=vG w.heap.size :: a.defers } A)
 (hret:∀G A,Ix .ret G A->A.heap[w.heap.size]?=some (.deferred (some []))->Q .ret { a with defers:=vG w.heap.size :: a.defers } A)
 (afD:∀j G A,Ix (.exit j) G A->A.heap[w.heap.size]?=some (.deferred (some []))->Q (.exit j) { a with defers:=vG w.heap.size :: a.defers } A):
 (Code.rangeFunc g ps CB body).wpIn Fence.wide n P Q a w:=by
 refine wpIn_rangeFunc λfn hfn=>?_
 obtain⟨gf,lb,hg,⟨fng,hfg,hbg,hng⟩,gives⟩:=gv;obtain⟨rec,hrec⟩:∃rec:LoopState->Option Code->Loop,rec=λst pe=>{ state:=st,pending:=pe,fn,tmps:=a.tmps,params:=ps,assign:=CB,body,defers:=w.heap.size }:=⟨_,rfl⟩
 obtain⟨W1,hW1⟩:∃W1,(w.alloc (.deferred (some []))).alloc (.loop (rec .ready none))=W1:=⟨_,rfl⟩;have hL1:W1.heap[w.heap.size+1]?=some (.loop (rec .ready none)):=by
  rw[<-hW1];have:=World.alloc_heap_new (w.alloc (.deferred (some []))) (.loop (rec .ready none));rwa [World.size_alloc]at this
 have hD1:W1.heap[w.heap.size]?=some (.deferred (some [])):=by
  rw[<-hW1];exact(Below.heap_alloc _ _ _ (by simp)).trans (World.alloc_heap_new w _)
 have hI1:I 0 (λ_=>False) W1:=hIg 0 _ _ _ _ h0 (by rw[<-hW1];exact XH w _ _ _) (λb hb=>hb.elim)
 have kd:∀{G G':Nat->Prop}{A A':World}{k:Nat}{o:Obj},A.heap[k]?=some o->¬G k->Gs G A A'->Own' G G' A A'->A'.heap[k]?=some o/\¬G' k:=λhk hn hgs ho=>
  ⟨(hgs.block _ (zh.1 hk).1 hn).trans hk,λhh=>by
    have h1:=(zh.1 hk).1;rcases(ho _ hh).2 with h2 | h2
    .exact hn h2
    .omega⟩
 refine⟨w.heap.size+1,[vG w.heap.size],W1,{ target:=.fn (.func gf) lb,args:=#[.func (.yield (w.heap.size+1)) #[] #[]] },W1,gf,
  #[.func (.yield (w.heap.size+1)) #[] #[]]++lb,W1,?_,?_,?_,?_,λhh=>(by cases hh),?_⟩
 .rw[<-hW1,hrec];exact run_enterLoop_outer _ _ _ _ _
 .simp only[resolve,hg];simp[go_sem]
 .intro f' hf';trivial
 .have e:(callFunc gf (#[.func (.yield (w.heap.size+1)) #[] #[]]++lb)).run P W1=.ok (.enter gf (#[.func (.yield (w.heap.size+1)) #[] #[]]++lb)) W1:=by
   simp only[callFunc,Sem.run_bind,run_program,Result.andThen_ok,hfg,hng];simp[hbg];cases hb:fng.body with
   | none=>rw[hb]at hbg;cases hbg
   | some _=>simp
  simp[invoke,go_sem,e]
 .have hc:=gives (w.heap.size+1)
   (λi G A=>match i with
    | some i=>I i G A/\(A.heap[w.heap.size+1]?=some (.loop (rec .ready none))/\¬G (w.heap.size+1))/\(A.heap[w.heap.size]?=some (.deferred (some []))/\¬G w.heap.size)
    | none=>∃c,(c=.ret\/∃j,c=.exit j)/\Ix c G A/\(A.heap[w.heap.size+1]?=some (.loop (rec .done (some c)))/\¬G (w.heap.size+1))/\(A.heap[w.heap.size]?=some (.deferred (some []))/\¬G w.heap.size)) W1
   (λi G A x=>by
    cases i with
    | some i=>exact hI i G A x.1
    | none=>obtain⟨c,_,x1,_⟩:=x;exact hX c G A x1)
   (λi G G' A A' x hgs ho=>by
    cases i with
    | some i=>exact⟨hIg i _ _ _ _ x.1 hgs ho,kd x.2.1.1 x.2.1.2 hgs ho,kd x.2.2.1 x.2.2.2 hgs ho⟩
    | none=>
      obtain⟨c,hc,x1,x2,x3⟩:=x;exact⟨c,hc,hXg c _ _ _ _ x1 hgs ho,kd x2.1 x2.2 hgs ho,kd x3.1 x3.2 hgs ho⟩)
   (λi d vs G A hd hv x=>by
    obtain⟨x1,⟨x2,y2n⟩,x3,y3n⟩:=x;have gY:w.heap.size+1 < A.heap.size:=(zh.1 x2).1;have hvl:vs.length=ss.length:=by
     have:∀{ss:List Sh}{d:bW ss}{vs:List Value},yF h ss d vs->vs.length=ss.length:=by
      intro ss
      induction ss with
      | nil=>intro d vs x;cases vs with | nil=>rfl | cons _ _=>exact x.elim
      | cons s l ih=>intro d vs x;cases vs with | nil=>exact x.elim | cons v vs=>simp[ih x.2]
     exact this hv
    have hy:=run_yield (P:=P) (args:=vs.toArray) x2 (by rw[hrec];simp[hps,hvl])
    rw[hrec]at hy;refine⟨fn,_,CB,body,hy,(roundIn_of_wpIn (F:=Fence.wide) (n:=0) trivial ?_:RoundIn Fence.wide _ P _ _ _ _ _ _ _)⟩;refine wpIn_mono (hbody i d vs G A (w.heap.size+1) _ (.loop { rec .ready none with state:=.busy }) _ hd hv x1 (by omega) x2 rfl rfl x3 rfl y2n) ?_
    intro e0 a1 A1 h1;cases e0 with
    | exit j=>exact h1
    | goto j=>exact h1
    | ret=>exact h1
    | panic c=>exact h1
    | outgrown=>exact h1
    | normal=>
    obtain⟨k1,h1⟩:=h1;have z2:A1.heap[w.heap.size+1]?=some (.loop (rec .ready none)):=(k1 _ (.inl rfl)).trans x2;have z3:A1.heap[w.heap.size]?=some (.deferred (some [])):=(k1 _ (.inr (.inl rfl))).trans x3;have hlt1:w.heap.size+1 < A1.heap.size:=(zh.1 z2).1;refine⟨_,run_beginRound z2 (by rw[hrec]),?_⟩
    have y2:(A1.putObj (w.heap.size+1) (.loop { rec .ready none with state:=.busy })).heap[w.heap.size+1]?=some (.loop { rec .ready none with state:=.busy }):=World.putObj_heap_same hlt1
    have y3:(A1.putObj (w.heap.size+1) (.loop { rec .ready none with state:=.busy })).heap[w.heap.size]?=some (.deferred (some [])):=(World.putObj_heap_other (by omega)).trans z3
    have fin:∀(jump:Option Code) (A3:World),A3.heap[w.heap.size+1]?=some (.loop { rec .ready none with state:=.busy })->A3.heap[w.heap.size]?=some (.deferred (some [])) ->
     (Instr.endRound (w.heap.size+1) jump).run P A3=.ok (.bool jump.isNone) (A3.putObj (w.heap.size+1) (.loop (rec (if jump.isNone then .ready else .done) jump))) /\
     (A3.putObj (w.heap.size+1) (.loop (rec (if jump.isNone then .ready else .done) jump))).heap[w.heap.size+1]?=some (.loop (rec (if jump.isNone then .ready else .done) jump)) /\
     (A3.putObj (w.heap.size+1) (.loop (rec (if jump.isNone then .ready else .done) jump))).heap[w.heap.size]?=some (.deferred (some [])):=λjump A3 h3 h4=>by
     have:=run_endRound (P:=P) jump h3;rw[hrec]at this ⊢;exact⟨this,World.putObj_heap_same (zh.1 h3).1,(World.putObj_heap_other (by omega)).trans h4⟩
    have kg:∀(A3:World) (o':Obj),(∀b,b=w.heap.size+1\/b=w.heap.size\/G b->A3.heap[b]?=(A1.putObj (w.heap.size+1) (.loop { rec .ready none with state:=.busy })).heap[b]?)->∀b,G b->(A3.putObj (w.heap.size+1) o').heap[b]?=A.heap[b]?:=by
     intro A3 o' hk b hb;have hne:b≠w.heap.size+1:=by rintro rfl;exact y2n hb
     rw[World.putObj_heap_other hne,hk b (.inr (.inr hb)),World.putObj_heap_other hne,k1 b (.inr (.inr hb))]
    refine wpIn_mono h1 ?_;rintro e a3 A3 hp;cases e with
    | normal=>
      obtain⟨p0,p3⟩:=hp;have p1:=p0 _ (.inl rfl);have p2:=p0 _ (.inr (.inl rfl));rw[y2]at p1;rw[y3]at p2;obtain⟨q1,q2,q3⟩:=fin none A3 p1 p2;exact⟨_,_,q1,kg A3 _ p0,.inl ⟨rfl,hIp _ _ _ _ _ _ p3 (by omega) p1 rfl,⟨q2,y2n⟩,q3,y3n⟩⟩
    | ret=>
      obtain⟨p0,p3⟩:=hp;have p1:=p0 _ (.inl rfl);have p2:=p0 _ (.inr (.inl rfl));rw[y2]at p1;rw[y3]at p2;obtain⟨q1,q2,q3⟩:=fin (some .ret) A3 p1 p2;exact⟨_,_,q1,kg A3 _ p0,.inr ⟨rfl,.ret,.inl rfl,hXp _ _ _ _ _ _ p3 (by omega) p1 rfl,⟨q2,y2n⟩,q3,y3n⟩⟩
    | exit id=>
      obtain⟨p0,p3⟩:=hp;have p1:=p0 _ (.inl rfl);have p2:=p0 _ (.inr (.inl rfl));rw[y2]at p1;rw[y3]at p2;obtain⟨q1,q2,q3⟩:=fin (some (.exit id)) A3 p1 p2;exact⟨_,_,q1,kg A3 _ p0,.inr ⟨rfl,.exit id,.inr ⟨id,rfl⟩,hXp _ _ _ _ _ _ p3 (by omega) p1 rfl,⟨q2,y2n⟩,q3,y3n⟩⟩
    | goto t=>exact hp.elim
    | panic ch=>exact hp.elim
    | outgrown=>exact hp.elim)
   ⟨hI1,⟨hL1,λhh=>hh⟩,hD1,λhh=>hh⟩
  refine CallsIn.mono (F:=Fence.wide) (n:=n - 1) (callsIn_wide.2 (callsIn_wide.1 hc)) ?_;rintro e W2 ⟨⟨v,rfl⟩,G,hJ⟩;rcases hJ with⟨x1,⟨x2,_⟩,x3,_⟩ | ⟨c,hc,x1,⟨x2,_⟩,x3,_⟩
  .refine⟨none,_,by have:=run_endLoop (P:=P) x2 (by rw[hrec];simp);rw[hrec]at this;exact this,?_⟩
   exact hdone G _ (hIp _ _ _ _ _ _ x1 (by omega) x2 rfl) ((World.putObj_heap_other (by omega)).trans x3)
  .refine⟨some c,_,by have:=run_endLoop (P:=P) x2 (by rw[hrec];simp);rw[hrec]at this;exact this,?_⟩
   have y1:=hXp _ _ _ _ _ (.loop { rec .done (some c) with state:=.exhausted }) x1 (show w.heap.size<=w.heap.size+1 by omega) x2 rfl
   have y3:(W2.putObj (w.heap.size+1) (.loop { rec .done (some c) with state:=.exhausted })).heap[w.heap.size]?=some (.deferred (some [])):=(World.putObj_heap_other (by omega)).trans x3
   rw[hrec]at y1 y3;rcases hc with rfl | ⟨j,rfl⟩
   .exact wpIn_ret (hret G _ y1 y3)
   .exact wpIn_exit (afD _ G _ y1 y3)
theorem nK:∀{l m:List (Nat×Gd×aW)}{t:Nat},fH (dO l m) t=match fH l t with | some x=>some x | none=>fH m t
 | [],m,t=>rfl
 | (k,x) :: l,m,t=>by
   rw[show dO ((k,x) :: l) m=(k,x) :: dO l m from rfl,aX,aX]
   split
   .rfl
   .exact nK
theorem lS:∀{l:List (Nat×SV)}{t:Nat}{G:Gd}{e:aW},fH (Bv l) t=some (G,e)->∃v,e=.one v/\G=[]/\(t,v)∈l
 | [],_,_,_,h=>by simp[Bv,fH]at h
 | (k,v) :: l,t,G,e,h=>by
   simp only[Bv]at h;rw[aX]at h;split at h
   .rename_i hk;subst hk;cases h;exact⟨v,rfl,rfl,by simp⟩
   .obtain⟨u,h1,h2,h3⟩:=lS h;exact⟨u,h1,h2,by simp[h3]⟩
theorem jJ{ws:List Nat}:∀{l:List (Nat×Gd×aW)}{seen:List Nat}{t:Nat}{G:Gd}{e:aW},fH (nJ ws seen l) t=some (G,e) ->
 fD t seen=false/\fD t ws=false/\fH l t=some (G,e)/\G=[]/\pX e=true
 | [],_,_,_,_,h=>by simp[nJ,fH]at h
 | (k,g,e0) :: l,seen,t,G,e,h=>by
   have skip:fH (nJ ws (k :: seen) l) t=some (G,e)->fD t seen=false/\fD t ws=false/\fH ((k,g,e0) :: l) t=some (G,e)/\G=[]/\pX e=true:=by
    intro h;obtain⟨h1,h2,h3,h4⟩:=jJ h;rw[iM,pz]at h1;refine⟨h1.2,h2,?_,h4⟩;rw[aX,if_neg]
    .exact h3
    .rintro rfl;exact A97 h1.1 rfl
   unfold nJ at h;split at h
   .rename_i hm;obtain⟨h1,h2,h3,h4⟩:=jJ h;refine⟨h1,h2,?_,h4⟩;rw[aX,if_neg]
    .exact h3
    .rintro rfl;rw[hm]at h1;cases h1
   .rename_i hm;split at h
    .exact skip h
    .rename_i hw;split at h
     .rename_i hc;rw[ay,A8]at hc;rw[aX]at h;split at h
      .rename_i hk;subst hk;cases h;refine⟨hm,hw,by rw[aX,if_pos rfl],?_,hc.2⟩
       cases g with
       | nil=>rfl
       | cons _ _=>have:=hc.1;cases this
      .exact skip h
     .exact skip h
theorem Iz{s:St}:∀{l:List (Nat×SV)},Df s l->∀p∈l,∃u,fH s.env p.1=some ([],.one u)/\TY u=p.2
 | [],_,p,hp=>by simp at hp
 | (k,v) :: l,⟨h1,h2⟩,p,hp=>by
   rcases jM.1 hp with rfl | hp
   .split at h1
    .rename_i u hu;exact⟨u,hu,h1⟩
    .cases h1
   .exact Iz h2 p hp
theorem XI{u v:SV}{z:Value} (e:TY u=v) (hv:bV h β' v z\/bV h β u z) (hb:u=v->bV h β u z->bV h β' v z):bV h β' v z:=by
 rcases hv with hv | hu
 .exact hv
 .unfold TY at e;split at e
  .split at e
   .subst e;exact⟨hu.1.1,hu.2⟩
   .exact hb e hu
  .exact hb e hu
theorem oV{s:St}:∀{l:List (Nat×SV)},Bq s l=true->∀p∈l,fH s.env p.1=some ([],.one p.2)
 | [],_,p,hp=>by simp at hp
 | (k,.c (.own i off)) :: l,h,p,hp=>by
   simp only[Bq]at h;split at h
   .rename_i i' off' hu;rw[ay,ay,A8,A8]at h;rcases jM.1 hp with rfl | hp
    .have e1:=gI h.1.1;have e2:=gI h.1.2;rw[hu,e1,e2]
    .exact oV h.2 p hp
   .cases h
 | (k,.c (.row i)) :: l,h,p,hp=>by
   simp only[Bq]at h;split at h
   .rename_i i' hu;rw[ay,A8]at h;rcases jM.1 hp with rfl | hp
    .have e1:=gI h.1;rw[hu,e1]
    .exact oV h.2 p hp
   .cases h
 | (k,.c (.v _)) :: l,h,p,hp=>by cases h
 | (k,.c (.sl _ _)) :: l,h,p,hp=>by cases h
 | (k,.c (.fp _ _)) :: l,h,p,hp=>by cases h
 | (k,.c (.jh _ _ _ _)) :: l,h,p,hp=>by cases h
 | (k,.c (.abs _)) :: l,h,p,hp=>by cases h
 | (k,.c .junk) :: l,h,p,hp=>by cases h
 | (k,.agg _) :: l,h,p,hp=>by cases h
 | (k,.dat _ _) :: l,h,p,hp=>by cases h
 | (k,.und) :: l,h,p,hp=>by cases h
theorem nM{n:Nat}{ws:List Nat}:∀{l:List (Nat×Gd×aW)}{seen:List Nat},∀p∈keepR n ws seen l,wU n p.2=true
 | [],_,p,hp=>by simp[keepR]at hp
 | (k,g,e) :: l,seen,p,hp=>by
   unfold keepR at hp
   repeat' (split at hp)
   all_goals first
    | exact nM p hp
    | (
     rcases jM.1 hp with rfl | hp
     .assumption
     .exact nM p hp)
theorem oW{n:Nat}{ws:List Nat}:∀{l:List (Nat×Gd×aW)}{seen:List Nat},∀p∈keepR n ws seen l,fD p.1 seen=false/\fH l p.1=some ([],.one p.2)
 | [],_,p,hp=>by simp[keepR]at hp
 | (k,g,e) :: l,seen,p,hp=>by
   have afF:fD k seen=true->p∈keepR n ws seen l->fD p.1 seen=false/\fH ((k,g,e) :: l) p.1=some ([],.one p.2):=by
    intro hm hp;obtain⟨h1,h2⟩:=oW p hp;refine⟨h1,?_⟩;rw[aX,if_neg]
    .exact h2
    .rintro rfl;rw[hm]at h1;cases h1
   have Bz:p∈keepR n ws (k :: seen) l->fD p.1 seen=false/\fH ((k,g,e) :: l) p.1=some ([],.one p.2):=by
    intro hp;obtain⟨h1,h2⟩:=oW p hp;rw[iM,pz]at h1;refine⟨h1.2,?_⟩;rw[aX,if_neg]
    .exact h2
    .rintro rfl;exact A97 h1.1 rfl
   unfold keepR at hp;split at hp
   .rename_i hm;exact afF hm hp
   .rename_i hm;split at hp
    .exact Bz hp
    .split at hp
     .rename_i hn;have hg:g=[]:=by cases g with | nil=>rfl | cons _ _=>simp[isNil]at hn
      subst hg;split at hp
      .split at hp
       .rcases jM.1 hp with rfl | hp
        .exact⟨hm,by rw[aX,if_pos rfl]⟩
        .exact Bz hp
       .exact Bz hp
      .split at hp
       .rcases jM.1 hp with rfl | hp
        .exact⟨hm,by rw[aX,if_pos rfl]⟩
        .exact Bz hp
       .exact Bz hp
      .exact Bz hp
     .exact Bz hp
theorem jy{α:Type}{l:List α} (h:i < n):(l.take n)[i]?=l[i]?:=by
 rw[uh,if_pos h]
theorem dG.below:∀{x:SC}{y:Value},zy n x=true->dG h β x y->dG h (β.take n) x y
 | .v _,_,_,c=>c
 | .sl _ _,_,_,c=>c
 | .fp _ _,_,_,c=>c
 | .one _ _,_,_,c=>c
 | .own i _,_,f,⟨b,e,e'⟩=>⟨b,by rw[jy (by have:=lK f;omega)];exact e,e'⟩
 | .row i,_,f,⟨v,e,e'⟩=>⟨v,by rw[jy (by have:=lK f;omega)];exact e,e'⟩
 | .sub i _,_,f,⟨v,us,e,e'⟩=>⟨v,us,by rw[jy (by have:=lK f;omega)];exact e,e'⟩
 | .jX i _ _ _ _,_,f,⟨v,us,g,e,e'⟩=>⟨v,us,g,by rw[jy (by have:=lK f;omega)];exact e,e'⟩
 | .jh i _ _ _,_,f,⟨v,g,e,e'⟩=>⟨v,g,by rw[jy (by have:=lK f;omega)];exact e,e'⟩
 | .abs _,_,_,c=>c
 | .junk,_,_,_=>trivial
theorem bV.below{h:FH}{β:List RV}{n:Nat}:∀{x:SV}{y:Value},wU n x=true->bV h β x y->bV h (β.take n) x y
 | .c _,_,f,c=>⟨c.1.below f,c.2⟩
 | .agg _,_,f,⟨ys,e,a⟩=>⟨ys,e,a.allL (λ_ _ f ⟨p,q⟩=>⟨p.below f,q⟩) f⟩
 | .dat _ _,_,_,c=>c
 | .und,_,_,c=>c
theorem Holds.below{h:FH}{β:List RV}{w:World}{n:Nat}:∀{r:aC}{v:RV},jU n r=true->Holds h β w r v->Holds h (β.take n) w r v
 | .blk _ _,.blk _,f,⟨ys,e,a⟩=>⟨ys,e,a.allL (λ_ _ f ⟨p,q⟩=>⟨p.below f,q⟩) f⟩
 | .row _ _ _,.row _,_,c=>c
 | .obj _ _ _,.blk _,_,c=>c
 | .deep _ _ _ _ _ _ _ _,.deep _ _,_,c=>c
 | .mp _ _ _,.row _,_,c=>c
 | .Jd _ _ _ _,.deep _ _,_,c=>c
 | .it _ _ _ _,.blk _,_,c=>c
 | .GL _ _ _ _,.row _,_,c=>c
 | .Dk _ _ _ _,.deep _ _,_,c=>c
 | .gone,_,_,_=>trivial
theorem dG.jV:∀{x:SC}{y:Value},jI x=true->dG h β x y->∀β',dG h β' x y
 | .v _,_,_,c=>λ_=>c
 | .sl _ _,_,_,c=>λ_=>c
 | .fp _ _,_,_,c=>λ_=>c
 | .abs _,_,_,c=>λ_=>c
 | .junk,_,_,_=>λ_=>trivial
 | .one _ _,_,_,c=>λ_=>c
 | .own _ _,_,f,_=>by simp[jI]at f
 | .row _,_,f,_=>by simp[jI]at f
 | .jh _ _ _ _,_,f,_=>by simp[jI]at f
 | .sub _ _,_,f,_=>by simp[jI]at f
 | .jX _ _ _ _ _,_,f,_=>by simp[jI]at f
theorem bV.jV{h:FH}{β:List RV} (β':List RV):∀{x:SV}{y:Value},yu x=true->bV h β x y->bV h β' x y
 | .c _,_,f,c=>⟨c.1.jV f β',c.2⟩
 | .agg _,_,f,⟨ys,e,a⟩=>⟨ys,e,a.allL (λ_ _ f ⟨p,q⟩=>⟨p.jV f β',q⟩) f⟩
 | .dat _ _,_,_,c=>c
 | .und,_,_,c=>c
theorem iO.jV{h:FH}{β:List RV} (β':List RV):∀{x:aW}{y:Value},pX x=true->iO h β x y->iO h β' x y
 | .one _,_,f,c=>bV.jV β' f c
 | .iQ _,_,f,⟨ys,e,a⟩=>⟨ys,e,a.allL (R':=bV h β') (λ_ _ f c=>bV.jV β' f c) f⟩
theorem OK.take{B:Base}{h0:FH}{T:List aC}{h:FH}{β:List RV}{w:World} (ok:OK B h0 T h β w){n:Nat} (hn:n<=T.length) (below:∀r∈T.take n,jU n r=true):OK B h0 (T.take n) h (β.take n) w where
 below:=ok.below
 dr:=ok.dr
 len:=by simp[ok.len]
 holds:=by
  intro i r v e e';have hi:i < n:=by have:=(eU.1 e).1;simp at this;omega
  have hm:=below r (kT e);rw[jy hi]at e e';exact(ok.holds i r v e e').below hm
 own:=by
  intro i r v b e l e' hb;have hi:i < n:=by have:=(eU.1 e).1;simp at this;omega
  rw[jy hi]at e e';exact ok.own i r v b e l e' hb
 inj:=by
  intro i j r r' u v b e l e' l' f f' hb hb';have hi:i < n:=by have:=(eU.1 e).1;simp at this;omega
  have hj:j < n:=by have:=(eU.1 e').1;simp at this;omega
  rw[jy hi]at e f;rw[jy hj]at e' f';exact ok.inj i j r r' u v b e l e' l' f f' hb hb'
 hle:=ok.hle
 hw:=ok.hw
 hg:=ok.hg
 kn:=ok.kn
theorem wV{α:Type}{p:α->Bool}:∀{l:List α},allL p l=true->∀x∈l,p x=true
 | [],_,x,hx=>by simp at hx
 | y :: l,h,x,hx=>by
   simp only[allL,ay,A8]at h;rcases jM.1 hx with rfl | hx
   .exact h.1
   .exact wV h.2 x hx
theorem lI{gl:List Bool}:∀{T:List (Gd×aC)}{n:Nat},(∀p∈T.take n,p.1=[])->eff [] (T.take n)=(eff gl T).take n
 | [],n,_=>by simp[eff]
 | (g,r) :: l,0,_=>by simp[eff]
 | (g,r) :: l,n+1,h=>by
   have hg:g=[]:=h (g,r) (by simp)
   subst hg;simp only[aaS,eff];rw[lI (gl:=gl) (T:=l) λp hp=>h p (by simp[hp])]
theorem wW:∀(rs:List (Nat×aC)) (T:List (Gd×aC)),(jq rs T).length=T.length
 | [],_=>rfl
 | (i,r) :: l,T=>by simp only[jq];rw[wW,dM,Eo]
theorem wX{s':St} (ah:Sat N B h0 s' h β w a){ws:List Nat}{sl:List (Nat×SV)}{rs:List (Nat×aC)}
 (hT:og (aJ s.T) s'.T=jq rs s.T) (gT:uG (aJ s.T) (jq rs s.T)=true) (gS:DN (aJ s.T) ws sl=true) (hE:Df s' sl)
 (hR:∀p∈keepR (aJ s.T) ws [] s.env,fH s'.env p.1=some ([],.one p.2))
 (D:∀t e,fH (nJ ws [] s.env) t=some ([],e)->∃z,a.tmps[t]?=some z/\iO h [] e z):
 Sat N B h0 (nS ws s sl rs) h (β.take (aJ s.T)) w a:=by
 have e1:=hT;rw[jc]at e1;have g1:∀p∈jq rs s.T,p.1=[]/\jU (aJ s.T) p.2=true:=by
  intro p hp;have:=wV gT p hp;rw[ay,A8]at this;refine⟨?_,this.2⟩;have h2:=this.1;cases hh:p.1 with
  | nil=>rfl
  | cons _ _=>rw[hh]at h2;simp[isNil]at h2
 have hlen:aJ s.T<=s'.T.length:=by
  have:=qy List.length e1;rw[wW,mY,aV]at this;rw[aV];omega
 have look:∀{v:SV}{t:Nat},wU (aJ s.T) v=true->fH s'.env t=some ([],.one v)->∃z,a.tmps[t]?=some z/\bV h (β.take (aJ s.T)) v z:=by
  intro v t hb hl;obtain⟨z,q1,q2,_⟩:=ah.env t [] _ hl;exact⟨z,q1,bV.below hb (q2 rfl)⟩
 have afG:∀{v:SV}{t:Nat},wU (aJ s.T) v=true->(∃u,fH s'.env t=some ([],.one u)/\TY u=v)->∃z,a.tmps[t]?=some z/\bV h (β.take (aJ s.T)) v z:=by
  rintro v t hb ⟨u,hl,hu⟩;obtain⟨z,q1,q2,_⟩:=ah.env t [] _ hl;exact⟨z,q1,XI hu (.inr (q2 rfl)) λe c=>bV.below hb (e▸c)⟩
 refine⟨?_,?_,?_,ah.defers,ah.sz,?_,?_⟩
 .show OK B h0 (eff [] (jq rs s.T)) h (β.take (aJ s.T)) w;rw[<-e1,lI (gl:=s'.gl) λp hp=>by rw[e1]at hp;exact(g1 p hp).1]
  refine ah.ok.take (by rw[fO];exact hlen) ?_
  rw[<-lI (gl:=s'.gl) λp hp=>by rw[e1]at hp;exact(g1 p hp).1]
  rw[e1];have:∀{l:List (Gd×aC)},(∀p∈l,p.1=[]/\jU (aJ s.T) p.2=true)->∀r∈eff [] l,jU (aJ s.T) r=true:=by
   intro l
   induction l with
   | nil=>intro _ r hr;simp[eff]at hr
   | cons q l ih=>
     obtain⟨g,r0⟩:=q;intro hh r hr;have hg:=hh (g,r0) (by simp)
     have hg1:g=[]:=hg.1;subst hg1;simp only[eff]at hr;rcases jM.1 hr with rfl | hr
     .exact hg.2
     .exact ih (λp hp=>hh p (by simp[hp])) r hr
  exact this g1
 .intro t G e ht;simp only[nS]at ht ⊢;rw[nK]at ht;split at ht
  .rename_i x hx;cases ht;obtain⟨v,rfl,rfl,hm⟩:=lS hx;have hb:=wV gS _ hm;rw[ay,A8]at hb;obtain⟨z,q1,q2⟩:=afG hb.1 (Iz hE _ hm);exact⟨z,q1,λ_=>q2,λhh=>by cases hh⟩
  .rw[nK]at ht;split at ht
   .rename_i x hx;cases ht;obtain⟨v,rfl,rfl,hm⟩:=lS hx;obtain⟨z,q1,q2⟩:=look (nM _ hm) (hR _ hm);exact⟨z,q1,λ_=>q2,λhh=>by cases hh⟩
   .obtain⟨_,_,_,rfl,hf⟩:=jJ ht;obtain⟨z,q1,q2⟩:=D t e ht;exact⟨z,q1,λ_=>iO.jV _ hf q2,λhh=>by cases hh⟩
 .intro d i hi;cases hi
 .intro t G e ht;simp only[nS]at ht;rw[nK]at ht;split at ht
  .rename_i x hx;cases ht;obtain⟨_,_,rfl,_⟩:=lS hx;rfl
  .rw[nK]at ht;split at ht
   .rename_i x hx;cases ht;obtain⟨_,_,rfl,_⟩:=lS hx;rfl
   .obtain⟨_,_,_,rfl,_⟩:=jJ ht;rfl
 .intro p hp;rw[(g1 p hp).1]
def Base.leB(B B':Base):Prop:=B'.toWorld=B.toWorld/\B'.al=B.al/\∀k o,B.nc k o->B'.nc k o
theorem Base.leB.refl(B:Base):B.leB B:=⟨rfl,rfl,λ_ _ h=>h⟩
theorem Base.leB.trans{A B C:Base} (x:A.leB B) (y:B.leB C):A.leB C:=⟨y.1.trans x.1,y.2.1.trans x.2.1,λk o h=>y.2.2 k o (x.2.2 k o h)⟩
def Base.Ud(r:Bool) (B B':Base):Prop:=B.leB B'/\(r=true->B'=B)
theorem Base.Ud.refl{r:Bool} (B:Base):Base.Ud r B B:=⟨.refl B,λ_=>rfl⟩
theorem Base.Ud.trans{r:Bool}{A B C:Base} (x:Base.Ud r A B) (y:Base.Ud r B C):Base.Ud r A C:=⟨x.1.trans y.1,λh=>(y.2 h).trans (x.2 h)⟩
theorem OK.Ky{B':Base} (ok:OK B h0 T h β w) (e:B'.toWorld=B.toWorld) (ea:B'.al=B.al) (kn:∀k o,B'.nc k o->w.heap[k]?=some o):OK B' h0 T h β w where
 below:=⟨by rw[e];exact ok.below.os,by rw[e];exact ok.below.tape,by rw[e];exact ok.below.output,by rw[e];exact ok.below.size,by rw[e,ea];exact ok.below.block⟩
 dr:=by rw[e];exact ok.dr
 len:=ok.len
 holds:=ok.holds
 own:=by rw[ea];exact ok.own
 inj:=ok.inj
 hle:=ok.hle
 hw:=ok.hw
 hg:=by rw[ea];exact ok.hg
 kn:=kn
def ownB(T:List aC) (β:List RV) (b:Nat):Prop:=∃(i:Nat) (r:aC) (v:RV),T[i]?=some r/\r.live=true/\β[i]?=some v/\v.has b
abbrev Base.rd(B:Base) (T:List aC) (β:List RV) (A:World):Base:=
 { A with nc:=B.nc,cell:=B.cell,al:=λk=>ownB T β k\/A.heap.size<=k,up:=λ_ h=>.inr h }
theorem OK.enter(ok:OK B h0 T h β A):OK (B.rd T β A) h T h β A where
 below:=⟨rfl,rfl,rfl,mZ _,λ_ _ _=>rfl⟩
 dr:=mZ _
 len:=ok.len
 holds:=ok.holds
 own:=λi r v b e hl e' hb=>⟨.inl ⟨i,r,v,e,hl,e',hb⟩,(ok.own i r v b e hl e' hb).2⟩
 inj:=ok.inj
 hle:=FH.le.refl h
 hw:=ok.hw
 hg:=λb o v hh=>.inl hh
 kn:=ok.kn
theorem OK.leave(ok:OK B h0 T h β A){T':List aC}{h':FH}{A':World}{Br:Base} (e:Br.toWorld=A) (ea:Br.al=(B.rd T β A).al) (en:∀k o,B.nc k o->Br.nc k o) (ok':OK Br h T' h' β' A'):OK B h0 T' h' β' A':=by
 have toB:∀k,Br.al k->B.al k:=by
  intro k hk;rw[ea]at hk;rcases hk with⟨i,r,v,h1,h2,h3,h4⟩ | hk
  .exact(ok.own i r v k h1 h2 h3 h4).1
  .exact B.up k (o9 ok.below.size hk)
 subst e;have cell:∀k,ownB T β k->∃o,Br.heap[k]?=some o/\ours o=true:=by
  rintro k ⟨i,r,v,h1,h2,h3,h4⟩;exact(ok.holds i r v h1 h3).cells h2 h4
 refine⟨⟨ok'.below.os.trans ok.below.os,ok'.below.tape.trans ok.below.tape,ok'.below.output.trans ok.below.output,o9 ok.below.size ok'.below.size,λk hk ha=>?_⟩,o9 ok.dr ok'.dr,ok'.len,ok'.holds,
  λi r v b e1 l1 e2 hb=>⟨toB b (ok'.own i r v b e1 l1 e2 hb).1,(ok'.own i r v b e1 l1 e2 hb).2⟩,ok'.inj,ok.hle.trans ok'.hle,ok'.hw,λb o v hh=>?_,λk o hk=>ok'.kn k o (en k o hk)⟩
 .exact(ok'.below.block k (Gz hk ok.below.size) (λhh=>ha (toB k hh))).trans (ok.below.block k hk ha)
 .rcases ok'.hg b o v hh with h1 | h1
  .exact ok.hg b o v h1
  .exact .inr (toB b h1)
theorem OK.gs{B:Base}{h0:FH}{T:List aC}{h:FH}{β:List RV}{A A':World} (ok:OK B h0 T h β A){G:Nat->Prop} (gs:Gs G A A') (hB:∀k,G k->B.heap.size<=k) (hO:∀k,ownB T β k->¬G k) (hF:∀k o v,h k o=some v->¬G k) (hN:∀k o,B.nc k o->¬G k):OK B h0 T h β A':=by
 have cl:∀b o v,h b o=some v->vis A' b o=some v:=by
  intro b o v hh;have h1:=ok.hw b o v hh;exact(jf (gs.block b (kX h1) (hF b o v hh))).trans h1
 exact {
  below:=⟨gs.os.trans ok.below.os,gs.tape.trans ok.below.tape,gs.output.trans ok.below.output,o9 ok.below.size gs.size,λk hk ha=>(gs.block k (Gz hk ok.below.size) (λhg=>by have:=hB k hg;omega)).trans (ok.below.block k hk ha)⟩
  dr:=o9 ok.dr gs.dr
  len:=ok.len
  holds:=λi r v e e'=>(ok.holds i r v e e').move (FH.le.refl h) (Ext.refl _) λhl b hb=>gs.block b (ok.own i r v b e hl e' hb).2.1 (hO b ⟨i,r,v,e,hl,e',hb⟩)
  own:=λi r v b e hl e' hb=>by
   obtain⟨h1,h2,h3⟩:=ok.own i r v b e hl e' hb;exact⟨h1,Gz h2 gs.size,h3⟩
  inj:=ok.inj
  hle:=ok.hle
  hw:=cl
  hg:=ok.hg
  kn:=λk o hk=>by
   have h1:=ok.kn k o hk;exact(gs.block k (zh.1 h1).1 (hN k o hk)).trans h1 }
theorem OK.turn(ok:OK B h0 T h β w){l:Nat}{o o':Obj} (hB:B.al l) (hn:∀k u,B.nc k u->k≠l) (hl:w.heap[l]?=some o) (ho:ours o=false):OK B h0 T h β (w.putObj l o'):=by
 have cl:∀{b i:Nat}{v:Value},vis w b i=some v->vis (w.putObj l o') b i=some v:=by
  intro b i v hv;have hne:b≠l:=by
   intro e;unfold vis at hv;rw[e,hl]at hv;cases o<;>simp_all[ours]
  exact(jf (World.putObj_heap_other hne)).trans hv
 exact {
  below:=ok.below.grown (row:=some l) ⟨rfl,rfl,rfl,by simp,λk _ hk=>World.putObj_heap_other (λe=>hk (by rw[e]))⟩ (λk e=>by cases e;exact hB)
  dr:=ok.dr
  len:=ok.len
  holds:=λi r v e e'=>(ok.holds i r v e e').move (FH.le.refl h) (Ext.refl _) λhlv b hb=>World.putObj_heap_other (by
   rintro rfl;obtain⟨o1,h1,h2⟩:=(ok.holds i r v e e').cells hlv hb;rw[hl]at h1;cases h1;rw[ho]at h2;cases h2)
  own:=λi r v b e hlv e' hb=>by
   obtain⟨h1,h2,h3⟩:=ok.own i r v b e hlv e' hb;exact⟨h1,by simpa using h2,h3⟩
  inj:=ok.inj
  hle:=ok.hle
  hw:=λb o v hh=>cl (ok.hw b o v hh)
  hg:=ok.hg
  kn:=λk u hk=>(World.putObj_heap_other (hn k u hk)).trans (ok.kn k u hk) }
theorem wY{n:Nat}{ws:List Nat}:∀{l:List (Nat×Gd×aW)}{seen:List Nat},∀p∈keepR n ws seen l,fD p.1 ws=false
 | [],_,p,hp=>by simp[keepR]at hp
 | (k,g,e) :: l,seen,p,hp=>by
   unfold keepR at hp
   repeat' (split at hp)
   all_goals first
    | exact wY p hp
    | (
     rcases jM.1 hp with rfl | hp
     .assumption
     .exact wY p hp)
theorem sG{T:List (Gd×aC)} (h:uG n T=true):∀p∈T,p.1=[]/\jU n p.2=true:=by
 intro p hp;have:=wV h p hp;rw[ay,A8]at this;refine⟨?_,this.2⟩;have h2:=this.1;cases hh:p.1 with
 | nil=>rfl
 | cons _ _=>rw[hh]at h2;simp[isNil]at h2
theorem ND{gl:List Bool}:∀{T:List (Gd×aC)},(∀p∈T,p.1=[])->eff [] T=eff gl T
 | [],_=>rfl
 | (g,r) :: l,h=>by
   have hg:g=[]:=h (g,r) (by simp)
   subst hg;simp only[eff];rw[ND (gl:=gl) (T:=l) λp hp=>h p (by simp[hp])]
theorem FM(ah:Sat N B h0 s h β w a){ws dr:List Nat}{h':FH} (le:h.le h')
 (refs:∀p∈keepR (aJ s.T) ws [] s.env,∃z,a.tmps[p.1]?=some z/\bV h' β' p.2 z):∀t G e,fH (XG ws dr s) t=some (G,e)->G=[]/\(fD t ws=false\/fD t dr=false)/\∃z,a.tmps[t]?=some z/\iO h' β' e z:=by
 intro t G e ht;simp only[XG]at ht;rw[nK]at ht;split at ht
 .rename_i x hx;cases ht;obtain⟨v,rfl,rfl,hm⟩:=lS hx;obtain⟨z,q1,q2⟩:=refs _ hm;exact⟨rfl,.inl (wY _ hm),z,q1,q2⟩
 .obtain⟨_,hd,hl,rfl,hf⟩:=jJ ht;obtain⟨z,q1,q2,_⟩:=ah.env t [] e hl;exact⟨rfl,.inr hd,z,q1,(iO.jV β' hf (q2 rfl)).mono le (Ext.refl _)⟩
theorem Ue{B':Base} (ah:Sat N B h0 s h β w a){ws dr:List Nat}{h':FH}{a':Act} (le:h.le h')
 (refs:∀p∈keepR (aJ s.T) ws [] s.env,∃z,a.tmps[p.1]?=some z/\bV h' β' p.2 z){T:List (Gd×aC)}{gl:List Bool} (ok:OK B' h0 (eff gl T) h' β' A) (gT:∀p∈T,qX gl.length p.1=true) (ht:a'.tmps=a.tmps) (df:Jq B' a'):
 Sat N B' h0 { env:=XG ws dr s,T:=T,gl:=gl,gs:=[] } h' β' A a' where
 ok:=ok
 env:=λt G e h1=>by
  obtain⟨rfl,_,z,q1,q2⟩:=FM ah le refs t G e h1;exact⟨z,by rw[ht];exact q1,λ_=>q2,λhh=>by cases hh⟩
 gs:=λd i hi=>by cases hi
 defers:=df
 sz:=by rw[ht];exact ah.sz
 gb:=λt G e h1=>by
  obtain⟨rfl,_⟩:=FM ah le refs t G e h1;rfl
 gT:=gT
theorem fold_size:∀(l:List (Nat×Value)) (t:Array Value),(l.foldl (λt (p:Nat×Value)=>t.setIfInBounds p.1 p.2) t).size=t.size
 | [],_=>rfl
 | _ :: l,t=>by simp only[Jj];rw[fold_size l];simp
theorem vH{k:Nat}:∀(l:List (Nat×Value)) (t:Array Value),(∀p∈l,p.1≠k)->(l.foldl (λt (p:Nat×Value)=>t.setIfInBounds p.1 p.2) t)[k]?=t[k]?
 | [],_,_=>rfl
 | (p,v) :: l,t,h=>by
   simp only[Jj];rw[vH l _ λq hq=>h q (by simp[hq])]
   exact ZR (h (p,v) (by simp))
theorem BA(ps:Array Tmp) (vs:List Value) (t:Array Value):(ps.zip vs.toArray).foldl (λt (p,v)=>t.setIfInBounds p v) t=((tl ps).zip vs).foldl (λt (p:Nat×Value)=>t.setIfInBounds p.1 p.2) t:=by
 cases ps with
 | mk l=>simp
theorem Uf{h:FH}{n:Nat}:∀{ps:List Nat}{ss:List Sh}{d:bW ss}{vs:List Value}{t:Array Value},t.size=n->uH n ps ss=true->yF h ss d vs ->
 (∀k G e,fH (Iy ps ss d) k=some (G,e)->G=[]/\∃z,((ps.zip vs).foldl (λt (p:Nat×Value)=>t.setIfInBounds p.1 p.2) t)[k]?=some z/\∀β,iO h β e z) /\
 (∀k,fH (Iy ps ss d) k=none->fD k ps=false)
 | [],[],d,vs,t,_,_,_=>⟨λk G e hh=>by simp[Iy,fH]at hh,λk _=>rfl⟩
 | [],_ :: _,d,vs,t,_,hp,_=>by simp[uH]at hp
 | _ :: _,[],d,vs,t,_,hp,_=>by simp[uH]at hp
 | p :: ps,s :: ss,d,vs,t,hn,hp,hv=>by
   cases vs with
   | nil=>exact hv.elim
   | cons v vs=>
     simp only[uH,ay,A8]at hp;obtain⟨⟨hp1,hp2⟩,hp3⟩:=hp;have hp2:fD p ps=false:=by simpa using hp2
     have hp1:=lK hp1;obtain⟨i1,i2⟩:=Uf (t:=t.setIfInBounds p v) (by simp[hn]) hp3 hv.2
     have hnot:∀q∈ps.zip vs,q.1≠p:=by
      intro q hq e;have hm:q.1∈ps:=(List.of_mem_zip hq).1;rw[e]at hm;have:∀{l:List Nat},p∈l->fD p l=true:=by
       intro l
       induction l with
       | nil=>intro h;cases h
       | cons x l ih=>
         intro h;rw[iM];rcases jM.1 h with rfl | h
         .simp
         .rw[ih h];simp
      rw[this hm]at hp2;cases hp2
     refine⟨λk G e hh=>?_,λk hh=>?_⟩
     .simp only[Iy]at hh;rw[aX]at hh;split at hh
      .rename_i hk;subst hk;cases hh;refine⟨rfl,v,?_,λβ=>?_⟩
       .simp only[List.zip_cons_cons,Jj];rw[vH _ _ hnot];rw[Array.getElem?_setIfInBounds_self_of_lt (by omega)]
       .obtain⟨cs,rfl,r⟩:=hv.1;exact iH s r
      .simpa only[List.zip_cons_cons,Jj]using i1 k G e hh
     .simp only[Iy]at hh;rw[aX]at hh;split at hh
      .cases hh
      .rename_i hk;rw[iM,i2 k hh,Bool.or_false];cases hb:Nat.beq k p with
       | false=>rfl
       | true=>exact absurd (gI hb).symm hk
def Apt(n:Nat) (T:List aC) (h:FH) (β:List RV) (G:Nat->Prop):Prop:=(∀b,G b->n<=b)/\(∀b,ownB T β b->¬G b)/\∀b o v,h b o=some v->¬G b
theorem DU{G:Nat->Prop} (ok':OK B h0 T h β A) (ap:Apt n T h β G) (apb:∀b,G b->b < A.heap.size)
 {B2:Base}{s2:St}{h2:FH}{β2:List RV}{A2:World}{a2:Act} (xI:(B.rd T β A).leB B2) (aY:Sat N B2 h s2 h2 β2 A2 a2):
 OK B h0 (eff s2.gl s2.T) h2 β2 A2/\Apt n (eff s2.gl s2.T) h2 β2 G/\A.heap.size<=A2.heap.size/\(∀k,k < A.heap.size->¬ownB T β k->A2.heap[k]?=A.heap[k]?) /\
  (∀k o,A.heap[k]?=some o->ours o=false->¬ownB T β k):=by
 have same:∀k,k < A.heap.size->¬ownB T β k->A2.heap[k]?=A.heap[k]?:=by
  intro k hk hn;have h1:=aY.ok.below;have h2:=xI.1;have h3:B2.al k↔(ownB T β k\/A.heap.size<=k):=by rw[xI.2.1]
  have h4:=h1.block k (by rw[h2];exact hk) (λhh=>by rcases h3.1 hh with hh | hh<;>first | exact hn hh | omega)
  rw[h2]at h4;exact h4
 refine⟨ok'.leave xI.1 xI.2.1 xI.2.2 aY.ok,⟨ap.1,?_,?_⟩,?_,same,?_⟩
 .rintro b ⟨i,r,v,e1,e2,e3,e4⟩ hb;have hh:=(aY.ok.own i r v b e1 e2 e3 e4).1;rw[xI.2.1]at hh;rcases hh with hh | hh
  .exact ap.2.1 b hh hb
  .have:=apb b hb;omega
 .intro b o v hh hb;rcases aY.ok.hg b o v hh with h1 | h1
  .exact ap.2.2 b o v h1 hb
  .rw[xI.2.1]at h1;rcases h1 with h1 | h1
   .exact ap.2.1 b h1 hb
   .have:=apb b hb;omega
 .have:=aY.ok.below.size;rw[xI.1]at this;exact this
 .rintro k o hk ho ⟨i,r,v,e1,e2,e3,e4⟩;obtain⟨o',q1,q2⟩:=(ok'.holds i r v e1 e3).cells e2 e4;rw[hk]at q1;cases q1;rw[ho]at q2;cases q2
theorem Ug{CB c:Code} (rec:∀(c':Code),c'=CB\/c'=c->∀(h0:FH) (E:Env) (B:Base) (s:St) (h:FH) (β:List RV) (w:World) (a:Act) (K:Exit->St->Prop) (Q:Exit->Act->World->Prop) (l:Nat),eH P E->aG E.cx.gd h0->E.rd=true->Sat E.n B h0 s h β w a ->
 iJ E c' s K->(∀e s' h' β' w' a' B',Base.Ud E.rd B B'->K e s'->h.le h'->Sat E.n B' h0 s' h' β' w' a'->Same (writes c') a a'->Q e a' w')->c'.wpIn (Fence.wide.inRound l) 0 P Q a w)
 (ok:eH P E) (hg:aG E.cx.gd h0){K:Exit->St->Prop} (ah:Sat E.n B h0 s h β w a)
 {g:Operand}{ss:List Sh}{L:List (bW ss)} (gv:Gives P h ss L (a.eval g)){ps:Array Tmp}{ra:RA}
 (k:Kv E.n (λs K=>iJ { E with rd:=true } CB s λe s'=>match e with
  | .normal=>iJ { E with rd:=true } c s' K
  | _=>False) (dO ra.drop (dO (tl ps) (dO (writes CB) (writes c)))) ra (tl ps) ss L s K)
 (hrd:E.rd=false) (next:∀e s' h' β' w' a' B',Base.Ud E.rd B B'->K e s'->h.le h'->Sat E.n B' h0 s' h' β' w' a'->Same [] a a'->Q e a' w'):(Code.rangeFunc g ps CB c).wpIn Fence.wide n P Q a w:=by
 unfold Kv at k;split at k
 .cases k
 rename_i hpar;obtain⟨⟨x0,i0,t0⟩,kr,kd⟩:=k;obtain⟨ws,hws⟩:∃ws,ws=dO ra.drop (dO (tl ps) (dO (writes CB) (writes c))):=⟨_,rfl⟩;rw[<-hws]at kr kd;have good:∀i x,i<=L.length->ra.inv i x->uG (aJ s.T) (jq (ra.res x) s.T)=true:=by
  intro i x hi hx;cases hd:L[i]? with
  | some d=>
    have:=kr i x d hx hd;split at this
    .cases this
    .rename_i hh;exact hh
  | none=>
    have he:i=aJ L:=by rw[aV];have:=List.getElem?_eq_none_iff.1 hd;omega
    subst he;have:=kd x hx;split at this
    .cases this
    .rename_i hh;exact hh
 have ah6:∀x,aJ s.T=(jq (ra.res x) s.T).length:=λx=>by rw[wW,aV]
 have hpl:ps.size=ss.length:=by
  have:∀{l:List Nat}{ss:List Sh},uH E.n l ss=true->l.length=ss.length:=by
   intro l
   induction l with
   | nil=>intro ss h;cases ss with | nil=>rfl | cons _ _=>simp[uH]at h
   | cons x l ih=>
     intro ss h;cases ss with
     | nil=>simp[uH]at h
     | cons s ss=>
       simp only[uH,ay,A8]at h;simp[ih h.2]
  have h1:=this hpar;cases ps;simpa using h1
 have psw:∀t,fD t ws=false->fD t (tl ps)=false/\fD t (writes CB)=false/\fD t (writes c)=false:=by
  intro t ht;rw[hws,jT,jT,jT,pz,pz,pz]at ht;exact⟨ht.2.1,ht.2.2.1,ht.2.2.2⟩
 have NG:∀(vs:List Value) t,fD t (tl ps)=false->((ps.zip vs.toArray).foldl (λt (p,v)=>t.setIfInBounds p v) a.tmps)[t]?=a.tmps[t]?:=by
  intro vs t ht;rw[BA];refine vH _ _ λq hq e=>?_
  have hm:q.1∈tl ps:=(List.of_mem_zip hq).1;rw[e]at hm;have:∀{l:List Nat},t∈l->fD t l=true:=by
   intro l
   induction l with
   | nil=>intro h;cases h
   | cons x l ih=>
     intro h;rw[iM];rcases jM.1 h with rfl | h
     .simp
     .rw[ih h];simp
  rw[this hm]at ht;cases ht
 have afH:∀p∈keepR (aJ s.T) ws [] s.env,∃z,a.tmps[p.1]?=some z/\bV h β p.2 z:=by
  intro p hp;obtain⟨z,q1,q2,_⟩:=ah.env _ _ _ (oW p hp).2;exact⟨z,q1,q2 rfl⟩
 have Uh:∀kk o,B.nc kk o->kk < w.heap.size:=λkk o hk=>(zh.1 (ah.ok.kn kk o hk)).1
 have hBs:B.heap.size<=w.heap.size:=ah.ok.below.size
 -- the iterator's blocks are no one else's
 let Ap:List aC->FH->List RV->(Nat->Prop)->Prop:=λT h' β' G=>Apt w.heap.size T h' β' G
 have apG:∀{T:List aC}{h':FH}{β':List RV}{G G':Nat->Prop}{A A':World},OK B h0 T h' β' A->w.heap.size<=A.heap.size->Ap T h' β' G->Own' G G' A A'->Ap T h' β' G':=by
  intro T h' β' G G' A A' ok' hsz ⟨a1,a2,a3⟩ ho;refine⟨λb hb=>?_,λb hb hg=>?_,λb o v hb hg=>?_⟩
  .rcases(ho b hb).2 with h1 | h1
   .exact a1 b h1
   .omega
  .rcases(ho b hg).2 with h1 | h1
   .exact a2 b hb h1
   .obtain⟨i,r,v,e1,e2,e3,e4⟩:=hb;have:=(ok'.own i r v b e1 e2 e3 e4).2.1;omega
  .rcases(ho b hg).2 with h1 | h1
   .exact a3 b o v hb h1
   .have:=kX (ok'.hw b o v hb);omega
 have gsO:∀{T:List aC}{h':FH}{β':List RV}{G:Nat->Prop}{A A':World},OK B h0 T h' β' A->Ap T h' β' G->Gs G A A'->OK B h0 T h' β' A':=λok' ⟨a1,a2,a3⟩ gs=>
  ok'.gs gs (λk hk=>o9 hBs (a1 k hk)) a2 a3 (λk o hk hg=>by have:=Uh k o hk;have:=a1 k hg;omega)
 -- what holds between the rounds;what holds where a round has left
 let I:Nat->(Nat->Prop)->World->Prop:=λi G A=>i<=L.length/\(w.heap.size<=A.heap.size/\∀b,G b->b < A.heap.size)/\∃x h' β',Ap (eff [] (jq (ra.res x) s.T)) h' β' G/\ra.inv i x/\h.le h'/\OK B h0 (eff [] (jq (ra.res x) s.T)) h' β' A/\∀p∈keepR (aJ s.T) ws [] s.env,∃z,a.tmps[p.1]?=some z/\bV h' β' p.2 z
 let Ix:Code->(Nat->Prop)->World->Prop:=λcc G A=>w.heap.size<=A.heap.size/\∃e T gl h' β',Ap (eff gl T) h' β' G/\((cc=.ret/\e=Exit.ret)\/∃j,cc=.exit j/\e=Exit.exit j)/\K e { env:=XG ws ra.drop s,T:=T,gl:=gl,gs:=[] }/\h.le h'/\OK B h0 (eff gl T) h' β' A /\
  (∀p∈T,qX gl.length p.1=true)/\∀p∈keepR (aJ s.T) ws [] s.env,∃z,a.tmps[p.1]?=some z/\bV h' β' p.2 z
 have dfr:∀A,A.heap[w.heap.size]?=some (.deferred (some []))->∃B':Base,B.leB B'/\Jq B' { a with defers:=vG w.heap.size :: a.defers }/\(∀{T h' β'},OK B h0 T h' β' A->OK B' h0 T h' β' A):=by
  intro A hA;refine⟨{ B with nc:=λk o=>B.nc k o\/(k=w.heap.size/\o=.deferred (some [])),cell:=λk o hh=>hh.elim (B.cell k o) λhh=>by rw[hh.2] },⟨rfl,rfl,λk o hh=>.inl hh⟩,?_,λok'=>ok'.Ky rfl rfl (λk o hh=>hh.elim (ok'.kn k o) λhh=>by rw[hh.1,hh.2];exact hA)⟩
  obtain⟨X,x1,x2,x3⟩:=ah.defers;refine⟨w.heap.size :: X,by simp[x1,vG],?_,?_⟩
  .refine V3.2 ⟨λhm=>?_,x2⟩
   have:=Uh _ _ (x3 _ hm).2;omega
  .intro D hD;rcases jM.1 hD with rfl | hD
   .exact⟨B.up _ hBs,.inr ⟨rfl,rfl⟩⟩
   .exact⟨(x3 D hD).1,.inl (x3 D hD).2⟩
 have fin:∀e cc G A,((cc=.ret/\e=Exit.ret)\/∃j,cc=.exit j/\e=Exit.exit j)->Ix cc G A->A.heap[w.heap.size]?=some (.deferred (some []))->Q e { a with defers:=vG w.heap.size :: a.defers } A:=by
  rintro e cc G A he ⟨_,e',T,gl,h',β',_,he',kk,le,ok',gT,refs⟩ hA;have hee:e'=e:=by
   rcases he with⟨rfl,rfl⟩ | ⟨j,rfl,rfl⟩<;>rcases he' with⟨h1,h2⟩ | ⟨j',h1,h2⟩<;>first | (cases h1;exact h2) | cases h1
  subst hee;obtain⟨B',lb,df,up⟩:=dfr A hA;exact next _ _ h' β' A _ B' ⟨lb,λhh=>(by rw[hrd]at hh;cases hh)⟩ kk le (Ue ah le refs (up ok') gT rfl df) λ_ _=>rfl
 refine Qn gv hpl I Ix ?_ ?_ ?_ ?_ ?_ ?_ ?_ ?_ ?_ (λG A hA=>fin .ret .ret G A (.inl ⟨rfl,rfl⟩) hA) (λj G A hA=>fin (.exit j) (.exit j) G A (.inr ⟨j,rfl,rfl⟩) hA)
 .rintro i G A ⟨_,_,x,h',β',_,_,le,ok',_⟩;exact HW.mono le ok'.hw
 .rintro cc G A ⟨_,e,T,gl,h',β',_,he,kk,le,ok',_⟩;exact HW.mono le ok'.hw
 .rintro i G G' A A' ⟨hi,hsz,x,h',β',ap,i1,le,ok',refs⟩ gs ho;exact⟨hi,⟨o9 hsz.1 gs.size,λb hb=>(ho b hb).1⟩,x,h',β',apG ok' hsz.1 ap ho,i1,le,gsO ok' ap gs,refs⟩
 .rintro cc G G' A A' ⟨hsz,e,T,gl,h',β',ap,he,kk,le,ok',gT,refs⟩ gs ho;exact⟨o9 hsz gs.size,e,T,gl,h',β',apG ok' hsz ap ho,he,kk,le,gsO ok' ap gs,gT,refs⟩
 .rintro i G A l o o' ⟨hi,hsz,x,h',β',ap,i1,le,ok',refs⟩ hl hA ho;exact⟨hi,⟨by simpa using hsz.1,by simpa using hsz.2⟩,x,h',β',ap,i1,le,ok'.turn (B.up _ (o9 hBs hl)) (λkk u hk e=>by have:=Uh kk u hk;omega) hA ho,refs⟩
 .rintro cc G A l o o' ⟨hsz,e,T,gl,h',β',ap,he,kk,le,ok',gT,refs⟩ hl hA ho;exact⟨by simpa using hsz,e,T,gl,h',β',ap,he,kk,le,ok'.turn (B.up _ (o9 hBs hl)) (λkk u hk e=>by have:=Uh kk u hk;omega) hA ho,gT,refs⟩
 .refine⟨zJ _,⟨mZ _,λb hb=>hb.elim⟩,x0,h,β,⟨λb hb=>hb.elim,λb _ hb=>hb.elim,λb o v _ hb=>hb.elim⟩,i0,FH.le.refl h,?_,afH⟩
  have g0:=good 0 x0 (zJ _) i0;rw[ND (gl:=s.gl) λp hp=>(sG g0 p hp).1,<-t0]
  exact ah.ok
 .rintro i d vs G A l o1 Qo o2 hd hv ⟨hi,⟨hsz,apb⟩,x,h',β',ap,i1,le,ok',refs⟩ hl hA1 ho1 ah7 hA2 ho2 hGl;have kk:=kr i x d i1 hd;have gx:=good i x hi i1;rw[gx]at kk;simp only at kk;have blen:β'.length=aJ s.T:=by rw[ok'.len,fO,<-ah6]
  obtain⟨p1,p2⟩:=Uf (t:=a.tmps) (n:=E.n) ah.sz hpar hv;have ah8:Sat E.n (B.rd (eff [] (jq (ra.res x) s.T)) β' A) h'
   { env:=dO (Iy (tl ps) ss d) (XG ws (dO ra.drop (tl ps)) s),T:=jq (ra.res x) s.T,gl:=[],gs:=[] } h' β' A { tmps:=(ps.zip vs.toArray).foldl (λt (p,v)=>t.setIfInBounds p v) a.tmps,defers:=[] }:=by
   refine⟨ok'.enter,?_,?_,Jq.nil rfl,?_,?_,?_⟩
   .intro t G e ht;simp only at ht ⊢;rw[nK]at ht;split at ht
    .rename_i y hy;cases ht;obtain⟨rfl,z,z1,z2⟩:=p1 t G e hy;refine⟨z,by rw[BA];exact z1,λ_=>(z2 β').mono le (Ext.refl _),λhh=>by cases hh⟩
    .rename_i hy;obtain⟨rfl,hm,z,z1,z2⟩:=FM ah le refs t G e ht;have hps:fD t (tl ps)=false:=p2 t hy;exact⟨z,by rw[NG vs t hps];exact z1,λ_=>z2,λhh=>by cases hh⟩
   .intro dd ii hh;cases hh
   .rw[BA,fold_size];exact ah.sz
   .intro t G e ht;simp only at ht;rw[nK]at ht;split at ht
    .rename_i y hy;cases ht;obtain⟨rfl,_⟩:=p1 t G e hy;rfl
    .obtain⟨rfl,_⟩:=FM ah le refs t G e ht;rfl
   .intro p hp;rw[(sG gx p hp).1]
  have okE:eH P { E with rd:=true }:=⟨ok.prog,ok.hc,ok.Xv,ok.mixed,ok.ti,ok.ct,ok.ip,ok.sq,ok.sf⟩
  refine rec CB (.inl rfl) h' { E with rd:=true } _ _ h' β' A _ _ _ l okE (hg.mono ok'.hle) rfl ah8 kk ?_
  rintro e1 s1 h1 β1 A1 a1 B1 ⟨lb1,lr1⟩ k1 le1 fQ sm1;cases e1 with
  | exit j=>exact k1.elim
  | goto j=>exact k1.elim
  | ret=>exact k1.elim
  | panic c=>exact k1.elim
  | outgrown=>exact k1.elim
  | normal=>
  obtain⟨q1,q2,q3,q4,q5⟩:=DU ok' ap apb lb1 fQ;have Ui:∀b,b=l\/b=w.heap.size\/G b->A1.heap[b]?=A.heap[b]?:=by
   rintro b (rfl | rfl | hb)
   .exact q4 _ (zh.1 hA1).1 (q5 _ _ hA1 ho1)
   .exact q4 _ (zh.1 hA2).1 (q5 _ _ hA2 ho2)
   .exact q4 b (apb b hb) (λhh=>ap.2.1 b hh hb)
  refine⟨Ui,?_⟩;have hB1:A1.heap[l]?=some o1:=(Ui l (.inl rfl)).trans hA1;have hl1:l < A1.heap.size:=(zh.1 hB1).1
  -- the record is turned;all else stands
  have okt:OK B h0 (eff s1.gl s1.T) h1 β1 (A1.putObj l Qo):=q1.turn (B.up _ (o9 hBs (by omega))) (λkk u hk e=>by have:=Uh kk u hk;omega) hB1 ho1
  have afI:Sat E.n (B.rd (eff s1.gl s1.T) β1 (A1.putObj l Qo)) h1 s1 h1 β1 (A1.putObj l Qo) a1:=by
   have hd1:a1.defers=[]:=by
    obtain⟨X,x1,x2,x3⟩:=fQ.defers;cases X with
    | nil=>simpa using x1
    | cons D X=>
      exfalso;obtain⟨d1,d2⟩:=x3 D (by simp)
      rw[lr1 rfl]at d1 d2;have hk:=ok'.kn D _ d2;rcases d1 with d1 | d1
      .obtain⟨i,r,v,e1,e2,e3,e4⟩:=d1;obtain⟨o',q1,q2⟩:=(ok'.holds i r v e1 e3).cells e2 e4;rw[hk]at q1;cases q1;cases q2
      .have:=(zh.1 hk).1;omega
   exact⟨okt.enter,fQ.env,fQ.gs,Jq.nil hd1,fQ.sz,fQ.gb,fQ.gT⟩
  have hsz1:w.heap.size<=(A1.putObj l Qo).heap.size:=by simp;omega
  have abX:∀b,G b->b < (A1.putObj l Qo).heap.size:=λb hb=>by have:=apb b hb;simp;omega
  have hT2:(A1.putObj l Qo).heap[w.heap.size]?=some o2:=(World.putObj_heap_other (by omega)).trans ((Ui _ (.inr (.inl rfl))).trans hA2)
  have hT1:(A1.putObj l Qo).heap[l]?=some Qo:=World.putObj_heap_same hl1;refine rec c (.inr rfl) h1 { E with rd:=true } _ _ h1 β1 _ _ _ _ l okE (hg.mono (ok'.hle.trans le1)) rfl afI k1 ?_
  rintro e s2 h2 β2 A2 a2 B2 ⟨xI,_⟩ k2 fU aY qW;obtain⟨ok2,ap2,q8,q9,q10⟩:=DU okt q2 abX xI aY;have keep:∀b,b=l\/b=w.heap.size\/G b->A2.heap[b]?=(A1.putObj l Qo).heap[b]?:=by
   rintro b (rfl | rfl | hb)
   .exact q9 _ (zh.1 hT1).1 (q10 _ _ hT1 ah7)
   .exact q9 _ (zh.1 hT2).1 (q10 _ _ hT2 ho2)
   .exact q9 b (abX b hb) (λhh=>q2.2.1 b hh hb)
  split at k2
  .cases k2
  rename_i hR;have hsz2:w.heap.size<=A2.heap.size:=o9 hsz1 q8;have Uj:∀p∈keepR (aJ s.T) ws [] s.env,∃z,a.tmps[p.1]?=some z/\bV h2 β2 p.2 z:=by
   intro p hp;obtain⟨z,q1,q2,_⟩:=aY.env _ _ _ (oV hR p hp);obtain⟨w1,w2,w3⟩:=psw _ (wY p hp);have e1:=qW p.1 w3;have e2:=sm1 p.1 w2;simp only at e2;rw[e1,e2,NG vs _ w1]at q1;exact⟨z,q1,q2 rfl⟩
  cases e with
  | normal=>
    simp only at k2;obtain⟨x',j1,j2⟩:=k2;have hi1:i+1<=L.length:=(eU.1 hd).1;have gx':=good (i+1) x' hi1 j1;have et:eff [] (jq (ra.res x') s.T)=(eff s2.gl s2.T).take (aJ s.T):=by
     rw[jc]at j2;rw[<-j2,lI (gl:=s2.gl) λp hp=>by rw[j2]at hp;exact(sG gx' p hp).1]
    refine⟨keep,hi1,⟨hsz2,λb hb=>Gz (abX b hb) q8⟩,x',h2,β2.take (aJ s.T),?_,j1,(le.trans le1).trans fU,?_,λp hp=>?_⟩
    .refine⟨ap2.1,?_,ap2.2.2⟩;rintro b ⟨i,r,v,e1,e2,e3,e4⟩ hb;rw[et]at e1;have hi:i < aJ s.T:=by have:=(eU.1 e1).1;simp at this;omega
     rw[jy hi]at e1 e3;exact ap2.2.1 b ⟨i,r,v,e1,e2,e3,e4⟩ hb
    .rw[et];rw[jc]at j2;have hlen:aJ s.T<=s2.T.length:=by
      have:=qy List.length j2;rw[wW,mY,aV]at this;rw[aV];omega
     refine ok2.take (by rw[fO];exact hlen) ?_
     rw[<-et];have:∀{l:List (Gd×aC)},(∀p∈l,p.1=[]/\jU (aJ s.T) p.2=true)->∀r∈eff [] l,jU (aJ s.T) r=true:=by
      intro l
      induction l with
      | nil=>intro _ r hr;simp[eff]at hr
      | cons q l ih=>
        obtain⟨g,r0⟩:=q;intro hh r hr;have hg:=hh (g,r0) (by simp)
        have hg1:g=[]:=hg.1;subst hg1;simp only[eff]at hr;rcases jM.1 hr with rfl | hr
        .exact hg.2
        .exact ih (λp hp=>hh p (by simp[hp])) r hr
     exact this (sG gx')
    .obtain⟨z,q1,q2⟩:=Uj p hp;exact⟨z,q1,bV.below (nM p hp) q2⟩
  | ret=>exact⟨keep,hsz2,.ret,s2.T,s2.gl,h2,β2,ap2,.inl ⟨rfl,rfl⟩,k2,(le.trans le1).trans fU,ok2,aY.gT,Uj⟩
  | exit j=>exact⟨keep,hsz2,.exit j,s2.T,s2.gl,h2,β2,ap2,.inr ⟨j,rfl,rfl⟩,k2,(le.trans le1).trans fU,ok2,aY.gT,Uj⟩
  | goto t=>exact k2.elim
  | panic ch=>exact k2.elim
  | outgrown=>exact k2.elim
 .rintro G A ⟨_,_,x,h',β',_,i1,le,ok',refs⟩ hA;have kk:=kd x (by rw[aV];exact i1)
  have gx:=good _ x (mZ _) i1;rw[gx]at kk;simp only at kk;obtain⟨B',lb,df,up⟩:=dfr A hA;exact next _ _ h' β' A _ B' ⟨lb,λhh=>(by rw[hrd]at hh;cases hh)⟩ kk le (Ue ah le refs (up ok') (λp hp=>by rw[(sG gx p hp).1]) rfl df) λ_ _=>rfl
theorem gW{P:Program}{n:Nat}:∀(c:Code){h0:FH}{E:Env} (ok:eH P E) (hg:aG E.cx.gd h0){F:Fence} (hF:Wd F) (hr:E.rd=false->F=Fence.wide){B:Base}{s:St}{h:FH}{β:List RV}{w:World}{a:Act}{K:Exit->St->Prop}{Q:Exit->Act->World->Prop},Sat E.n B h0 s h β w a ->
 iJ E c s K->(∀e s' h' β' w' a' B',Base.Ud E.rd B B'->K e s'->h.le h'->Sat E.n B' h0 s' h' β' w' a'->Same (writes c) a a'->Q e a' w')->c.wpIn F n P Q a w
 | .skip,h0,E,ok,hg,F,hF,hr,B,s,h,β,w,a,K,Q,ah,k,next=>wpIn_skip (next _ _ _ _ _ _ _ (.refl _) k (FH.le.refl h) ah (Same.refl _ _))
 | .exit i,h0,E,ok,hg,F,hF,hr,B,s,h,β,w,a,K,Q,ah,k,next=>wpIn_exit (next _ _ _ _ _ _ _ (.refl _) k (FH.le.refl h) ah (Same.refl _ _))
 | .ret,h0,E,ok,hg,F,hF,hr,B,s,h,β,w,a,K,Q,ah,k,next=>wpIn_ret (next _ _ _ _ _ _ _ (.refl _) k (FH.le.refl h) ah (Same.refl _ _))
 | .region id ops false,h0,E,ok,hg,F,hF,hr,B,s,h,β,w,a,K,Q,ah,k,next=>by
   simp only[iJ]at k;split at k
   .cases k
   rename_i hnd;have et:tl ops=ops.toList:=by cases ops;rfl
   rw[et]at hnd k;refine J4 (R:=λa w=>Q .normal a w) hF (λ_ _ hh=>hh) hnd (Fv ok hg ops.toList ah (by rw[et];exact k) λs' h' β' w' a' k' le aK sm=>next .normal _ _ _ _ _ _ (.refl _) k' le aK.clean ?_)
   simp only[writes];rw[et];exact sm
 | .seq x y,h0,E,ok,hg,F,hF,hr,B,s,h,β,w,a,K,Q,ah,k,next=>by
   simp only[iJ]at k;split at k
   .rename_i la _;obtain⟨β0,abY⟩:=ah.vF la.pad;clear ah;generalize vF la.pad s=s at abY k;generalize β0=β at abY;have ah:=abY;obtain⟨k1,k2⟩:=k;have D0:∀h' a',h.le h'->Same (writes x) a a'->∀t e,fH (nJ (dO la.drop (writes x)) [] s.env) t=some ([],e)->∃z,a'.tmps[t]?=some z/\iO h' [] e z:=by
     intro h' a' le sm t e ht;obtain⟨_,hw,hl,_,hf⟩:=jJ ht;obtain⟨z,q1,q2,_⟩:=ah.env t [] e hl;exact⟨z,by rw[sm t (by rw[jT,pz]at hw;exact hw.2)];exact q1,(iO.jV [] hf (q2 rfl)).mono le (Ext.refl _)⟩
    refine wpIn_seq (gW x ok hg hF hr ah k1 λe s' h' β' w' a' B1 lb k' le aK sm=>?_)
    cases e with
    | normal=>
      simp only at k';unfold afC at k';obtain⟨h1,β1,le1,aY⟩:=Sat.qG aK la.Cm la.rV la.nil la.uq la.deep;obtain⟨β20,afK⟩:=aY.lu la.ren;obtain⟨β2,Kw⟩:=afK.qK la.can;split at k'
      .rename_i hR;obtain⟨v,j1,j2,j3⟩:=k';have kk:=k2 v j1;split at kk
       .cases kk
       .rename_i hc;rw[ay,A8]at hc;exact gW y ok hg hF hr (wX Kw j3 hc.1 hc.2 j2 (oV hR) (D0 h1 a' (le.trans le1) sm)) kk λe s2 h2 β3 w2 a2 B2 xI k3 fU Uc qW=>next e s2 h2 β3 w2 a2 B2 (lb.trans xI) k3 ((le.trans le1).trans fU) Uc (sm.left.trans qW.right)
      .exact k'.elim
    | exit i=>exact next _ _ _ _ _ _ _ lb k' le aK sm.left
    | goto l=>exact next _ _ _ _ _ _ _ lb k' le aK sm.left
    | ret=>exact next _ _ _ _ _ _ _ lb k' le aK sm.left
    | panic ch=>exact next _ _ _ _ _ _ _ lb k' le aK sm.left
    | outgrown=>exact next _ _ _ _ _ _ _ lb k' le aK sm.left
   .refine wpIn_seq (gW x ok hg hF hr ah k λe s' h' β' w' a' B1 lb k' le aK sm=>?_)
    cases e with
    | normal=>exact gW y ok hg hF hr aK k' λe s2 h2 β2 w2 a2 B2 xI k2 fU aY qW=>next e s2 h2 β2 w2 a2 B2 (lb.trans xI) k2 (le.trans fU) aY (sm.left.trans qW.right)
    | exit i=>exact next _ _ _ _ _ _ _ lb k' le aK sm.left
    | goto l=>exact next _ _ _ _ _ _ _ lb k' le aK sm.left
    | ret=>exact next _ _ _ _ _ _ _ lb k' le aK sm.left
    | panic ch=>exact next _ _ _ _ _ _ _ lb k' le aK sm.left
    | outgrown=>exact next _ _ _ _ _ _ _ lb k' le aK sm.left
 | .cond c x y,h0,E,ok,hg,F,hF,hr,B,s,h,β,w,a,K,Q,ah,k,next=>by
   simp only[iJ]at k;split at k
   .rename_i b hb;have hc:a.eval c=.bool b:=(aH ah (hg.mono ah.ok.hle) (show gv s.gl []=true from rfl) hb).1.1
    refine wpIn_cond_split hc (λht=>gW x ok hg hF hr ah ((ak.1 k).1 ht) λe s' h' β' w' a' B1 lb k' le aK sm=>next _ _ _ _ _ _ _ lb k' le aK sm.left)
     (λhf=>gW y ok hg hF hr ah ((ak.1 k).2 hf) λe s' h' β' w' a' B1 lb k' le aK sm=>next _ _ _ _ _ _ _ lb k' le aK sm.right)
   .cases k
 | .block id c,h0,E,ok,hg,F,hF,hr,B,s,h,β,w,a,K,Q,ah,k,next=>by
   refine wpIn_block (gW c ok hg hF hr ah k λe s' h' β' w' a' B1 lb k' le aK sm=>?_)
   cases e with
   | normal=>exact next _ _ _ _ _ _ _ lb k' le aK sm
   | exit i=>
     simp only at k';simp only[Exit.inBlock];split at k'
     .rename_i hi;have:i=id:=gI hi;rw[if_pos this];exact next _ _ _ _ _ _ _ lb k' le aK sm
     .rename_i hi;have:¬i=id:=λhh=>by rw[hh]at hi;simp at hi
      rw[if_neg this];exact next _ _ _ _ _ _ _ lb k' le aK sm
   | goto l=>exact next _ _ _ _ _ _ _ lb k' le aK sm
   | ret=>exact next _ _ _ _ _ _ _ lb k' le aK sm
   | panic ch=>exact next _ _ _ _ _ _ _ lb k' le aK sm
   | outgrown=>exact next _ _ _ _ _ _ _ lb k' le aK sm
 | .loop c,h0,E,ok,hg,F,hF,hr,B,s,h,β,w,a,K,Q,ah,k,next=>by
   simp only[iJ]at k;split at k
   .rename_i la _;obtain⟨h1,β1,le1,fQ⟩:=Sat.qG ah la.Cm la.rV la.nil la.uq la.deep
    replace next:=λe s' h' β' w' a' B1 lb k' le aK sm=>next e s' h' β' w' a' B1 lb k' (le1.trans le) aK sm
    clear le1 ah;clear h
    rename FH=>h
    generalize qG s la.Cm la.rV la.nil la.uq la.deep=s at fQ k;obtain⟨β2,ah⟩:=fQ.vF la.pad;clear fQ;have fQ:=ah;clear ah;generalize vF la.pad s=s at fQ k;have ah:=fQ;clear fQ;obtain⟨⟨x,i1,i2,i3⟩,k2⟩:=k;have good:∀x,la.inv x->uG (aJ s.T) (jq (la.res x) s.T)=true/\DN (aJ s.T) (dO la.drop (writes c)) (la.slots x)=true /\
     iJ E c (nS (dO la.drop (writes c)) s (la.slots x) (la.res x)) (λe s'=>match e with
      | .normal=>match Bq (qK la.can (lu la.ren s')) (keepR (aJ s.T) (dO la.drop (writes c)) [] s.env) with
        | true=>∃x',la.inv x'/\Df (qK la.can (lu la.ren s')) (la.slots x')/\og (aJ s.T) (qK la.can (lu la.ren s')).T=jq (la.res x') s.T/\la.meas x' < la.meas x
        | false=>False
      | e=>K e s'):=by
     intro x hx;have:=k2 x hx;split at this
     .cases this
     .rename_i hc;rw[ay,A8]at hc;exact⟨hc.1,hc.2,this⟩
    have D0:∀h' a',h.le h'->Same (writes c) a a'->∀t e,fH (nJ (dO la.drop (writes c)) [] s.env) t=some ([],e)->∃z,a'.tmps[t]?=some z/\iO h' [] e z:=by
     intro h' a' le sm t e ht;obtain⟨_,hw,hl,_,hf⟩:=jJ ht;obtain⟨z,q1,q2,_⟩:=ah.env t [] e hl;exact⟨z,by rw[sm t (by rw[jT,pz]at hw;exact hw.2)];exact q1,(iO.jV [] hf (q2 rfl)).mono le (Ext.refl _)⟩
    refine wpIn_loop_ghost (λn a' w'=>∃x h' β' B1,Base.Ud E.rd B B1/\la.meas x=n/\la.inv x/\h.le h'/\Sat E.n B1 h0 (nS (dO la.drop (writes c)) s (la.slots x) (la.res x)) h' β' w' a'/\Same (writes c) a a') (la.meas x) ?_ ?_
    .obtain⟨g1,g2,_⟩:=good x i1;refine⟨x,h,_,B,.refl _,rfl,i1,FH.le.refl h,wX ah ?_ g1 g2 i2 (λp hp=>(oW p hp).2) (D0 h a (FH.le.refl h) (Same.refl _ _)),Same.refl _ _⟩
     rw[<-i3,jc,aV,List.take_length]
    .rintro n a' w' ⟨x,h',β',B1,lb,rfl,hx,le,aK,sm⟩;obtain⟨g1,g2,kk⟩:=good x hx;refine gW c ok hg hF hr aK kk λe s2 h2 β2 w2 a2 B2 xI k2 fU aY qW=>?_
     cases e with
     | normal=>
       simp only at k2;split at k2
       .rename_i hR;obtain⟨x',j1,j2,j3,j4⟩:=k2;obtain⟨g1',g2',_⟩:=good x' j1;obtain⟨β30,afL⟩:=aY.lu la.ren;obtain⟨β3,aY⟩:=afL.qK la.can;refine⟨la.meas x',j4,x',h2,_,B2,lb.trans xI,rfl,j1,le.trans fU,wX aY j3 g1' g2' j2 (oV hR) (D0 h2 a2 (le.trans fU) (sm.trans qW)),sm.trans qW⟩
       .cases k2
     | exit i=>exact next _ _ _ _ _ _ _ (lb.trans xI) k2 (le.trans fU) aY (sm.trans qW)
     | goto l=>exact next _ _ _ _ _ _ _ (lb.trans xI) k2 (le.trans fU) aY (sm.trans qW)
     | ret=>exact next _ _ _ _ _ _ _ (lb.trans xI) k2 (le.trans fU) aY (sm.trans qW)
     | panic ch=>exact next _ _ _ _ _ _ _ (lb.trans xI) k2 (le.trans fU) aY (sm.trans qW)
     | outgrown=>exact next _ _ _ _ _ _ _ (lb.trans xI) k2 (le.trans fU) aY (sm.trans qW)
   .rename_i m _;refine wpIn_loop_rounds m ?_;have key:∀(m:Nat){B:Base}{s:St}{h:FH}{β:List RV}{w:World}{a:Act}{K:Exit->St->Prop}{Q:Exit->Act->World->Prop},Sat E.n B h0 s h β w a->FK (iJ E c) m s K ->
     (∀e s' h' β' w' a' B',Base.Ud E.rd B B'->K e s'->h.le h'->Sat E.n B' h0 s' h' β' w' a'->Same (writes c) a a'->Q e a' w')->Code.roundsIn F n P c Q m a w:=by
     intro m
     induction m with
     | zero=>intro B s h β w a K Q ah k next;cases k
     | succ m ih=>
       intro B s h β w a K Q ah k next
       rw[roundsIn_succ];refine gW c ok hg hF hr ah k λe s2 h2 β2 w2 a2 B2 xI k2 fU aY qW=>?_
       cases e with
       | normal=>exact ih aY k2 λe s3 h3 β3 w3 a3 B3 lb3 k3 le3 Kw sm3=>next e s3 h3 β3 w3 a3 B3 (xI.trans lb3) k3 (fU.trans le3) Kw (qW.trans sm3)
       | exit i=>exact next _ _ _ _ _ _ _ xI k2 fU aY qW
       | goto l=>exact next _ _ _ _ _ _ _ xI k2 fU aY qW
       | ret=>exact next _ _ _ _ _ _ _ xI k2 fU aY qW
       | panic ch=>exact next _ _ _ _ _ _ _ xI k2 fU aY qW
       | outgrown=>exact next _ _ _ _ _ _ _ xI k2 fU aY qW
    exact key m ah k next
   .cases k
 | .region id ops true,h0,E,ok,hg,F,hF,hr,B,s,h,β,w,a,K,Q,ah,k,next=>by
   simp only[iJ]at k;split at k
   .cases k
   rename_i hnd;have et:tl ops=ops.toList:=by cases ops;rfl
   cases hma:yg E.cx (tl ops) with
   | true=>
     rw[hma]at k;simp only at k;cases hlx:Xz ops with
     | false=>rw[hlx]at k;cases k
     | true=>
       rw[hlx]at k;exact TV ok hg hlx ah k hF (by rw[et]at hnd;exact hnd) λs' h' β' w' a' k' le aK sm=>next .normal _ _ _ _ _ _ (.refl _) k' le aK.clean sm
   | false=>
   rw[hma]at k;simp only at k;cases hmo:Nv ops with
   | some m=>
     rw[hmo]at k;exact XD ok hg hmo ah k hF (by rw[et]at hnd;exact hnd) λs' h' β' w' a' k' le aK sm=>next .normal _ _ _ _ _ _ (.refl _) k' le aK.clean sm
   | none=>
   rw[hmo]at k;simp only at k;cases MN:orB E.cx.rt (Iu E (tl ops)) with
   | true=>
     rw[MN]at k;simp only at k;cases hd:wS ops with
     | none=>rw[hd]at k;cases k
     | some l=>
       rw[hd]at k;exact TW ok hg hd ah k hF (by rw[et]at hnd;exact hnd) λs' h' β' w' a' k' le aK sm=>next .normal _ _ _ _ _ _ (.refl _) k' le aK.clean sm
   | false=>
   rw[MN]at k;simp only at k;cases hd:tN ops with
   | none=>rw[hd]at k;cases k
   | some l=>
     rw[hd]at k;exact Ns ok hg hd ah k hF (by rw[et]at hnd;exact hnd) λs' h' β' w' a' k' le aK sm=>next .normal _ _ _ _ _ _ (.refl _) k' le aK.clean sm
 | .rangeFunc g ps CB c,h0,E,ok,hg,F,hF,hr,B,s,h,β,w,a,K,Q,ah,k,next=>by
   simp only[iJ]at k;split at k
   .cases k
   rename_i hrd;have hF':=hr hrd;subst hF';split at k
   .rename_i P' ss L hgE;split at k
    .rename_i ra _;obtain⟨hP,k⟩:=k;have hP:=ok.prog _ hP;subst hP;have gv0:Gives P' h ss L (a.eval g):=(aH ah (hg.mono ah.ok.hle) (show gv s.gl []=true from rfl) hgE).1
     obtain⟨h1,β1,le1,aY⟩:=Sat.qG ah ra.Cm ra.rV ra.nil ra.uq ra.deep
     replace next:=λe s' h' β' w' a' B1 lb k' le aK sm=>next e s' h' β' w' a' B1 lb k' (le1.trans le) aK sm
     have gv1:=Dj.vP (x:=.seq P' ss L) le1 gv0;generalize qG s ra.Cm ra.rV ra.nil ra.uq ra.deep=s2 at aY k;refine Ug (λc' hc' h0' E' B' s' h' β' w' a' K' Q' l ok' hg' he aK k' next'=>?_) ok hg aY gv1 k hrd next
     rcases hc' with rfl | rfl
     .exact gW _ ok' hg' (F:=Fence.wide.inRound l) (.inr ⟨l,rfl⟩) (λhh=>by rw[he]at hh;cases hh) aK k' next'
     .exact gW _ ok' hg' (F:=Fence.wide.inRound l) (.inr ⟨l,rfl⟩) (λhh=>by rw[he]at hh;cases hh) aK k' next'
    .cases k
   .cases k
 | .scope _,h0,E,ok,hg,F,hF,hr,B,s,h,β,w,a,K,Q,ah,k,next=>k.elim
 | .label _,h0,E,ok,hg,F,hF,hr,B,s,h,β,w,a,K,Q,ah,k,next=>k.elim
 | .goto _,h0,E,ok,hg,F,hF,hr,B,s,h,β,w,a,K,Q,ah,k,next=>k.elim
 | .refuse _,h0,E,ok,hg,F,hF,hr,B,s,h,β,w,a,K,Q,ah,k,next=>k.elim
end Go.lM
