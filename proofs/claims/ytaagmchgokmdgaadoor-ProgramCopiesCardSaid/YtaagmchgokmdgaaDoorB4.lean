/- Part 4 of the proof. Conditions: the rows'. -/
import Derived.Test.YtaagmchgokmdgaaDoorB3
import Derived.Laws.IdiomRangeMap
import Derived.Deep.LoopGhost
set_option linter.unusedSimpArgs false
set_option linter.unusedVariables false
set_option maxRecDepth 1000000
set_option maxHeartbeats 8000000
namespace Go.lZ
open Go Go.RowKit
variable {t:TypeId}{kk:IntKind}{n N i id:Nat}{P:Program}{B:Base}{h0 h:FH}{w A:World}{a:Act}{o:Oper}{K:St->Prop}{s:St}{β β':List RV}{ops:Array Oper}{bl:List Nat}{F:Fence}{Q:Exit->Act->World->Prop}{T:List ay}
abbrev xI(cx:Cx) (t:TypeId) (K:IntKind->TypeId->TI->Sh->Prop):Prop:=match lG cx.ti t with
 | some i=>match i.desc with
   | .map kt et=>match lG cx.ti kt with
     | some ik=>match ik.desc with
       | .int kk=>match lG cx.ti et with
         | some ie=>match ie.jF with
           | some sh=>K kk et ie sh
           | none=>False
         | none=>False
       | _=>False
     | none=>False
   | _=>False
 | none=>False
abbrev O5(cx:Cx) (t:TypeId):Bool:=match lG cx.ti t with
 | some i=>match i.desc with
   | .map _ _=>true
   | _=>false
 | none=>false
abbrev JL(cx:Cx) (s:St) (x:Operand) (kk:IntKind) (sh:Sh):Option (List (Int×sh.den)):=match bf cx s [] x with
 | some (.one (.c (.one s' d)))=>gU s' d (.mp kk sh)
 | some (.one (.c (.row i)))=>match bW s.T i with
   | some ([],.mp kk' sh' l)=>gU (.mp kk' sh') l (.mp kk sh)
   | _=>none
 | some (.one (.c (.v (.map none))))=>some []
 | _=>none
abbrev O6(cx:Cx) (s:St) (x:Operand) (kk:IntKind):Option Int:=match bf cx s [] x with
 | some (.one (.c (.v (.int k n))))=>match Nat.beq (xY k) (xY kk) with
   | true=>some n
   | false=>none
 | _=>none
def yX{α:Type} (l:List (Int×α)) (n:Int) (z:α):α:=(wW l n).getD z
def H7{α:Type} (l:List (Int×α)) (n:Int):Bool:=(wW l n).isSome
abbrev Dv(cx:Cx) (s:St) (o:Op) (K:bK->Prop):Option Prop:=match o with
 | .lookup t m x ok=>some (xI cx t λkk _ _ sh=>match JL cx s m kk sh with
   | none=>False
   | some l=>match O6 cx s x kk with
     | none=>False
     | some n=>match ok with
       | false=>K (.one (fO sh (yX l n (mY sh))))
       | true=>K (.l7 [fO sh (yX l n (mY sh)),.c (.v (.bool (H7 l n)))]))
 | .call c=>match c.callee with
   | .builtin .len=>match tl c.argTypes with
     | [t]=>match O5 cx t with
       | false=>none
       | true=>some (xI cx t λkk _ _ sh=>match tl c.args with
         | [m]=>match JL cx s m kk sh with
           | none=>False
           | some l=>K (.one (.c (.v (.int .i64 l.length))))
         | _=>False)
     | _=>none
   | _=>none
 | _=>none
abbrev X9(cx:Cx) (s:St) (o:Oper) (K:St->Prop):Option Prop:=none
section
variable {cx:Cx}{P:Program}{N:Nat}{B:Base}{h0:FH}{s:St}{h:FH}{β:List RV}{w:World}{a:Act}{o:Oper}{K:St->Prop}
structure Ya (P:Program) (t:TypeId) (kk:IntKind) (et:TypeId) (ie:TI) (sh:Sh):Prop where
 und:∃kt,P.underlying t=some (.map kt et)/\P.underlying kt=some (.int kk)
 ei:aS P et ie
 es:ie.jF=some sh
theorem yY(hc:bG P cx.ti){K:IntKind->TypeId->TI->Sh->Prop} (k:xI cx t K):∃kk et ie sh,K kk et ie sh/\Ya P t kk et ie sh:=by
 unfold xI at k;split at k
 .rename_i i hi;split at k
  .rename_i kt et hd;split at k
   .rename_i ik hik;split at k
    .rename_i kk hkk;split at k
     .rename_i ie hie;split at k
      .rename_i sh hsh;exact⟨kk,et,ie,sh,k,⟨kt,(hc.get hi).zZ hd rfl,(hc.get hik).zZ hkk rfl⟩,hc.get hie,hsh⟩
      .cases k
     .cases k
    .cases k
   .cases k
  .cases k
 .cases k
theorem TP{et:TypeId}{ie:TI}{sh:Sh} (k:aS P et ie) (hs:ie.jF=some sh) (h:FH) (w:World):∃z,(zeroValue et).run P w=.ok z w/\DW h sh z (mY sh):=by
 obtain⟨inf,z,h1,h2,h3,h4,h5⟩:=k.info;obtain⟨r,ha⟩:=k.KX sh hs;refine⟨z,by simp[zeroValue,typeInfo,h1,h4],ie.zero,?_,pR r⟩
 have hz:=k.aa2 inf z h1 h4;rw[<-ha]at hz;unfold mkV;cases z with
 | agg cs=>
   have hz:sh.isAgg=true:=hz.symm;rw[hz,if_pos rfl];simp[Value.cells]at h5;rw[h5]
 | _=>
   have hz:sh.isAgg=false:=hz.symm;rw[hz,if_neg (by simp)]
   have h6:=qV Array.toList h5;simp only[Value.cells]at h6;rw[show ie.zero=_ from h6.symm];rfl
theorem DW.cn{sh:Sh}{y:Value}{d:sh.den} (x:DW h sh y d):bI h β (fO sh d) y:=by
 obtain⟨cs,rfl,r⟩:=x;exact gq sh r
def O7(h:FH) (w:World) (kk:IntKind) (sh:Sh) (y:Value) (l:List (Int×sh.den)):Prop:=
 (y=.map none/\l=[])\/∃b es c,y=.map (some b)/\w.heap[b]?=some (.map es c)/\rQ kk (DW h sh) es c l
theorem Yb{k1:IntKind}{s1 sh:Sh}{l1:List (Int×s1.den)}{l:List (Int×sh.den)} (e:gU (.mp k1 s1) l1 (.mp kk sh)=some l):k1=kk/\∃e':s1=sh,(e'▸l1:List (Int×sh.den))=l:=by
 obtain⟨e1,e2⟩:=iJ e;cases e1;exact⟨rfl,rfl,e2⟩
theorem EW(ah:Sat N B h0 s h β w a) (hg:aB cx.gd h){x:Operand}{sh:Sh}{l:List (Int×sh.den)} (e:JL cx s x kk sh=some l):O7 h w kk sh (a.eval x) l:=by
 have tr:gv s.gl []=true:=rfl;unfold JL at e;split at e
 .rename_i s' d hx;have c:bI h β (.c (.one s' d)) (a.eval x):=aF ah hg tr hx;obtain⟨e1,e2⟩:=iJ e;subst e1;simp only at e2;subst e2;obtain⟨v,hv,r⟩:=c.1;have hv:a.eval x=v:=by simpa using hv
  rw[hv];rcases r with r | ⟨b,es,cc,r1,r2,r3⟩
  .exact .inl r
  .exact .inr ⟨b,es,cc,r1,Sm (ah.ok.hw b 0 _ r2),r3⟩
 .rename_i i hx;have c:bI h β (.c (.row i)) (a.eval x):=aF ah hg tr hx;split at e
  .rename_i kk' sh' l' hT;obtain⟨e1,e2,e3⟩:=Yb e;subst e1;subst e2;simp only at e3;subst e3;exact .inr (ah.ok.Ws (aU hT tr) c.1)
  .cases e
 .rename_i hx;have c:bI h β (.c (.v (.map none))) (a.eval x):=aF ah hg tr hx;cases e;exact .inl ⟨c.1.1,rfl⟩
 .cases e
theorem O8(ah:Sat N B h0 s h β w a) (hg:aB cx.gd h){x:Operand}{n:Int} (e:O6 cx s x kk=some n):a.eval x=.int kk n:=by
 unfold O6 at e;split at e
 .rename_i k m hx;have c:bI h β (.c (.v (.int k m))) (a.eval x):=aF ah hg (show gv s.gl []=true from rfl) hx
  split at e
  .rename_i hk;cases e;rw[c.1.1,lJ hk]
  .cases e
 .cases e
theorem Dw{kt:TypeId}{n:Int} (hk:P.underlying kt=some (.int kk)) (b:Bool) (w:World):(Instr.checkKey b 10000 kt (.int kk n)).run P w=.ok () w:=
 MapKept.run_checkKey (n:=9999) (k:=.int kk n) hk (show kk=kk from rfl) b
theorem O9{et:TypeId}{ie:TI}{sh:Sh} (mt:Ya P t kk et ie sh){y:Value}{l:List (Int×sh.den)} (m:O7 h w kk sh y l) (n:Int) (ok:Bool):
 ∃v,DW h sh v (yX l n (mY sh))/\(Instr.lookup t y (.int kk n) ok).run P w=.ok (if ok then .tuple #[v,.bool (H7 l n)] else v) w:=by
 obtain⟨kt,hu,hk⟩:=mt.und;obtain⟨z,hz,dz⟩:=TP mt.ei mt.es h w;rcases m with⟨rfl,rfl⟩ | ⟨b,es,c,rfl,hb,m⟩
 .refine⟨z,dz,?_⟩;have hf:=MapKept.run_findKey (P:=P) (w:=w) (k:=.int kk n) (l:=[]) hk rfl;simp[Instr.lookup,run_underlying hu,Dw hk,hf,hz,H7,wW,Result.andThen]
 .rcases m.find kk n with⟨j,e,d,e1,e2,e3,e4,e5⟩ | ⟨e1,e2⟩
  .refine⟨e.val,by rw[show yX l n (mY sh)=d by simp[yX,e2]];exact e3,?_⟩
   have hf:=MapKept.run_findKey (P:=P) (w:=w) hk e5;simp[Instr.lookup,run_underlying hu,Dw hk,MapKept.run_getObj_map hb,hf,H7,e2,Result.andThen]
  .refine⟨z,by rw[show yX l n (mY sh)=mY sh by simp[yX,e1]];exact dz,?_⟩
   have hf:=MapKept.run_findKey (P:=P) (w:=w) hk e2;simp[Instr.lookup,run_underlying hu,Dw hk,MapKept.run_getObj_map hb,hf,hz,H7,e1,Result.andThen]
theorem Pg{et:TypeId}{ie:TI}{sh:Sh} (mt:Ya P t kk et ie sh){y:Value}{l:List (Int×sh.den)} (m:O7 h w kk sh y l){ts:Array TypeId} (ht:ts=#[t]){ty:TypeId}:
 (Builtin.len_ ts ty #[y]).run P w=.ok (.int .i64 l.length) w:=by
 obtain⟨kt,hu,hk⟩:=mt.und;subst ht;rcases m with⟨rfl,rfl⟩ | ⟨b,es,c,rfl,hb,m⟩
 .simp[Builtin.len_,run_underlying hu,goInt]
 .simp[Builtin.len_,run_underlying hu,MapKept.run_getObj_map hb,goInt,m.len]
theorem EX(hc:bG P cx.ti) (ah:Sat N B h0 s h β w a) (hg:aB cx.gd h){K:bK->Prop}{p:Prop} (hp:Dv cx s o.op K=some p) (k:p):
 ∃e v,K e/\(execOp a.eval o).run P w=.ok (.value v) w/\gJ h β e v:=by
 unfold Dv at hp;split at hp
 .rename_i t m x okb ho;cases hp;obtain⟨kk,et,ie,sh,k,mt⟩:=yY hc k;split at k
  .cases k
  rename_i l hl;split at k
  .cases k
  rename_i n hn;have hm:=EW ah hg hl;have hx:=O8 ah hg hn;obtain⟨v,dv,run⟩:=O9 mt hm n okb;have abk:(execOp a.eval o).run P w=.ok (.value (if okb then .tuple #[v,.bool (H7 l n)] else v)) w:=by
   simp only[execOp,ho,hx,Sem.run_bind,run,Result.andThen_ok,Sem.run_pure]
  split at k
  .exact⟨_,_,k,abk,dv.cn⟩
  .exact⟨_,_,k,abk,[v,.bool (H7 l n)],rfl,dv.cn,⟨⟨rfl,rfl,rfl⟩,rfl,rfl⟩,trivial⟩
 .rename_i c ho;split at hp
  .rename_i aY;split at hp
   .rename_i t ht;split at hp
    .cases hp
    .cases hp;obtain⟨kk,et,ie,sh,k,mt⟩:=yY hc k;split at k
     .rename_i m hm0;split at k
      .cases k
      rename_i l hl;have hm:=EW ah hg hl;refine⟨_,_,k,?_,⟨⟨rfl,rfl,rfl⟩,rfl,rfl⟩⟩;simp[execOp,ho,resolve,aY,invoke,builtin,fE hm0,Pg mt hm (fE ht)]
     .cases k
   .cases hp
  .cases hp
 .cases hp
theorem aG.SK{α β:Type}{R:α->β->Prop}:∀{l:List α}{m:List β}{a:α},aG R l m->a∈l->∃b∈m,R a b
 | [],_,_,_,ha=>by cases ha
 | x :: l,y :: m,a,⟨h1,h2⟩,ha=>by
   rcases iV.1 ha with rfl | ha
   .exact⟨y,by simp,h1⟩
   .obtain⟨b,hb,r⟩:=aG.SK h2 ha;exact⟨b,by simp[hb],r⟩
theorem TQ(hc:bG P cx.ti) (ah:Sat N B h0 s h β w a) (hg:aB cx.gd h) (hd:iP N o.dst=true){p:Prop} (hp:X9 cx s o K=some p) (k:p):o.guard=none/\wK P N B h0 h w a o true K:=by
 unfold X9 at hp;cases hp
end
structure LA where
 α:Type
 slots:α->List (Nat×SV)
 res:α->List (Nat×ay)
 inv:α->Prop
 meas:α->Nat
 ren:List (Nat×Nat):=[]
 drop:List Nat:=[]
 nil:List (Nat×TypeId×Sh):=[]
 zQ:List Nat:=[]
 pad:Nat:=0
 oW:List Nat:=[]
 deep:List (Nat×TypeId×Sh×Nat):=[]
 qh:List (Nat×Nat×TypeId×Sh):=[]
 can:List (Nat×Loc):=[]
structure RA where
 α:Type
 res:α->List (Nat×ay)
 inv:Nat->α->Prop
 drop:List Nat:=[]
 nil:List (Nat×TypeId×Sh):=[]
 zQ:List Nat:=[]
 oW:List Nat:=[]
 deep:List (Nat×TypeId×Sh×Nat):=[]
 qh:List (Nat×Nat×TypeId×Sh):=[]
inductive oO where
 | inv (a:LA)
 | gen (a:LA) (gh:a.α->Nat)
 | yZ (n:Nat)
 | rng (a:RA)
 | cut (a:LA)
inductive RC where
 | keep
 | data (s:Sh)
 | row (t:TypeId) (s:Sh)
 | hd (t:TypeId) (s r:Sh)
 | cel (q:Option (TypeId×Sh×Nat))
structure SQ where
 ss:List Sh
 ct:List (bg ss)->CT
structure SF where
 ss:List Sh
 r:Sh
 ct:(bg ss->Prop)->(bg ss->r.den)->CT
structure Env where
 cx:Cx
 n:Nat
 ct:Nat->Option CT
 ann:Nat->Option (St->oO)
 ip:Nat->Option IP:=λ_=>none
 rc:List RC:=[]
 lits:List Nat:=[]
 P:Option Program:=none
 rd:Bool:=false
 hc:Nat->Nat->Option CT:=λ_ _=>none
 TR:Nat->Option MK:=λ_=>none
 sq:Nat->Option SQ:=λ_=>none
 sf:Nat->Option SF:=λ_=>none
variable {E:Env}
abbrev EY:List SV->List Nat
 | []=>[]
 | v :: r=>match v with
   | .c (.row i)=>i :: EY r
   | .agg xs=>Ju xs (EY r)
   | _=>EY r
abbrev Ph(E:Env) (s:St) (G:Gd) (f:Nat) (args:List Operand):List Nat:=match G with
 | _ :: _=>[]
 | []=>match E.ct f with
   | none=>[]
   | some cc=>match nD E.cx s [] args with
     | none=>[]
     | some vs=>match allL noRow vs with
       | true=>[]
       | false=>match Ac s [] vs with
         | none=>[]
         | some bs=>match su cc.ps bs with
           | none=>[]
           | some dd=>match bJ (CW (cc.res dd).2) (allL qL (cc.res dd).1) with
             | true=>[]
             | false=>EY vs
abbrev Yc(E:Env) (s:St) (G:Gd) (ps:List (Nat×Operand)):List Nat:=match G with
 | _ :: _=>[]
 | []=>rowsOf E.cx s ps
abbrev Pj(E:Env) (s:St) (p x:Operand):List Nat:=match bf E.cx s [] x with
 | some (.one v)=>match EY [v]with
   | []=>[]
   | i :: r=>match bf E.cx s [] p with
     | some (.one (.c (.own q _)))=>match bW s.T q with
       | some ([],.obj _ _ _)=>i :: r
       | _=>[]
     | some (.one (.c (.iw _ _ _ _)))=>i :: r
     | _=>[]
 | _=>[]
abbrev y9:List Operand->Option (List Operand×Nat)
 | []=>none
 | x :: l=>match l with
   | []=>match x with
     | .func g=>some ([],g)
     | _=>none
   | _ :: _=>match y9 l with
     | some (m,g)=>some (x :: m,g)
     | none=>none
theorem zf{a:Act}:∀{l xs:List Operand}{g:Nat},y9 l=some (xs,g)->l.map a.eval=xs.map a.eval++[.func (.func g) #[] #[]]
 | [],_,_,h=>by simp[y9]at h
 | [x],xs,g,h=>by
   simp only[y9]at h;split at h
   .cases h;rfl
   .cases h
 | x :: y :: l,xs,g,h=>by
   simp only[y9]at h;split at h
   .rename_i m g' hm;cases h;have:=zf (a:=a) (l:=y :: l) hm;simp only[Eb]at this ⊢;rw[this];rfl
   .cases h
abbrev zh:List Operand->Option (List Operand×Operand)
 | []=>none
 | x :: l=>match l with
   | []=>some ([],x)
   | _ :: _=>match zh l with
     | some (m,g)=>some (x :: m,g)
     | none=>none
theorem zi{a:Act}:∀{l xs:List Operand}{g:Operand},zh l=some (xs,g)->l.map a.eval=xs.map a.eval++[a.eval g]
 | [],_,_,h=>by simp[zh]at h
 | [x],xs,g,h=>by
   simp only[zh]at h;cases h;rfl
 | x :: y :: l,xs,g,h=>by
   simp only[zh]at h;split at h
   .rename_i m g' hm;cases h;have:=zi (a:=a) (l:=y :: l) hm;simp only[Eb]at this ⊢;rw[this];rfl
   .cases h
abbrev Pm(ss ss':List Sh) (L:List (bg ss)):Option (List (bg ss')):=if h:ss=ss' then some (h▸L) else none
theorem Pn{ss ss':List Sh}{L:List (bg ss)}{M:List (bg ss')} (h:Pm ss ss' L=some M):∃e:ss=ss',e▸L=M:=by
 unfold Pm at h;split at h
 .rename_i e;cases h;exact⟨e,rfl⟩
 .cases h
abbrev hcL(E:Env) (f:Nat) (args:List Operand):Option (CT×List Operand):=match y9 args with
 | some (xs,g)=>match E.hc f g with
   | some ct=>some (ct,xs)
   | none=>none
 | none=>none
abbrev Dx(E:Env) (ops:List Oper) (o:Oper) (s:St) (K:St->Prop):Prop:=match iP E.n o.dst with
 | false=>False
 | true=>pK E.lits s ops o.guard λG s=>match o.op with
   | .alloc t=>CJ E.cx s G o.dst t K
   | .box t x=>SL E.cx s G o.dst t x K
   | .buildSlice t n ps=>jQ E.cx (jZ s (Yc E s G (tl ps))) G o.dst t n (tl ps) K
   | .makeSlice t l c=>Jl E.cx s G o.dst t l c K
   | .store t p x=>match G with
     | []=>match Tv E.cx s o.dst t p x K with
       | some q=>q
       | none=>CO E.cx (jZ s (Pj E s p x)) o.dst t p x K
     | _ :: _=>False
   | .call c=>match c.callee with
     | .value (.func f)=>match hcL E f (tl c.args) with
       | some (ct,xs)=>gu E.cx (λ_=>some ct) s G o.dst f xs K
       | none=>gu E.cx E.ct (jZ s (Ph E s G f (tl c.args))) G o.dst f (tl c.args) K
     | .builtin .append=>match G with
       | []=>match tl c.args with
         | [x,y]=>match tl c.argTypes with
           | [t,t']=>match Nat.beq t t' with
             | true=>match JC s x λs=>qJ E.cx s o.dst t x y K with
               | some q=>q
               | none=>qJ E.cx s o.dst t x y K
             | false=>False
           | _=>False
         | _=>False
       | _ :: _=>False
     | .builtin .copy=>match G with
       | []=>match tl c.args with
         | [x,y]=>match tl c.argTypes with
           | [t,_]=>JD E.cx s o.dst t x y K
           | _=>False
         | _=>False
       | _ :: _=>False
     | .builtin .min=>match G with
       | []=>match tl c.args with
         | [x,y]=>TD E.cx s o.dst x y K
         | _=>False
       | _ :: _=>False
     | .builtin .max=>match G with
       | []=>match tl c.args with
         | [x,y]=>G9 E.cx s o.dst x y K
         | _=>False
       | _ :: _=>False
     | _=>kC E.cx s G o λe=>K (s.put o.dst G e)
   | _=>kC E.cx s G o λe=>K (s.put o.dst G e)
abbrev fP(E:Env) (ops:List Oper) (o:Oper) (s:St) (K:St->Prop):Prop:=match XY E.cx s o K with
 | some p=>match iP E.n o.dst with
   | false=>False
   | true=>p
 | none=>Dx E ops o s K
structure dP (P:Program) (E:Env):Prop where
 prog:∀P',E.P=some P'->P'=P
 hc:∀f g c,E.hc f g=some c->Xz P E.cx.gd f [.func (.func g) #[] #[]] c/\zW P f
 TR:∀g m,E.TR g=some m->∀d h lb,m.pre d->aB E.cx.gd h->capD h m.ss d lb->(m.f d).rel h (.func (.func g) #[] lb.toArray)
 mixed:P.follows .mixedOrders=true
 ti:bG P E.cx.ti
 ct:∀f c,E.ct f=some c->CV P E.cx.gd f c/\∃fn,P.funcs[f]?=some fn/\fn.body.isSome=true/\(fn.name == "runtime.NumGoroutine")=false
 ip:∀f c,E.ip f=some c->Lu P E.cx.gd f c/\∃fn,P.funcs[f]?=some fn/\fn.body.isSome=true/\(fn.name == "runtime.NumGoroutine")=false
 sq:∀f q,E.sq f=some q->(∀L,CTS P E.cx.gd f [.c (.abs (.seq P q.ss L))] (q.ct L))/\zW P f
 sf:∀f q,E.sf f=some q->(∀pre g,CTS P E.cx.gd f [.c (.abs (.clo P q.ss q.r pre g))] (q.ct pre g))/\zW P f
theorem dO.cast{b b':Bool} (e:b=b') (h':dO P N B h0 h w a o b' K):dO P N B h0 h w a o b K:=by rw[e];exact h'
theorem TS(s:St) (i:Nat):(EJ s i).gl=s.gl:=by
 unfold EJ;split<;>rfl
theorem nK:∀{l:List Nat}{s:St},(jZ s l).gl=s.gl
 | [],_=>rfl
 | i :: l,s=>by
   show(jZ (EJ s i) l).gl=s.gl;rw[nK,TS]
theorem dO.le{P:Program}{N:Nat}{B:Base}{h0 h h':FH}{w:World}{a:Act}{o:Oper}{b:Bool}{K:St->Prop} (le:h.le h') (k:dO P N B h0 h' w a o b K):dO P N B h0 h w a o b K:=
 λNx Q next=>k Nx Q λs' h2 β' w' v k' le' q ah=>next s' h2 β' w' v k' (le.trans le') q ah
theorem Mc(ok:dP P E) (ah:Sat E.n B h0 s h β w a) (hg:aB E.cx.gd h)
 (k:Dx E (tl ops) o s K):dO P E.n B h0 h w a o (Region.wanted o (yielded ops a.tmps)) K:=by
 unfold Dx at k;split at k
 .cases k
 rename_i hd;obtain⟨G,s',k,aH,hw,hG⟩:=qH ah k;refine dO.cast hw ?_;split at k
 .rename_i t ho;exact GU ok.ti aH hG hd ho k
 .rename_i t x ho;exact Oc ok.ti aH hg hG hd ho k
 .rename_i t n ps ho;obtain⟨h',le,aQ⟩:=aH.zQ (l:=Yc E s' G (tl ps));have:=oL ok.ti aQ (hg.mono le) (by rw[nK];exact hG) hd ho k
  rw[nK]at this;exact dO.le le this
 .rename_i t l c ho;exact Lr ok.ti aH hg hG hd ho k
 .rename_i t p x ho;split at k
  .split at k
   .rename_i q hq;exact OI ok.ti aH hg hd ho hq k
   .obtain⟨h',le,aQ⟩:=aH.zQ (l:=Pj E s' p x);have:=GV ok.ti aQ (hg.mono le) hd ho k;rw[nK]at this;exact dO.le le this
  .cases k
 .rename_i c ho;split at k
  .rename_i f aY;split at k
   .rename_i ct xs hl;unfold hcL at hl;split at hl
    .rename_i xs' g hlf;split at hl
     .rename_i ct' hct;cases hl;obtain⟨hc,hf⟩:=ok.hc f g ct hct;have k':gu E.cx (λf'=>if f'=f then some ct else none) s' G o.dst f xs K:=by
       unfold gu at k ⊢;simpa using k
      exact oq (suf:=[.func (.func g) #[] #[]]) (λf' c' e=>by
       split at e
       .rename_i hff;cases e;rw[hff];exact hc
       .cases e) aH hg hG hd ho aY (λ_=>rfl) (by
       have:=zf (a:=a) hlf;rw[<-this];cases c.args;simp) hf k'
     .cases hl
    .cases hl
   .obtain⟨h',le,aQ⟩:=aH.zQ (l:=Ph E s' G f (tl c.args));refine dO.le le ?_;rw[<-nK (l:=Ph E s' G f (tl c.args)) (s:=s')]at hG ⊢;generalize jZ s' (Ph E s' G f (tl c.args))=s' at k aQ hG ⊢;unfold gu at k;cases hct:E.ct f with
    | none=>rw[hct]at k;cases k
    | some cc=>exact Ls (λf c e=>(ok.ct f c e).1) aQ (hg.mono le) hG hd ho aY (ok.ct f cc hct).2 k
  .rename_i aY;split at k
   .split at k
    .rename_i x y ha;split at k
     .rename_i t t' ht;split at k
      .rename_i htt;have htt:t=t':=fC htt;subst htt;split at k
       .rename_i q hq;obtain⟨s2,β2,k2,aQ,egl⟩:=Tz aH hq k;have:=wJ ok.ti aQ hg hd ho aY (fE ha) (fE ht) k2;rw[egl]at this;exact this
       .exact wJ ok.ti aH hg hd ho aY (fE ha) (fE ht) k
      .cases k
     .cases k
    .cases k
   .cases k
  .rename_i aY;split at k
   .split at k
    .rename_i x y ha;split at k
     .rename_i t t' ht;exact LQ ok.ti aH hg hd ho aY (fE ha) (fE ht) k
     .cases k
    .cases k
   .cases k
  .rename_i aY;split at k
   .split at k
    .rename_i x y ha;exact OM aH hg hd ho aY (fE ha) k
    .cases k
   .cases k
  .rename_i aY;split at k
   .split at k
    .rename_i x y ha;exact LP aH hg hd ho aY (fE ha) k
    .cases k
   .cases k
  .exact AQ ok.ti aH hg hG hd k
 .exact AQ ok.ti aH hg hG hd k
theorem nM(ok:dP P E) (ah:Sat E.n B h0 s h β w a) (hg:aB E.cx.gd h)
 (k:fP E (tl ops) o s K):dO P E.n B h0 h w a o (Region.wanted o (yielded ops a.tmps)) K:=by
 unfold fP at k;split at k
 .rename_i p hp;split at k
  .cases k
  .rename_i hd;exact OV ok.ti ah hg hd hp k
 .exact Mc ok ah hg k
abbrev EZ(E:Env) (ops:List Oper):List Oper->St->(St->Prop)->Prop
 | [],s,K=>K s
 | o :: r,s,K=>fP E ops o s λs=>EZ E ops r s K
abbrev fD:List Oper->List Nat
 | []=>[]
 | o :: l=>match o.dst with
   | some d=>d :: fD l
   | none=>fD l
theorem Same.put{o:Oper}{l:List Oper}{a:Act}{v:Value}{b:Act} (x:Same (fD l) (a.put o.dst v) b):Same (fD (o :: l)) a b:=by
 intro t h;cases hd:o.dst with
 | none=>
   have e:fD (o :: l)=fD l:=by simp only[fD,hd]
   rw[e]at h;rw[x t h,hd];rfl
 | some d=>
   have e:fD (o :: l)=d :: fD l:=by simp only[fD,hd]
   rw[e,gI,xP]at h;rw[x t h.2,hd];have hne:d≠t:=λhh=>A89 h.1 hh.symm
   simp[Act.put,V4 hne]
abbrev Yd(E:Env) (s:St) (o:Oper):Option IP:=match o.guard with
 | some _=>none
 | none=>match o.op with
   | .call c=>match c.callee with
     | .value (.func f)=>match E.ip f with
       | none=>none
       | some ip=>match tl c.args with
         | []=>none
         | x :: _=>match bf E.cx s [] x with
           | some (.one (.c (.row _)))=>some ip
           | _=>none
     | _=>none
   | _=>none
abbrev Po(E:Env) (s:St) (o:Oper):Option IP:=match o.guard with
 | some _=>none
 | none=>match o.op with
   | .call c=>match c.callee with
     | .value (.func f)=>match E.ip f with
       | none=>none
       | some ip=>match tl c.args with
         | []=>none
         | x :: _=>match bf E.cx s [] x with
           | some (.one (.c (.sub _ _)))=>some ip
           | _=>none
     | _=>none
   | _=>none
abbrev iT:Op->List Operand
 | .call c=>tl c.args
 | _=>[]
abbrev Ye:Value->Option Nat
 | .func (.func f) a b=>match tl a with
   | []=>match tl b with
     | []=>some f
     | _ :: _=>none
   | _ :: _=>none
 | _=>none
abbrev wY(sh:Sh):ay->Option SV
 | .obj _ s d=>match bJ sh.isAgg s.isAgg with
   | true=>some (.dat s d)
   | false=>none
 | .blk _ xs=>match sh.isAgg with
   | true=>some (.agg xs)
   | false=>match xs with
     | [x]=>some (.c x)
     | _=>none
 | _=>none
abbrev H8(s:St):(ss:List Sh)->List Operand->Option (St×bg ss)
 | [],[]=>some (s,())
 | sh :: ss,x :: l=>match x with
   | .tmp t=>match dZ s.env t with
     | some ([],.one (.c (.own i 0)))=>match bW s.T i with
       | some ([],r)=>match wY sh r with
         | some v=>match toDat sh v with
           | some d=>match H8 { s with T:=bF s.T i ([],.gone) } ss l with
             | some (s',ds)=>some (s',(d,ds))
             | none=>none
           | none=>none
         | none=>none
       | _=>none
     | _=>none
   | _=>none
 | _,_=>none
inductive HO where
 | hc (c:CT) (xs:List Operand)
 | cc (f:Nat) (xs:List Operand)
 | mk (g:Nat) (cap:List Operand)
 | sq (P:Program) (c:CT) (xs:List Operand)
 | sf (P:Program) (ss:List Sh) (r:Sh) (pre:bg ss->Prop) (g:bg ss->r.den) (q:SF) (xs:List Operand)
abbrev abl(E:Env) (s:St) (f:Nat) (args:List Operand):Option HO:=match E.sf f with
 | none=>none
 | some q=>match zh args with
   | none=>none
   | some (xs,x)=>match bf E.cx s [] x with
     | some (.one (.c (.abs (.clo P ss r pre g))))=>some (.sf P ss r pre g q xs)
     | _=>none
abbrev abm(E:Env) (s:St) (f:Nat) (args:List Operand):Option HO:=match E.sq f with
 | none=>abl E s f args
 | some q=>match zh args with
   | none=>none
   | some (xs,x)=>match bf E.cx s [] x with
     | some (.one (.c (.abs (.seq P ss L))))=>match Pm ss q.ss L with
       | some L=>some (.sq P (q.ct L) xs)
       | none=>none
     | _=>none
abbrev Yf(E:Env) (s:St) (o:Oper):Option HO:=match o.guard with
 | some _=>none
 | none=>match o.op with
   | .call c=>match c.callee with
     | .value (.func f)=>match y9 (tl c.args) with
       | some (xs,g)=>match E.hc f g with
         | some ct=>some (.hc ct xs)
         | none=>none
       | none=>abm E s f (tl c.args)
     | .value (.tmp t)=>match dZ s.env t with
       | some ([],.one (.c (.v v)))=>match Ye v with
         | some f=>some (.cc f (tl c.args))
         | none=>none
       | some ([],.one (.c (.abs (.clo P ss r pre g))))=>some (.sq P { ps:=ss,pre:=pre,res:=λd=>([],.one (fO r (g d))) } (tl c.args))
       | _=>none
     | _=>none
   | .makeFunc (.func g) fst cap=>match tl fst with
     | []=>some (.mk g (tl cap))
     | _ :: _=>none
   | _=>none
abbrev WI(E:Env) (s:St) (d:Option Nat) (x:HO) (K:St->Prop):Prop:=match x with
 | .hc c xs=>gu E.cx (λ_=>some c) s [] d 0 xs K
 | .cc f xs=>gu E.cx E.ct s [] d f xs K
 | .sq P c xs=>E.P=some P/\gu E.cx (λ_=>some c) s [] d 0 xs K
 | .sf P ss r pre g q xs=>E.P=some P/\∃pre' g',Au.clo P ss r pre g=Au.clo P q.ss q.r pre' g'/\gu E.cx (λ_=>some (q.ct pre' g')) s [] d 0 xs K
 | .mk g cap=>match E.TR g with
   | none=>False
   | some m=>match H8 s m.ss cap with
     | none=>False
     | some (s',ds)=>m.pre ds/\K (s'.put d [] (.one (.c (.abs (m.f ds)))))
abbrev adI(E:Env) (s:St) (args:List Operand) (n:Nat):Bool:=match nD E.cx s [] args with
 | some vs=>match vs with
   | .agg xs :: _=>match bW xs n with
     | some (.row _)=>true
     | _=>false
   | _=>false
 | none=>false
abbrev Yg(E:Env) (s:St) (o:Oper):Option (CT×Nat):=match o.guard with
 | some _=>none
 | none=>match o.op with
   | .call c=>match c.callee with
     | .value (.func f)=>match E.ct f with
       | none=>none
       | some ct=>match ct.ps with
         | sh :: _=>match XT sh 0 with
           | some n=>match adI E s (tl c.args) n with
             | true=>some (ct,n)
             | false=>none
           | none=>none
         | []=>none
     | _=>none
   | _=>none
abbrev E5(E:Env) (ops:List Oper) (o:Oper) (s:St) (K:St->Prop):Prop:=match Yg E s o with
 | some p=>match iP E.n o.dst with
   | false=>False
   | true=>ptK E.cx p.1 p.2 s o.dst (iT o.op) K
 | none=>match rtP E.cx s o K with
 | some p=>match iP E.n o.dst with
   | false=>False
   | true=>p
 | none=>match X9 E.cx s o K with
 | some p=>match iP E.n o.dst with
   | false=>False
   | true=>p
 | none=>match Yf E s o with
 | some x=>match iP E.n o.dst with
   | false=>False
   | true=>WI E s o.dst x K
 | none=>match Po E s o with
 | some ip=>match iP E.n o.dst with
   | false=>False
   | true=>XO E.cx ip s o.dst (iT o.op) K
 | none=>match Yd E s o with
 | none=>match XZ E.cx s o K with
   | none=>fP E ops o s K
   | some p=>match iP E.n o.dst with
     | false=>False
     | true=>p
 | some ip=>match iP E.n o.dst with
   | false=>False
   | true=>ipK E.cx ip s o.dst (iT o.op) K
abbrev TT(E:Env) (ops:List Oper):List Oper->St->(St->Prop)->Prop
 | [],s,K=>K s
 | o :: r,s,K=>E5 E ops o s λs=>TT E ops r s K
theorem Md{ip:IP} (e:Yd E s o=some ip):o.guard=none/\∃c f,o.op=.call c/\c.callee=.value (.func f)/\E.ip f=some ip:=by
 unfold Yd at e;split at e
 .cases e
 .rename_i hgd;split at e
  .rename_i c ho;split at e
   .rename_i f aY;split at e
    .cases e
    .rename_i ip' Jt;split at e
     .cases e
     .split at e
      .cases e;exact⟨hgd,c,f,ho,aY,Jt⟩
      .cases e
   .cases e
  .cases e
theorem H9{ip:IP} (e:Po E s o=some ip):o.guard=none/\∃c f,o.op=.call c/\c.callee=.value (.func f)/\E.ip f=some ip:=by
 unfold Po at e;split at e
 .cases e
 .rename_i hgd;split at e
  .rename_i c ho;split at e
   .rename_i f aY;split at e
    .cases e
    .rename_i ip' Jt;split at e
     .cases e
     .split at e
      .cases e;exact⟨hgd,c,f,ho,aY,Jt⟩
      .cases e
   .cases e
  .cases e
theorem TU{v:Value}{f:Nat} (h:Ye v=some f):v=.func (.func f) #[] #[]:=by
 unfold Ye at h;split at h
 .rename_i f' x y;split at h
  .rename_i hx;split at h
   .rename_i hy;cases h;rw[fE hx,fE hy]
   .cases h
  .cases h
 .cases h
theorem Yh{s:Sh} (h:s.isAgg=false):s.size=1:=by cases s<;>simp_all[Sh.isAgg,Sh.size]
theorem JM{N:Nat}{B:Base}{h0:FH}{w:World}{a:Act}{β:List RV}:∀{ss:List Sh}{l:List Operand}{s s':St}{h:FH}{ds:bg ss},Sat N B h0 s h β w a->H8 s ss l=some (s',ds) ->
 ∃h',h.le h'/\Sat N B h0 s' h' β w a/\capD h' ss ds (l.map a.eval)
 | [],[],s,s',h,ds,ah,e=>by simp[H8]at e;subst e;exact⟨h,FH.le.refl h,ah,trivial⟩
 | [],_ :: _,s,s',h,ds,ah,e=>by simp[H8]at e
 | _ :: _,[],s,s',h,ds,ah,e=>by simp[H8]at e
 | sh :: ss,x :: l,s,s',h,ds,ah,e=>by
   unfold H8 at e;split at e
   .rename_i t;split at e
    .rename_i i hlk;split at e
     .rename_i r hT;split at e
      .rename_i v hv;split at e
       .rename_i d hd;split at e
        .rename_i s2 ds2 hc;cases e;obtain⟨z,z1,z2,_⟩:=ah.env t [] _ hlk;obtain⟨b,hb,ez⟩:∃b,β[i]?=some (.blk b)/\z=.pointer (some ⟨b,0,none⟩):=(z2 rfl:bI h β (.c (.own i 0)) z).1;have dM:=aU hT (show gv s.gl []=true from rfl)
         have hold:=ah.ok.holds i r _ dM hb;have hlive:r.live=true:=by cases r<;>first | rfl | (simp[wY]at hv)
         obtain⟨le1,ok1⟩:=ah.ok.KT dM hlive hb (iy.2 rfl);have eH:Sat N B h0 { s with T:=bF s.T i ([],.gone) } (h.plus w b) β w a:=ah.mem (by rw[dK];exact ok1) le1 (Ext.refl _) (by
          intro q hq;rw[cO]at hq;rcases Gq hq with hq | hq
          .exact ah.gT q hq
          .subst hq;rfl)
         obtain⟨h',eX,aQ,cap⟩:=JM (l:=l) eH hc;refine⟨h',le1.trans eX,aQ,⟨?_,cap⟩⟩;have ev:a.eval (.tmp t)=z:=by simp[Act.eval,z1]
         rw[ev,ez];have at_:∀(ys:List Value) (tt:TypeId),w.heap[b]?=some (.cells ys.toArray tt (0,0))->(∀u∈ys,bM u)->At h' b 0 ys:=by
          intro ys tt hw h1 j u hj;refine eX _ _ _ ?_;unfold FH.plus;rw[if_pos rfl,xw];exact kP hw (by simpa using hj) (h1 u (lI hj)).2
         have key:∀(ys:List Value) (tt:TypeId),w.heap[b]?=some (.cells ys.toArray tt (0,0))->(sh.isAgg=true->bI h β v (.agg ys.toArray))->(sh.isAgg=false->∃y,ys=[y]/\bI h β v y) ->
          ∃b' cs,(Value.pointer (some ⟨b,0,none⟩))=.pointer (some ⟨b',0,none⟩)/\Rd h' sh cs d/\At h' b' 0 cs:=by
          intro ys tt hw k1 k2;cases hag:sh.isAgg with
          | true=>
            obtain⟨cs,e1,rd⟩:=toDat_ok hd (k1 hag);unfold mkV at e1;rw[if_pos hag]at e1;injection e1 with e1
            have e1:ys=cs:=by simpa using e1
            subst e1;exact⟨b,ys,rfl,(rd.mono le1 _).mono eX _,at_ ys tt hw (Rd.one _ rd)⟩
          | false=>
            obtain⟨y,rfl,c⟩:=k2 hag;obtain⟨cs,e1,rd⟩:=toDat_ok hd c;unfold mkV at e1;rw[if_neg (by rw[hag];simp)]at e1
            have hs:=Rd.size sh rd;rw[Yh hag]at hs;obtain⟨u,rfl⟩:=List.length_eq_one_iff.1 hs;have e1:y=u:=e1;subst e1;exact⟨b,[y],rfl,(rd.mono le1 _).mono eX _,at_ [y] tt hw (Rd.one _ rd)⟩
         cases r with
         | obj tt s0 d0=>
           simp only[wY]at hv;split at hv
           .rename_i hag;rw[au,A8]at hag;cases hv;obtain⟨ys,e1,rd⟩:=hold;exact key ys tt e1 (λ_=>⟨hag.2,ys,rfl,rd⟩) (λhh=>by rw[hag.1]at hh;cases hh)
           .cases hv
         | blk tt cs=>
           obtain⟨ys,e1,al⟩:=hold;simp only[wY]at hv;split at hv
           .rename_i hag;cases hv;exact key ys tt e1 (λ_=>⟨ys,rfl,al⟩) (λhh=>by rw[hag]at hh;cases hh)
           .rename_i hag;split at hv
            .rename_i x;cases hv;cases ys with
             | nil=>exact al.elim
             | cons y ys=>
               cases ys with
               | cons _ _=>exact al.2.elim
               | nil=>exact key [y] tt e1 (λhh=>by rw[hag]at hh;cases hh) (λ_=>⟨y,rfl,al.1⟩)
            .cases hv
         | row _ _ _=>simp[wY]at hv
         | deep _ _ _ _ _ _ _ _=>simp[wY]at hv
         | mp _ _ _=>simp[wY]at hv
         | Gj _ _ _ _=>simp[wY]at hv
         | it _ _ _ _=>simp[wY]at hv
         | Ei _ _ _ _=>simp[wY]at hv
         | Aw _ _ _ _=>simp[wY]at hv
         | gone=>simp[wY]at hv
        .cases e
       .cases e
      .cases e
     .cases e
    .cases e
   .cases e
theorem Yi(ok:dP P E) (ah:Sat E.n B h0 s h β w a) (hg:aB E.cx.gd h){x:HO} (hx:Yf E s o=some x) (hd:iP E.n o.dst=true)
 (k:WI E s o.dst x K):dO P E.n B h0 h w a o (Region.wanted o (yielded ops a.tmps)) K:=by
 unfold Yf at hx;split at hx
 .cases hx
 rename_i hgd;rw[show Region.wanted o (yielded ops a.tmps)=gv s.gl [] by simp[Region.wanted,hgd,gv]]
 split at hx
 .rename_i c ho;split at hx
  .rename_i f aY;split at hx
   .rename_i xs g hl;split at hx
    .rename_i ct hct;cases hx;obtain⟨hc,hf⟩:=ok.hc f g ct hct;simp only[WI]at k;have k':gu E.cx (λf'=>if f'=f then some ct else none) s [] o.dst f xs K:=by
      unfold gu at k ⊢;simpa using k
     exact oq (suf:=[.func (.func g) #[] #[]]) (λf' c' e=>by
      split at e
      .rename_i hff;cases e;rw[hff];exact hc
      .cases e) ah hg rfl hd ho aY (λ_=>rfl) (by
      have:=zf (a:=a) hl;rw[<-this];cases c.args;simp) hf k'
    .cases hx
   .unfold abm at hx;split at hx
    .unfold abl at hx;split at hx
     .cases hx
     rename_i q hq;split at hx
     .cases hx
     rename_i xs x hl;split at hx
     .rename_i P' ss r pre g hxe;cases hx;simp only[WI]at k;obtain⟨eP,pre',g',eA,k⟩:=k;have:=ok.prog _ eP;subst this;obtain⟨hc,hf⟩:=ok.sf f q hq;have k':gu E.cx (λf'=>if f'=f then some (q.ct pre' g') else none) s [] o.dst f xs K:=by
       unfold gu at k ⊢;simpa using k
      rw[eA]at hxe;have AU:bI h β (.c (.abs (.clo P' q.ss q.r pre' g'))) (a.eval x):=aF ah hg (show gv s.gl []=true from rfl) hxe
      exact sD (suf:=[a.eval x]) (λc' e d vs h' le hw hg' ha hp=>by
       have e':q.ct pre' g'=c':=by simpa using e
       subst e';exact hc pre' g' d vs [a.eval x] h' w hw hg' ha ⟨⟨(show Au.rel h' (.clo P' q.ss q.r pre' g') (a.eval x) from Au.tH le (show Au.rel h (.clo P' q.ss q.r pre' g') (a.eval x) from AU.1)),AU.2⟩,trivial⟩ hp) ah hg rfl hd ho aY (λ_=>rfl) (by
       have:=zi (a:=a) hl;rw[<-this];cases c.args;simp) hf k'
     .cases hx
    rename_i q hq;split at hx
    .cases hx
    rename_i xs x hl;split at hx
    .rename_i P' ss L hxe;split at hx
     .rename_i L' hL;cases hx;obtain⟨e1,e2⟩:=Pn hL;simp only[WI]at k;obtain⟨eP,k⟩:=k;have:=ok.prog _ eP;subst this;subst e1;simp only at e2;subst e2;obtain⟨hc,hf⟩:=ok.sq f q hq;have k':gu E.cx (λf'=>if f'=f then some (q.ct L) else none) s [] o.dst f xs K:=by
       unfold gu at k ⊢;simpa using k
      have AU:bI h β (.c (.abs (.seq P' q.ss L))) (a.eval x):=aF ah hg (show gv s.gl []=true from rfl) hxe
      exact sD (suf:=[a.eval x]) (λc' e d vs h' le hw hg' ha hp=>by
       have e':q.ct L=c':=by simpa using e
       subst e';exact hc L d vs [a.eval x] h' w hw hg' ha ⟨⟨(show Au.rel h' (.seq P' q.ss L) (a.eval x) from Au.tH le (show Au.rel h (.seq P' q.ss L) (a.eval x) from AU.1)),AU.2⟩,trivial⟩ hp) ah hg rfl hd ho aY (λ_=>rfl) (by
       have:=zi (a:=a) hl;rw[<-this];cases c.args;simp) hf k'
     .cases hx
    .cases hx
  .rename_i t aY;split at hx
   .rename_i v hlk;split at hx
    .rename_i f hfn;cases hx;simp only[WI]at k;obtain⟨z,z1,z2,_⟩:=ah.env t [] _ hlk;have ez:z=.func (.func f) #[] #[]:=((z2 rfl:bI h β (.c (.v v)) z).1.1).trans (TU hfn);have hct:∃cc,E.ct f=some cc:=by
      unfold gu at k;cases hh:E.ct f with
      | none=>rw[hh]at k;cases k
      | some cc=>exact⟨cc,rfl⟩
     obtain⟨cc,hct⟩:=hct;exact oq (suf:=[]) (λf' c' e=>(ok.ct f' c' e).1.x) ah hg rfl hd ho aY (λ_=>by simp[Act.eval,z1,ez]) (by cases c.args;simp) (ok.ct f cc hct).2 k
    .cases hx
   .rename_i P' ss r pre g hlk;cases hx;simp only[WI]at k;obtain⟨eP,k⟩:=k;have:=ok.prog _ eP;subst this;obtain⟨z,z1,z2,_⟩:=ah.env t [] _ hlk;obtain⟨gn,lb,ez,hf,kk⟩:NK P' h ss r pre g z:=(z2 rfl:bI h β (.c (.abs (.clo P' ss r pre g))) z).1;have k':gu E.cx (λf'=>if f'=gn then some { ps:=ss,pre:=pre,res:=λd=>([],.one (fO r (g d))) } else none) s [] o.dst gn (tl c.args) K:=by
     unfold gu at k ⊢;simpa using k
    exact yI (lb:=lb) (suf:=lb.toList) (λc' e d vs h' le hw hg' ha hp=>by
     have e':({ ps:=ss,pre:=pre,res:=λd=>([],.one (fO r (g d))) }:CT)=c':=by simpa using e
     subst e';rw[show(vs++lb.toList).toArray=vs.toArray++lb by simp]
     refine(kk d vs h' w le hw (yH ha) hp).mono ?_;rintro en w' ⟨v,rfl,⟨cs,rfl,rd⟩,bel,dr⟩;refine⟨h',[],_,rfl,⟨⟨bel.os,bel.tape,bel.output,bel.size,λk hk ha=>bel.block k hk⟩,dr,rfl,λi r v e _=>by simp at e,λi r v b e _ _ _=>by simp at e,λi j r r' u v b e _ _ _ _ _ _ _=>by simp at e,FH.le.refl h',λb o v hh=>(iq (bel.block b (jV (hw b o v hh)))).trans (hw b o v hh),λb o v hh=>.inl hh,λk o hh=>hh.elim⟩,gq r (rd.mono (λ_ _ _ e=>by cases e) r)⟩) ah hg rfl hd ho aY (λ_=>by simp[Act.eval,z1,ez]) (by cases c.args;simp) hf k'
   .cases hx
  .cases hx
 .rename_i g fst cap ho;split at hx
  .rename_i adJ;cases hx;simp only[WI]at k;split at k
   .cases k
   rename_i m hm;split at k
   .cases k
   rename_i s' ds hcap;obtain⟨h',le,aH,gZ⟩:=JM ah hcap;obtain⟨hmp,k⟩:=k;have rel:=ok.TR g m hm ds h' _ hmp (hg.mono le) gZ;intro Nx Q next
   rw[if_pos rfl];refine fJ (v:=.func (.func g) #[] ((tl cap).map a.eval).toArray) ?_ (next _ _ _ _ _ k le (λ_=>jf.refl w) (aH.put (bQ hd) rfl (λ_=>⟨rel,Au.Sr rel⟩) λhh=>by cases hh))
   simp only[execOp,ho,Instr.makeFunc,Sem.run_bind,Sem.run_pure,Result.andThen_ok];rw[fE adJ];have:cap.map a.eval=((tl cap).map a.eval).toArray:=by cases cap;simp
   rw[this];simp
  .cases hx
 .cases hx
theorem Me{p:CT×Nat} (e:Yg E s o=some p):o.guard=none/\∃c f,o.op=.call c/\c.callee=.value (.func f)/\E.ct f=some p.1:=by
 unfold Yg at e;split at e
 .cases e
 .rename_i hgd;split at e
  .rename_i c ho;split at e
   .rename_i f aY;split at e
    .cases e
    .rename_i ct hct;split at e
     .split at e
      .split at e
       .cases e;exact⟨hgd,c,f,ho,aY,hct⟩
       .cases e
      .cases e
     .cases e
   .cases e
  .cases e
theorem zk(ok:dP P E) (ah:Sat E.n B h0 s h β w a) (hg:aB E.cx.gd h)
 (k:E5 E (tl ops) o s K):wK P E.n B h0 h w a o (Region.wanted o (yielded ops a.tmps)) K:=by
 unfold E5 at k;split at k
 .rename_i p hp;obtain⟨hgd,c,f,ho,aY,hf⟩:=Me hp;split at k
  .cases k
  .rename_i hd;rw[show Region.wanted o (yielded ops a.tmps)=true by simp[Region.wanted,hgd]]
   rw[show iT o.op=tl c.args by simp only[iT,ho]]at k
   exact(TG (ok.ct f _ hf).1 ah hg hd ho aY (ok.ct f _ hf).2 k).weak
 split at k
 .rename_i p hp;split at k
  .cases k
  .rename_i hd;exact(O1 ok.ti ah hg hd hp k).weak
 split at k
 .rename_i p hp;split at k
  .cases k
  .rename_i hd;obtain⟨hgd,st⟩:=TQ ok.ti ah hg hd hp k;rw[show Region.wanted o (yielded ops a.tmps)=true by simp[Region.wanted,hgd]]
   exact st
 split at k
 .rename_i x hx;split at k
  .cases k
  .rename_i hd;exact(Yi ok ah hg hx hd k).weak
 split at k
 .rename_i ip Jt;obtain⟨hgd,c,f,ho,aY,hf⟩:=H9 Jt;split at k
  .cases k
  .rename_i hd;rw[show Region.wanted o (yielded ops a.tmps)=true by simp[Region.wanted,hgd]]
   rw[show iT o.op=tl c.args by simp only[iT,ho]]at k
   exact OL (ok.ip f ip hf).1 (ok.ip f ip hf).2 ah hg hd ho aY k
 split at k
 .split at k
  .exact(nM ok ah hg k).weak
  .rename_i p hp;split at k
   .cases k
   .rename_i hd;exact TJ ok.ti ah hg hd hp k
 .rename_i ip Jt;obtain⟨hgd,c,f,ho,aY,hf⟩:=Md Jt;split at k
  .cases k
  .rename_i hd;rw[show Region.wanted o (yielded ops a.tmps)=true by simp[Region.wanted,hgd]]
   rw[show iT o.op=tl c.args by simp only[iT,ho]]at k
   exact Ti (ok.ip f ip hf).1 (ok.ip f ip hf).2 ah hg hd ho aY k
theorem Dy{P:Program}{E:Env} (ok:dP P E){B:Base}{h0:FH} (hg:aB E.cx.gd h0){ops:Array Oper}{R:Act->World->Prop}{K:St->Prop}:∀(l:List Oper){s:St}{h:FH}{β:List RV}{w:World}{a:Act},Sat E.n B h0 s h β w a ->
 TT E (tl ops) l s K->(∀s' h' β' w' a',K s'->h.le h'->Sat E.n B h0 s' h' β' w' a'->Same (fD l) a a'->R a' w')->TL P ops R l a w
 | [],s,h,β,w,a,ah,k,next=>next _ _ _ _ _ k (FH.le.refl h) ah (Same.refl _ _)
 | o :: r,s,h,β,w,a,ah,k,next=>by
   have:=zk ok ah (hg.mono ah.ok.hle) k (TL P ops R r) CX λs' h' β' w' v k' le aH=>Dy ok hg r aH k' λs2 h2 β2 w2 a2 k2 eX aQ sm=>next s2 h2 β2 w2 a2 k2 (le.trans eX) aQ sm.put
   unfold TL;split
   .rename_i hw;rw[if_pos hw]at this;exact this
   .rename_i hw;rw[if_neg hw]at this;exact this
def Ia(ops:Array Oper) (listed:Array Bool) (i:Nat):List Nat:=
 (List.range ops.size).foldl (λacc j=>if j != i && !listed.getD j true && (match ops[j]? with | some o=>o.after.any (λe=>Region.binds .any e && (e.on == i || acc.contains e.on)) | none=>false) then j :: acc else acc) []
def Ib(ops:Array Oper) (listed:Array Bool) (i:Nat) (bl:List Nat):Bool:=
 (bl.all λj=>!listed.getD j true && (match ops[j]? with | some o=>o.after.any (λe=>Region.binds .any e && (e.on == i || bl.contains e.on)) | none=>false)) &&
 ((List.range ops.size).all λj=>j == i || listed.getD j true || pW ops j || bl.contains j)
theorem wO{listed:Array Bool} (h:Ib ops listed i bl=true):
 Waits .any ops listed i bl/\∀j,j≠i->listed.getD j true=false->pW ops j=false->j∈bl:=by
 simp only[Ib,A8,Ns]at h;refine⟨λj hj=>?_,λj hji hun hs=>?_⟩
 .have h1:=h.1 j hj;simp only[IY]at h1;refine⟨h1.1,?_⟩;cases ho:ops[j]? with
  | none=>rw[ho]at h1;exact absurd h1.2 (by simp)
  | some o=>
    rw[ho]at h1;obtain⟨e,he,hb⟩:=Array.any_eq_true'.1 h1.2;simp only[A8,Ar,qy,A86]at hb;exact⟨o,rfl,e,he,hb.1,hb.2⟩
 .rcases RX j ops.size with gX | hge
  .have h2:=h.2 j (Xg.2 gX);simp only[Ar,qy,hji,hun,hs,A86,Ny,false_or]at h2;exact h2
  .have:ops[j]?=none:=Rq hge;simp[pW,this]at hs
inductive DT where
 | done
 | fl (i:Nat) (t:DT)
 | op (i:Nat) (t:DT)
 | alt (i:Nat) (t m:DT)
inductive OT where
 | done
 | op (o:Oper) (t:OT)
 | alt (o:Oper) (t m:OT)
def DT.alts:DT->List Nat
 | .op i _=>[i]
 | .alt i _ m=>i :: m.alts
 | _=>[]
def xJ(ops:Array Oper) (listed:Array Bool) (i:Nat):Bool:=match ops[i]? with
 | some o=>gV o.op && Region.free .any ops listed i && (Region.ready .any ops listed).contains i && (!isLoad o.op || Ib ops listed i (Ia ops listed i))
 | none=>false
def iC(ops:Array Oper):DT->Bool->Nat->Array Bool->Bool
 | .done,top,n,listed=>top && n == 0 && (Region.ready .any ops listed).isEmpty
 | .fl i t,top,n,listed=>top && n != 0 && xJ ops listed i && iC ops t true (n - 1) (listed.setIfInBounds i true)
 | .op i t,top,n,listed=>(!top || Region.ready .any ops listed == [i]) && n != 0 && (ops[i]?).isSome && iC ops t true (n - 1) (listed.setIfInBounds i true)
 | .alt i t m,top,n,listed=>(!top || Region.ready .any ops listed == i :: m.alts) && n != 0 && (ops[i]?).isSome && iC ops t true (n - 1) (listed.setIfInBounds i true) && iC ops m false n listed
def goT(g:Nat->DT):List Nat->DT
 | []=>.done
 | [i]=>.op i (g i)
 | i :: r=>.alt i (g i) (goT g r)
def Af(ops:Array Oper):Nat->Array Bool->DT
 | 0,_=>.done
 | f+1,listed=>
   let rs:=Region.ready .any ops listed
   match rs.find? (λi=>xJ ops listed i) with
   | some i=>.fl i (Af ops f (listed.setIfInBounds i true))
   | none=>goT (λi=>Af ops f (listed.setIfInBounds i true)) rs
def vW(ops:Array Oper):DT->OT
 | .done=>.done
 | .fl i t=>match ops[i]? with
   | some o=>.op o (vW ops t)
   | none=>.done
 | .op i t=>match ops[i]? with
   | some o=>.op o (vW ops t)
   | none=>.done
 | .alt i t m=>match ops[i]? with
   | some o=>.alt o (vW ops t) (vW ops m)
   | none=>.done
def ofL:List Oper->OT
 | []=>.done
 | o :: l=>.op o (ofL l)
abbrev jR(E:Env) (ops:List Oper):OT->St->(St->Prop)->Prop
 | .done,s,K=>K s
 | .op o t,s,K=>fP E ops o s λs=>jR E ops t s K
 | .alt o t m,s,K=>(fP E ops o s λs=>jR E ops t s K)/\jR E ops m s K
theorem E8{E:Env}{ops:List Oper}{K:St->Prop}:∀(l:List Oper),(λs=>jR E ops (ofL l) s K)=λs=>EZ E ops l s K
 | []=>rfl
 | o :: l=>by
   funext s
   show fP E ops o s (λs=>jR E ops (ofL l) s K)=fP E ops o s λs=>EZ E ops l s K
   rw[E8 l]
theorem MB{ops:List Oper} (l:List Oper) (h:jR E ops (ofL l) s K):EZ E ops l s K:=by
 have:=congrFun (E8 (E:=E) (ops:=ops) (K:=K) l) s;rw[<-this];exact h
def isPure(o:Oper):Bool:=match o.op with
 | .alloc _ | .box .. | .buildSlice .. | .makeSlice .. | .store ..=>false
 | .call c=>(match c.callee with | .value (.func _)=>false | .builtin .append=>false | .builtin .copy=>false | .builtin .min=>false | .builtin .max=>false | _=>true)
 | _=>true
def qQ(ops:Array Oper):Option OT:=
 if ops.all isPure && Region.lexB .any ops then some (ofL ops.toList)
 else
  let t:=Af ops ops.size (Array.replicate ops.size false)
  if Region.noSelect ops && iC ops t true ops.size (Array.replicate ops.size false) then some (vW ops t) else none
section
variable {P:Program}{E:Env}{B:Base}{h0:FH}{s:St}{h:FH}{β:List RV}{w:World}{a:Act}{o:Oper}{ops:Array Oper}{K:St->Prop}
theorem Fa{L:List Nat}{l:List Oper}{g:Option (Nat×Bool)}{K K':Gd->St->Prop} (hk:∀G s,K G s->K' G s) (h:pK L s l g K):pK L s l g K':=by
 unfold pK at *;split at h
 .exact hk _ _ h
 .split at h
  .cases h
  .split at h
   .split at h
    .split at h
     .split at h
      .exact hk _ _ h
      .cases h
     .split at h
      .cases h
      .exact hk _ _ h
    .cases h
   .split at h
    .split at h
     .exact hk _ _ h
     .exact hk _ _ h
    .cases h
theorem zl(hp:isPure o=true) (k:fP E (tl ops) o s K):iP E.n o.dst=true/\pK E.lits s (tl ops) o.guard λG s=>kC E.cx s G o λe=>K (s.put o.dst G e):=by
 unfold fP at k;rw[OW (λt n ps ho=>by simp[isPure,ho]at hp) (λc ho aY=>by simp[isPure,ho,aY]at hp)]at k
 simp only at k;unfold Dx at k;split at k
 .cases k
 rename_i hd;refine⟨hd,?_⟩;have key:∀G s,(match o.op with
  | .alloc t=>CJ E.cx s G o.dst t K
  | .box t x=>SL E.cx s G o.dst t x K
  | .buildSlice t n ps=>jQ E.cx (jZ s (Yc E s G (tl ps))) G o.dst t n (tl ps) K
  | .makeSlice t l c=>Jl E.cx s G o.dst t l c K
  | .store t p x=>match G with
    | []=>match Tv E.cx s o.dst t p x K with
      | some q=>q
      | none=>CO E.cx (jZ s (Pj E s p x)) o.dst t p x K
    | _ :: _=>False
  | .call c=>match c.callee with
    | .value (.func f)=>match hcL E f (tl c.args) with
      | some (ct,xs)=>gu E.cx (λ_=>some ct) s G o.dst f xs K
      | none=>gu E.cx E.ct (jZ s (Ph E s G f (tl c.args))) G o.dst f (tl c.args) K
    | .builtin .append=>match G with
      | []=>match tl c.args with
        | [x,y]=>match tl c.argTypes with
          | [t,t']=>match Nat.beq t t' with
            | true=>match JC s x λs=>qJ E.cx s o.dst t x y K with
              | some q=>q
              | none=>qJ E.cx s o.dst t x y K
            | false=>False
          | _=>False
        | _=>False
      | _ :: _=>False
    | .builtin .copy=>match G with
      | []=>match tl c.args with
        | [x,y]=>match tl c.argTypes with
          | [t,_]=>JD E.cx s o.dst t x y K
          | _=>False
        | _=>False
      | _ :: _=>False
    | .builtin .min=>match G with
      | []=>match tl c.args with
        | [x,y]=>TD E.cx s o.dst x y K
        | _=>False
      | _ :: _=>False
    | .builtin .max=>match G with
      | []=>match tl c.args with
        | [x,y]=>G9 E.cx s o.dst x y K
        | _=>False
      | _ :: _=>False
    | _=>kC E.cx s G o λe=>K (s.put o.dst G e)
  | _=>kC E.cx s G o λe=>K (s.put o.dst G e))->kC E.cx s G o λe=>K (s.put o.dst G e):=by
  intro G s k;split at k
  .rename_i ho;simp[isPure,ho]at hp
  .rename_i ho;simp[isPure,ho]at hp
  .rename_i ho;simp[isPure,ho]at hp
  .rename_i ho;simp[isPure,ho]at hp
  .rename_i ho;simp[isPure,ho]at hp
  .rename_i c ho;split at k
   .rename_i hc;simp[isPure,ho,hc]at hp
   .rename_i hc;simp[isPure,ho,hc]at hp
   .rename_i hc;simp[isPure,ho,hc]at hp
   .rename_i hc;simp[isPure,ho,hc]at hp
   .rename_i hc;simp[isPure,ho,hc]at hp
   .exact k
  .exact k
 exact Fa key k
theorem Pq{x:Callee} (h:(match x with | .builtin .len=>true | _=>false)=true):x=.builtin .len:=by
 split at h
 .rfl
 .cases h
theorem Ic(hf:gV o.op=true):isPure o=true:=by
 cases ho:o.op with
 | call c=>
   rw[ho]at hf;have:c.callee=.builtin .len:=Pq hf;simp[isPure,ho,this]
 | _=>
   rw[ho]at hf
   first
    | (simp[isPure,ho];done)
    | (simp[gV,jO]at hf;done)
theorem lU{x:Op} (hf:gV x=true):quietly x=true:=by
 cases x with
 | call c=>
   have:c.callee=.builtin .len:=Pq hf;simp[quietly,this]
 | _=>
   first
    | rfl
    | (simp[gV,jO]at hf;done)
theorem oz(ok:dP P E) (ah:Sat E.n B h0 s h β w a) (hg:aB E.cx.gd h) (hf:gV o.op=true) (k:fP E (tl ops) o s K):
 ∃v s',YI P ops (isLoad o.op) w o v a/\K s'/\Sat E.n B h0 s' h β w (a.put o.dst v):=by
 obtain⟨hd,k⟩:=zl (Ic hf) k;obtain⟨G,s',k,aH,hw,hG⟩:=qH ah k;obtain⟨e,k1,k2⟩:=Ll ok.ti aH hg hf k;cases hgv:gv s'.gl G with
 | true=>
   obtain⟨v,r,c⟩:=k2 hgv;refine⟨v,_,.inl ⟨by rw[hw];exact hgv,λw' hg'=>?_⟩,k1,aH.put (bQ hd) hG (λ_=>c) λhh=>by rw[hgv]at hh;cases hh⟩
   exact r w' hg'
 | false=>
   exact⟨undef,_,.inr ⟨by rw[hw];exact hgv,rfl⟩,k1,aH.put (bQ hd) hG (λhh=>by rw[hgv]at hh;cases hh) λ_=>rfl⟩
theorem still_step(ok:dP P E) (ah:Sat E.n B h0 s h β w a) (hg:aB E.cx.gd h) (hp:isPure o=true) (k:fP E (tl ops) o s K){Nx:Act->Prop}
 (next:∀v s',K s'->Sat E.n B h0 s' h β w (a.put o.dst v)->Nx (a.put o.dst v)):if Region.wanted o (yielded ops a.tmps) then o.still P a w Nx else Nx (a.put o.dst undef):=by
 obtain⟨hd,k⟩:=zl hp k;obtain⟨G,s',k,aH,hw,hG⟩:=qH ah k;obtain⟨e,k1,k2⟩:=yC ok.ti aH hg k;rw[hw];cases hgv:gv s'.gl G with
 | true=>
   obtain⟨v,r,c⟩:=k2 hgv;rw[if_pos rfl];unfold Oper.still;rw[r,Oper.stillUpon_value];exact next _ _ k1 (aH.put (bQ hd) hG (λ_=>c) λhh=>by rw[hgv]at hh;cases hh)
 | false=>
   rw[if_neg (by simp)]
   exact next _ _ k1 (aH.put (bQ hd) hG (λhh=>by rw[hgv]at hh;cases hh) λ_=>rfl)
theorem Fb(ok:dP P E) (hg:aB E.cx.gd h0){R:Act->Prop}:∀(l:List Oper){s:St}{a:Act},l.all isPure=true->Sat E.n B h0 s h β w a->EZ E (tl ops) l s K ->
 (∀s' a',K s'->Sat E.n B h0 s' h β w a'->Same (fD l) a a'->R a')->wpStill P ops w R l a
 | [],s,a,_,ah,k,next=>next _ _ k ah (Same.refl _ _)
 | o :: r,s,a,hp,ah,k,next=>by
   simp only[List.all_cons,A8]at hp;exact still_step ok ah (hg.mono ah.ok.hle) hp.1 k λv s' k' aH=>Fb ok hg r hp.2 aH k' λs2 a2 k2 aQ sm=>next s2 a2 k2 aQ sm.put
abbrev vX(cx:Cx):List Oper->Bool
 | []=>false
 | o :: l=>match o.op with
   | .call c=>match c.callee with
     | .builtin .len=>match tl c.argTypes with
       | [t]=>match O5 cx t with
         | true=>true
         | false=>vX cx l
       | _=>vX cx l
     | _=>vX cx l
   | .lookup _ _ _ _=>true
   | _=>vX cx l
abbrev stepM(E:Env) (ops:List Oper) (o:Oper) (s:St) (K:St->Prop):Prop:=match o.guard with
 | some _=>fP E ops o s K
 | none=>match Dv E.cx s o.op λe=>K (s.put o.dst [] e) with
   | some p=>match iP E.n o.dst with
     | false=>False
     | true=>p
   | none=>fP E ops o s K
abbrev MC(E:Env) (ops:List Oper):List Oper->St->(St->Prop)->Prop
 | [],s,K=>K s
 | o :: r,s,K=>stepM E ops o s λs=>MC E ops r s K
theorem vY(ok:dP P E) (hg:aB E.cx.gd h0){R:Act->Prop}:∀(l:List Oper){s:St}{a:Act},l.all isPure=true->Sat E.n B h0 s h β w a->MC E (tl ops) l s K ->
 (∀s' a',K s'->Sat E.n B h0 s' h β w a'->Same (fD l) a a'->R a')->wpStill P ops w R l a
 | [],s,a,_,ah,k,next=>next _ _ k ah (Same.refl _ _)
 | o :: r,s,a,hp,ah,k,next=>by
   simp only[List.all_cons,A8]at hp;have old:fP E (tl ops) o s (λs=>MC E (tl ops) r s K)->wpStill P ops w R (o :: r) a:=λk=>
    still_step ok ah (hg.mono ah.ok.hle) hp.1 k λv s' k' aH=>vY ok hg r hp.2 aH k' λs2 a2 k2 aQ sm=>next s2 a2 k2 aQ sm.put
   simp only[MC,stepM]at k;split at k
   .exact old k
   .rename_i hgd;split at k
    .rename_i p hp';split at k
     .cases k
     .rename_i hd;obtain⟨e,v,k1,run,c⟩:=EX ok.ti ah (hg.mono ah.ok.hle) hp' k;unfold wpStill;rw[if_pos (by simp[Region.wanted,hgd])]
      unfold Oper.still;rw[run,Oper.stillUpon_value];exact vY ok hg r hp.2 (ah.put (bQ hd) rfl (λ_=>c) λhh=>by cases hh) k1 λs2 a2 k2 aQ sm=>next s2 a2 k2 aQ sm.put
    .exact old k
def TV(ops:Array Oper):Bool:=ops.all isPure && Region.lexB .any ops
theorem nN{t:Nat}:∀{l:List Oper},dV t (fD l)=true↔∃o∈l,o.dst=some t
 | []=>by simp[fD,dV]
 | o :: l=>by
   cases hd:o.dst with
   | none=>
     have e:fD (o :: l)=fD l:=by simp only[fD,hd]
     rw[e,nN];simp[hd]
   | some d=>
     have e:fD (o :: l)=d :: fD l:=by simp only[fD,hd]
     rw[e,gI,Ar,nN];constructor
     .rintro(h | ⟨o',h1,h2⟩)
      .exact⟨o,by simp,by rw[hd,fC h]⟩
      .exact⟨o',by simp[h1],h2⟩
     .rintro⟨o',h1,h2⟩;rcases iV.1 h1 with rfl | h1
      .rw[hd]at h2;cases h2;exact .inl (Nat.beq_refl _)
      .exact .inr ⟨o',h1,h2⟩
theorem Same.sub{l m:List Oper}{b:Act} (hs:∀o∈l,o∈m) (x:Same (fD l) a b):Same (fD m) a b:=λt h=>x t (by
 cases hh:dV t (fD l) with
 | false=>rfl
 | true=>
   obtain⟨o,h1,h2⟩:=nN.1 hh;rw[nN.2 ⟨o,hs o h1,h2⟩]at h;cases h)
theorem Same.put_mem{ol:List Oper} (ho:o∈ol){b:Act}{v:Value} (x:Same (fD ol) (a.put o.dst v) b):Same (fD ol) a b:=by
 intro t h;rw[x t h];cases hd:o.dst with
 | none=>rfl
 | some d=>
   have hne:d≠t:=by
    rintro rfl;rw[nN.2 ⟨o,ho,hd⟩]at h;cases h
   simp[Act.put,V4 hne]
theorem oC(ok:dP P E) (hg:aB E.cx.gd h0) (hs:Region.noSelect ops=true){R:Act->World->Prop}:∀(t:DT){n:Nat}{listed:Array Bool}{s:St}{h:FH}{β:List RV}{w:World}{a:Act},
 Sat E.n B h0 s h β w a->jR E (tl ops) (vW ops t) s K->(∀s' h' β' w' a',K s'->h.le h'->Sat E.n B h0 s' h' β' w' a'->Same (fD ops.toList) a a'->R a' w') ->
 (iC ops t true n listed=true->anyI P .any ops (pW ops) R n listed a w) /\
 (iC ops t false n listed=true->∀i∈t.alts,qM P ops i (λa' w'=>(pW ops i=true->jf w w')/\anyI P .any ops (pW ops) R (n - 1) (listed.setIfInBounds i true) a' w') a w)
 | .done,n,listed,s,h,β,w,a,ah,k,next=>by
   refine⟨λhc=>?_,λhc=>by simp[iC]at hc⟩
   simp only[iC,I4,A8,qy]at hc;obtain⟨rfl,he⟩:=hc;exact⟨by simpa using he,next _ _ _ _ _ k (FH.le.refl h) ah (Same.refl _ _)⟩
 | .fl i t,n,listed,s,h,β,w,a,ah,k,next=>by
   refine⟨λhc=>?_,λhc=>by simp[iC]at hc⟩
   simp only[iC,I4,A8,Gi,ne_eq]at hc;obtain⟨⟨hn,hb⟩,hc⟩:=hc;obtain⟨n,rfl⟩:∃m,n=m+1:=⟨n - 1,by omega⟩
   unfold xJ at hb;cases hi:ops[i]? with
   | none=>rw[hi]at hb;simp at hb
   | some o=>
     rw[hi]at hb;simp only[A8]at hb;simp only[vW,hi,jR]at k;have kK:o∈ops.toList:=lI (i:=i) (by simpa using hi)
     obtain⟨⟨⟨hf,hfree⟩,hr⟩,hl⟩:=hb;obtain⟨v,s',hy,k',aH⟩:=oz ok ah (hg.mono ah.ok.hle) hf k;have hq:pW ops i=true:=by
      simp only[pW,hi];exact lU hf
     refine sH (bl:=Ia ops listed i) hi (Region.noSelect_spec hs) hq n listed a w (Region.free_spec hi hfree) (λe=>?_) (by simpa using hr) hy (λ_=>jf.refl w)
      ((oC ok hg hs t aH k' λs2 h2 β2 w2 a2 k2 eX aQ sm=>next s2 h2 β2 w2 a2 k2 eX aQ (sm.put_mem kK)).1 hc)
     rw[e]at hl;exact wO (by simpa using hl)
 | .op i t,n,listed,s,h,β,w,a,ah,k,next=>by
   have key:n≠0->(ops[i]?).isSome=true->iC ops t true (n - 1) (listed.setIfInBounds i true)=true->qM P ops i (λa' w'=>(pW ops i=true->jf w w')/\anyI P .any ops (pW ops) R (n - 1) (listed.setIfInBounds i true) a' w') a w:=by
    intro hn hi hc;obtain⟨o,hi⟩:=Xc.1 hi;have kK:o∈ops.toList:=lI (i:=i) (by simpa using hi)
    simp only[vW,hi,jR]at k;unfold qM;simp only[hi];refine nM ok ah (hg.mono ah.ok.hle) k _ CX λs' h' β' w' v k' le vO aH=>⟨λe=>vO (by simpa[pW,hi]using e),?_⟩
    exact(oC ok hg hs t aH k' λs2 h2 β2 w2 a2 k2 eX aQ sm=>next s2 h2 β2 w2 a2 k2 (le.trans eX) aQ (sm.put_mem kK)).1 hc
   refine⟨λhc=>?_,λhc j hj=>?_⟩
   .simp only[iC,KJ,KL,A8,Gi,ne_eq,qy]at hc;obtain⟨⟨⟨hr,hn⟩,hi⟩,hc⟩:=hc;obtain⟨m,rfl⟩:∃m,n=m+1:=⟨n - 1,by omega⟩
    refine⟨λh0=>by rw[hr]at h0;simp at h0,λj hj=>?_⟩
    rw[hr]at hj;simp at hj;subst hj;exact key hn hi hc
   .simp only[iC,KI,Gu,I4,A8,Gi,ne_eq]at hc;simp only[DT.alts,V9]at hj;subst hj;exact key hc.1.1 hc.1.2 hc.2
 | .alt i t m,n,listed,s,h,β,w,a,ah,k,next=>by
   have key:n≠0->(ops[i]?).isSome=true->iC ops t true (n - 1) (listed.setIfInBounds i true)=true->iC ops m false n listed=true ->
    ∀j∈i :: m.alts,qM P ops j (λa' w'=>(pW ops j=true->jf w w')/\anyI P .any ops (pW ops) R (n - 1) (listed.setIfInBounds j true) a' w') a w:=by
    intro hn hi hc hm j hj;obtain⟨o,hi⟩:=Xc.1 hi;have kK:o∈ops.toList:=lI (i:=i) (by simpa using hi)
    simp only[vW,hi,jR]at k;rcases iV.1 hj with rfl | hj
    .unfold qM;simp only[hi];refine nM ok ah (hg.mono ah.ok.hle) k.1 _ CX λs' h' β' w' v k' le vO aH=>⟨λe=>vO (by simpa[pW,hi]using e),?_⟩
     exact(oC ok hg hs t aH k' λs2 h2 β2 w2 a2 k2 eX aQ sm=>next s2 h2 β2 w2 a2 k2 (le.trans eX) aQ (sm.put_mem kK)).1 hc
    .exact(oC ok hg hs m ah k.2 next).2 hm j hj
   refine⟨λhc=>?_,λhc j hj=>?_⟩
   .simp only[iC,KJ,KL,A8,Gi,ne_eq,qy]at hc;obtain⟨⟨⟨⟨hr,hn⟩,hi⟩,hc⟩,hm⟩:=hc;obtain⟨q,rfl⟩:∃m,n=m+1:=⟨n - 1,by omega⟩
    refine⟨λh0=>by rw[hr]at h0;simp at h0,λj hj=>?_⟩
    rw[hr]at hj;exact key hn hi hc hm j hj
   .simp only[iC,KI,Gu,I4,A8,Gi,ne_eq]at hc;exact key hc.1.1.1 hc.1.1.2 hc.1.2 hc.2 j hj
theorem Sat.drawn(ah:Sat E.n B h0 s h β w a) (n:Nat) (hn:w.drawn<=n):Sat E.n B h0 s h β { w with drawn:=n } a where
 ok:=⟨⟨ah.ok.below.os,ah.ok.below.tape,ah.ok.below.output,ah.ok.below.size,ah.ok.below.block⟩,nV ah.ok.dr hn,ah.ok.len,λi r v h1 h2=>by
  have:=ah.ok.holds i r v h1 h2;cases r<;>cases v<;>exact this,ah.ok.own,ah.ok.inj,ah.ok.hle,ah.ok.hw,ah.ok.hg,ah.ok.kn⟩
 env:=ah.env
 gs:=ah.gs
 defers:=ah.defers
 sz:=ah.sz
 gb:=ah.gb
 gT:=ah.gT
theorem JO(ok:dP P E) (hg:aB E.cx.gd h0){ol:OT} (ho:qQ ops=some ol) (ah:Sat E.n B h0 s h β w a) (k:jR E (tl ops) ol s K) (hF:Wd F) (hn:wX ops.toList=true)
 (next:∀s' h' β' w' a',K s'->h.le h'->Sat E.n B h0 s' h' β' w' a'->Same (fD (tl ops)) a a'->Q .normal a' w'):(Code.region id ops true).wpIn F n P Q a w:=by
 unfold qQ at ho;have et:tl ops=ops.toList:=by cases ops;rfl
 split at ho
 .rename_i hp;cases ho;simp only[A8]at hp;refine uN hF hn ok.mixed hp.2 (Fb ok hg ops.toList (by simpa using hp.1) (ah.drawn _ (I5 _)) (MB _ k) λs' a' k' aH sm=>next _ _ _ _ _ k' (FH.le.refl h) aH (by rw[et];exact sm))
 .simp only at ho;split at ho
  .rename_i hp;cases ho;simp only[A8,qy]at hp;refine wpIn_region_any ok.mixed (xH (sf:=pW ops) (R:=λa w=>Q .normal a w) hF hn (λ_ _ hh=>hh) _ _ _ _ ?_)
   exact(oC ok hg hp.1 (R:=λa w=>Q .normal a w) (Af ops ops.size (Array.replicate ops.size false)) (ah.drawn (w.drawn+1) (I5 _)) k λs' h' β' w' a' k' le aH sm=>next _ _ _ _ _ k' le aH (by rw[et];exact sm)).1 hp.2
  .cases ho
end
def zn(o:Oper) (p:Nat->Bool):Bool:=o.after.all λe=>!Region.binds .any e || p e.on
theorem qj{p:Nat->Bool} (h:zn o p=true):∀e∈o.after,Region.binds .any e=true->p e.on=true:=by
 intro e he hb;simp only[zn,Array.all_eq_true']at h;have:=h e he;rw[hb]at this;simpa using this
def Dz(o:Oper) (p:Nat->Bool):Bool:=o.after.any λe=>Region.binds .any e && p e.on
theorem ql{p:Nat->Bool} (h:Dz o p=true):∃e∈o.after,Region.binds .any e=true/\p e.on=true:=by
 obtain⟨e,he,hb⟩:=Array.any_eq_true'.1 h;simp only[A8]at hb;exact⟨e,he,hb.1,hb.2⟩
def TW(ops:Array Oper) (l0:Array Bool) (i di:Nat) (t:TypeId):Bool:=match ops[i]? with
 | some o=>(match o.guard with | none=>true | some _=>false) && o.dst == some di && (match o.op with | .buildSlice t' n ps=>t' == t && n == 0 && ps.size == 0 | _=>false) && zn o (λk=>l0.getD k false) && !l0.getD i true
 | none=>false
theorem MF{l0:Array Bool}{di:Nat} (h:TW ops l0 i di t=true):
 (∃o,ops[i]?=some o/\o.guard=none/\o.dst=some di/\o.op=.buildSlice t 0 #[]/\∀e∈o.after,Region.binds .any e=true->l0.getD e.on false=true)/\l0.getD i true=false:=by
 unfold TW at h;split at h
 .rename_i o ho;simp only[A8,qy,IY]at h;obtain⟨⟨⟨⟨h1,h2⟩,h3⟩,h4⟩,h5⟩:=h;refine⟨⟨o,ho,?_,h2,?_,qj h4⟩,h5⟩
  .split at h1
   .assumption
   .cases h1
  .split at h3
   .rename_i t' n ps hop;simp only[A8,qy]at h3;obtain⟨⟨e1,e2⟩,e3⟩:=h3;rw[hop,e1,e2,Array.eq_empty_of_size_eq_zero e3]
   .cases h3
 .cases h
def Fe(ops:Array Oper) (j:Nat):Bool:=match ops[j]? with
 | some o=>match o.op with
   | .call k=>match k.callee with
     | .builtin .append=>match k.args with
       | ⟨.tmp di :: _⟩=>ops.any λp=>p.dst == some di && (match p.op with | .buildSlice _ n ps=>n == 0 && ps.size == 0 | _=>false)
       | _=>false
     | _=>false
   | _=>false
 | none=>false
def JQ(ops:Array Oper) (i:Nat):Bool:=pW ops i || Fe ops i
def Ie(ops:Array Oper) (listed:Array Bool) (i:Nat) (bl:List Nat):Bool:=
 (bl.all λj=>!listed.getD j true && (match ops[j]? with | some o=>o.after.any (λe=>Region.binds .any e && (e.on == i || bl.contains e.on)) | none=>false)) &&
 ((List.range ops.size).all λj=>j == i || listed.getD j true || JQ ops j || bl.contains j)
theorem Fg{listed:Array Bool} (h:Ie ops listed i bl=true):
 Waits .any ops listed i bl/\∀j,j≠i->listed.getD j true=false->JQ ops j=false->j∈bl:=by
 simp only[Ie,A8,Ns]at h;refine⟨λj hj=>?_,λj hji hun hs=>?_⟩
 .have h1:=h.1 j hj;simp only[IY]at h1;refine⟨h1.1,?_⟩;cases ho:ops[j]? with
  | none=>rw[ho]at h1;exact absurd h1.2 (by simp)
  | some o=>
    rw[ho]at h1;obtain⟨e,he,hb⟩:=Array.any_eq_true'.1 h1.2;simp only[A8,Ar,qy,A86]at hb;exact⟨o,rfl,e,he,hb.1,hb.2⟩
 .rcases RX j ops.size with gX | hge
  .have h2:=h.2 j (Xg.2 gX);simp only[Ar,qy,hji,hun,hs,A86,Ny,false_or]at h2;exact h2
  .have:ops[j]?=none:=Rq hge;simp[JQ,pW,this]at hs
def DC(ops:Array Oper) (listed:Array Bool) (i:Nat):Bool:=match ops[i]? with
 | some o=>gV o.op && Region.free .any ops listed i && (Region.ready .any ops listed).contains i && (!isLoad o.op || Ie ops listed i (Ia ops listed i))
 | none=>false
def Yj(ops:Array Oper) (l0:Array Bool) (j:Nat):Option Ch:=match ops[j]? with
 | some o=>match o.guard with
   | none=>match o.dst with
     | some dj=>match o.op with
       | .call k=>match k.callee with
         | .builtin .append=>match k.args with
           | ⟨[.tmp di,y]⟩=>match k.argTypes with
             | ⟨[t,t']⟩=>match(List.range ops.size).find? (λi=>TW ops l0 i di t) with
               | some i=>if t' == t && Dz o (λn=>n == i) && zn o (λn=>n == i || l0.getD n false || (Nat.blt n j && Fe ops n)) && !l0.getD j true && TW ops l0 i di t then some ⟨i,j,t,di,dj,y⟩ else none
               | none=>none
             | _=>none
           | _=>none
         | _=>none
       | _=>none
     | none=>none
   | some _=>none
 | none=>none
theorem MG{l0:Array Bool}{j:Nat}{c:Ch} (h:Yj ops l0 j=some c):X7 ops (Fe ops) l0 c:=by
 unfold Yj at h;split at h
 .rename_i o ho;split at h
  .rename_i hg;split at h
   .rename_i dj hdj;split at h
    .rename_i k hk;split at h
     .rename_i aY;split at h
      .rename_i di y hargs;split at h
       .rename_i t t' hts;split at h
        .rename_i i hi;split at h
         .rename_i hc;cases h;simp only[A8,qy,IY]at hc;obtain⟨⟨⟨⟨c1,c2⟩,c3⟩,c4⟩,c5⟩:=hc;obtain⟨b1,b2⟩:=MF c5;refine⟨b1,⟨o,k,ho,hg,hdj,hk,aY,hargs,by rw[hts,c1],?_,λe he hb=>?_⟩,b2,c4⟩
          .obtain⟨e,he,hb,hm⟩:=ql c2;exact⟨e,he,hb,by simpa using hm⟩
          .have:=qj c3 e he hb;simp only[Ar,qy,A8,Nat.blt_eq]at this;rcases this with(h | h) | h
           .exact .inl h
           .exact .inr (.inl h)
           .exact .inr (.inr h)
         .cases h
        .cases h
       .cases h
      .cases h
     .cases h
    .cases h
   .cases h
  .cases h
 .cases h
def Yk(ops:Array Oper) (l0:Array Bool) (i:Nat):Option (Nat×Nat×TypeId):=match ops[i]? with
 | some o=>match o.guard with
   | none=>match o.dst with
     | some d=>match o.op with
       | .alloc t=>if zn o (λk=>l0.getD k false) && !l0.getD i true then some (i,d,t) else none
       | _=>none
     | none=>none
   | some _=>none
 | none=>none
theorem MH{l0:Array Bool}{j:Nat}{q:Nat×Nat×TypeId} (h:Yk ops l0 j=some q):AlT ops l0 q.1 q.2.1 q.2.2:=by
 unfold Yk at h;split at h
 .rename_i o ho;split at h
  .rename_i hg;split at h
   .rename_i d hd;split at h
    .rename_i t ht;split at h
     .rename_i hc;cases h;simp only[A8,IY]at hc;exact⟨⟨o,ho,hg,hd,ht,qj hc.1⟩,hc.2⟩
     .cases h
    .cases h
   .cases h
  .cases h
 .cases h
def flG(ops:Array Oper):Nat->Array Bool->List Nat
 | 0,_=>[]
 | f+1,listed=>match(Region.ready .any ops listed).find? (λi=>DC ops listed i) with
   | some i=>i :: flG ops f (listed.setIfInBounds i true)
   | none=>[]
def TY(ops:Array Oper):List Nat->Array Bool->Bool
 | [],_=>true
 | i :: l,listed=>DC ops listed i && TY ops l (listed.setIfInBounds i true)
def Ua:List Nat->Array Bool->Array Bool
 | [],listed=>listed
 | i :: l,listed=>Ua l (listed.setIfInBounds i true)
def opF(ops:Array Oper):List Nat->List Oper
 | []=>[]
 | i :: l=>match ops[i]? with
   | some o=>o :: opF ops l
   | none=>opF ops l
def nodupB:List Nat->Bool
 | []=>true
 | x :: l=>!l.contains x && nodupB l
theorem qm:∀{l:List Nat},nodupB l=true->l.Nodup
 | [],_=>List.nodup_nil
 | x :: l,h=>by
   simp only[nodupB,A8,IY,List.contains_eq_mem,qx]at h;exact Ry.2 ⟨h.1,qm h.2⟩
structure MT where
 fl:List Oper
 ch:List Ch
 al:List (Nat×TypeId)
 tA:OT
 tB:OT
def Ym(ops:Array Oper) (l0:Array Bool):List Ch:=(List.range ops.size).filterMap (Yj ops l0)
def Yn(ops:Array Oper) (l0:Array Bool):List (Nat×Nat×TypeId):=(List.range ops.size).filterMap (Yk ops l0)
def adL(o:Oper):Bool:=match o.op with
 | .buildSlice _ 0 _=>true
 | _=>false
def blB(ops:Array Oper) (l0:Array Bool) (js mk bl:List Nat):Bool:=
 ((List.range ops.size).all λk=>l0.getD k true || mk.contains k || bl.contains k) &&
 bl.all λk=>!mk.contains k && !l0.getD k true && (match ops[k]? with
  | some o=>(js.all λj=>Dz o λn=>n == j) || Dz o λn=>bl.contains n
  | none=>false)
def JR(ops:Array Oper):Option MT:=
 if 3<=(ops.toList.filter adL).length then
  let l:=Array.replicate ops.size false
  let fl:=flG ops ops.size l
  let l0:=Ua fl l
  let ch:=Ym ops l0
  let al:=Yn ops l0
  let mc:=ch.flatMap λc=>[c.i,c.j]
  let ma:=al.map λq=>q.1
  let bl:=(List.range ops.size).filter λk=>!l0.getD k true && !(mc++ma).contains k
  let nB:=ops.size - fl.length - mc.length
  let tA:=Af ops (nB - ma.length) (bZ (mc++ma) l0)
  let tB:=Af ops nB (bZ mc l0)
  if Region.noSelect ops && TY ops fl l && ((List.range ops.size).all λj=>!Fe ops j || ch.any λc=>c.j == j) && nodupB (mc++ma) && nodupB ((ch.flatMap λc=>[c.di,c.dj])++al.map λq=>q.2.1) && blB ops l0 (ch.map λc=>c.j) (mc++ma) bl && Nat.ble al.length 1 &&
   Nat.ble (fl.length+(mc++ma).length) ops.size && Nat.ble 1 ch.length && iC ops tA true (nB - ma.length) (bZ (mc++ma) l0) && iC ops tB true nB (bZ mc l0)
  then some ⟨opF ops fl,ch,al.map λq=>q.2,vW ops tA,vW ops tB⟩ else none
 else none
abbrev JU(E:Env) (s0:St):List Ch->St->(St->Prop)->Prop
 | [],s,K=>K s
 | c :: r,s,K=>eG E.cx c.t λel ie sh=>match dZ s0.env c.di with
   | some _=>False
   | none=>match dZ s0.env c.dj with
     | some _=>False
     | none=>match bJ (iP E.n (some c.di)) (iP E.n (some c.dj)) with
       | false=>False
       | true=>match bf E.cx s0 [] c.y with
         | some (.one v)=>match CQ s0 sh v with
           | some l=>jK (aC l) ie.bytes/\JU E s0 r (X5 s c.dj el sh l) K
           | none=>False
         | _=>False
abbrev Pv(E:Env) (ops:List Oper) (m:MT) (s:St) (K:St->Prop):Prop:=EZ E ops m.fl s λs=>JU E s m.ch s λs'=>match m.al with
 | []=>jR E ops m.tB s' K
 | (d,t) :: _=>match lG E.cx.ti t with
   | none=>False
   | some i=>match dZ s.env d with
     | some _=>False
     | none=>match iP E.n (some d) with
       | false=>False
       | true=>jR E ops m.tA (alS s' d (oh E.cx.cz t i)) K/\jR E ops m.tB s' K
section
variable {P:Program}{E:Env}{B:Base}{h0:FH}{s s0:St}{h:FH}{β:List RV}{w:World}{a:Act}{o:Oper}{ops:Array Oper}{K:St->Prop}{l0:Array Bool}
theorem Fh{cp:Nat->Bool} (hc:bG P E.cx.ti):∀{ch:List Ch}{s:St},(∀c∈ch,X7 ops cp l0 c)->JU E s0 ch s K->∃xs:List CD,(xs.map λx=>x.c)=ch/\(∀x∈xs,TK P E.cx ops s0 x/\x.c.di < E.n/\x.c.dj < E.n)/\K (wM xs s)
 | [],s,_,k=>⟨[],rfl,λx hx=>(by cases hx),k⟩
 | c :: r,s,ct,k=>by
   unfold JU eG at k;split at k
   .rename_i el hde;have hu:=aV hc hde (by simp)
    split at k
    .cases k
    rename_i ie hie;have tie:=hc.get hie;split at k
    .cases k
    rename_i sh hsh;split at k
    .rename_i hz;rw[au,au,A8,A8]at hz;split at k
     .cases k
     rename_i hdi;split at k
     .cases k
     rename_i hdj;split at k
     .cases k
     rename_i hdo;rw[au,A8]at hdo;split at k
     .rename_i v hv;split at k
      .rename_i l hl;obtain⟨xs,x1,x2,x3⟩:=Fh hc (λc hc=>ct c (by simp[hc])) k.2
       have t:=ct c (by simp)
       refine⟨⟨c,el,ie,sh,l⟩ :: xs,by simp[x1],λx hx=>?_,x3⟩
       rcases iV.1 hx with rfl | hx
       .refine⟨⟨?_,?_,hu,tie,fC hz.1,kM hz.2.1,kM hz.2.2,⟨v,hv,hl⟩,by rw[<-aK];exact k.1,hdi,hdj⟩,bQ hdo.1 _ rfl,bQ hdo.2 _ rfl⟩
        .obtain⟨o,b1,b2,b3,b4,_⟩:=t.bs;exact⟨o,b1,b2,b3,b4⟩
        .obtain⟨o,q,b1,b2,b3,b4,b5,b6,b7,b8,_⟩:=t.ap;exact⟨o,q,b1,b2,b3,b4,b5,b6,b7,b8⟩
       .exact x2 x hx
      .cases k
     .cases k
    .cases k
   .cases k
theorem JV(ok:dP P E) (hg:aB E.cx.gd h0) (hs:Region.noSelect ops=true){R:Act->World->Prop}{n:Nat}:∀(l:List Nat){listed:Array Bool}{s:St}{a:Act},TY ops l listed=true->Sat E.n B h0 s h β w a ->
 EZ E (tl ops) (opF ops l) s K->(∀s' a',K s'->Sat E.n B h0 s' h β w a'->Same (fD ops.toList) a a'->anyI P .any ops (JQ ops) R n (Ua l listed) a' w)->anyI P .any ops (JQ ops) R (l.length+n) listed a w
 | [],listed,s,a,_,ah,k,next=>by
   rw[Rx,xw];exact next s a k ah (Same.refl _ _)
 | i :: l,listed,s,a,hc,ah,k,next=>by
   simp only[TY,A8]at hc;obtain⟨hb,hc⟩:=hc;unfold DC at hb;cases hi:ops[i]? with
   | none=>rw[hi]at hb;simp at hb
   | some o=>
     rw[hi]at hb;simp only[A8]at hb;simp only[opF,hi,EZ]at k;have kK:o∈ops.toList:=lI (i:=i) (by simpa using hi)
     obtain⟨⟨⟨hf,hfree⟩,hr⟩,hl⟩:=hb;obtain⟨v,s',hy,k',aH⟩:=oz ok ah (hg.mono ah.ok.hle) hf k;have hq:JQ ops i=true:=by
      simp only[JQ,pW,hi,lU hf,Gu]
     have e1:(i :: l).length+n=(l.length+n)+1:=by simp;omega
     rw[e1];refine sH (bl:=Ia ops listed i) hi (Region.noSelect_spec hs) hq (l.length+n) listed a w (Region.free_spec hi hfree) (λe=>?_) (by simpa using hr) hy (λ_=>jf.refl w)
      (JV ok hg hs l hc aH k' λs2 a2 k2 aQ sm=>next s2 a2 k2 aQ (sm.put_mem kK))
     rw[e]at hl;exact Fg (by simpa using hl)
theorem Ig{f g:CD->Nat}:∀{xs:List CD},(xs.flatMap λx=>[f x,g x]).Nodup->(∀x∈xs,f x≠g x)/\∀x∈xs,∀y∈xs,x≠y->f x≠f y/\f x≠g y/\g x≠f y/\g x≠g y
 | [],_=>⟨λx hx=>(by cases hx),λx hx=>(by cases hx)⟩
 | z :: r,nd=>by
   simp only[List.flatMap_cons,List.cons_append,IZ,Ry,iV,not_or,List.mem_flatMap,List.not_mem_nil,or_false,not_exists,not_and]at nd;obtain⟨⟨n1,n2⟩,n3,n4⟩:=nd;obtain⟨i1,i2⟩:=Ig n4;refine⟨λx hx=>?_,λx hx y hy hne=>?_⟩
   .rcases iV.1 hx with rfl | hx
    .exact n1
    .exact i1 x hx
   .rcases iV.1 hx with rfl | hx1<;>rcases iV.1 hy with rfl | hy1
    .exact absurd rfl hne
    .obtain⟨a1,a2⟩:=n2 y hy1;obtain⟨b1,b2⟩:=n3 y hy1;exact⟨a1,a2,b1,b2⟩
    .obtain⟨a1,a2⟩:=n2 x hx1;obtain⟨b1,b2⟩:=n3 x hx1;exact⟨Ne.symm a1,Ne.symm b1,Ne.symm a2,Ne.symm b2⟩
    .exact i2 x hx1 y hy1 hne
theorem Fj{xs:List CD}{al:List Al} (h:blB ops l0 (xs.map λx=>x.c.j) (qg xs al) bl=true):BlT ops l0 xs al bl:=by
 simp only[blB,A8,Ns,Ar,List.contains_eq_mem,jB,IY,qx,Xg]at h;obtain⟨h1,h2⟩:=h;refine⟨λk o hk hu=>?_,λk hk=>?_⟩
 .rcases h1 k (xk.1 hk).1 with(h3 | h3) | h3
  .rw[hu]at h3;cases h3
  .exact .inl h3
  .exact .inr h3
 .obtain⟨⟨h3,h4⟩,h5⟩:=h2 k hk;refine⟨h3,h4,?_⟩;split at h5
  .rename_i o ho;refine⟨o,ho,?_⟩;simp only[Ar,Ns]at h5;rcases h5 with h5 | h5
   .refine .inl λx hx=>?_
    obtain⟨e,he,hb,hm⟩:=ql (h5 x.c.j (Nw.2 ⟨x,hx,rfl⟩));exact⟨e,he,hb,by simpa using hm⟩
   .obtain⟨e,he,hb,hm⟩:=ql h5;exact .inr ⟨e,he,hb,by simpa[List.contains_eq_mem]using hm⟩
  .cases h5
theorem Px{xs:List CD}{al:List Al} (n1:(qg xs al).Nodup) (n2:((xs.flatMap λx=>[x.c.di,x.c.dj])++al.map λq=>q.d).Nodup) (ha:al.length<=1):WG xs al:=by
 obtain⟨a1,a2,a3⟩:=List.nodup_append.1 n1;obtain⟨b1,b2,b3⟩:=List.nodup_append.1 n2;obtain⟨c1,c2⟩:=Ig (f:=λx=>x.c.i) (g:=λx=>x.c.j) a1
 obtain⟨d1,d2⟩:=Ig (f:=λx=>x.c.di) (g:=λx=>x.c.dj) b1
 refine⟨λx hx=>⟨c1 x hx,d1 x hx⟩,λx hx y hy hne=>?_,λx hx q hq=>?_,λp hp q hq hne=>?_⟩
 .obtain⟨e1,e2,e3,e4⟩:=c2 x hx y hy hne;obtain⟨f1,f2,f3,f4⟩:=d2 x hx y hy hne;exact⟨⟨e1,e2,e3,e4⟩,f1,f2,f3,f4⟩
 .have m1:∀k,k=x.c.i\/k=x.c.j->k∈xs.flatMap λx=>[x.c.i,x.c.j]:=λk hk=>List.mem_flatMap.2 ⟨x,hx,by simpa using hk⟩
  have m2:∀k,k=x.c.di\/k=x.c.dj->k∈xs.flatMap λx=>[x.c.di,x.c.dj]:=λk hk=>List.mem_flatMap.2 ⟨x,hx,by simpa using hk⟩
  have m3:q.i∈al.map λq=>q.i:=Nw.2 ⟨q,hq,rfl⟩
  have m4:q.d∈al.map λq=>q.d:=Nw.2 ⟨q,hq,rfl⟩
  exact⟨⟨a3 _ (m1 _ (.inl rfl)) _ m3,a3 _ (m1 _ (.inr rfl)) _ m3⟩,b3 _ (m2 _ (.inl rfl)) _ m4,b3 _ (m2 _ (.inr rfl)) _ m4⟩
 .exfalso
  match al,ha with
  | [],_=>cases hp
  | [z],_=>
    simp at hp hq;exact hne (hp.trans hq.symm)
  | _ :: _ :: _,ha=>simp at ha
theorem zo:∀{xs:List CD},(xs.flatMap λx=>[x.c.i,x.c.j]).Nodup->(xs.map λx=>x.c.j).Nodup
 | [],_=>List.nodup_nil
 | x :: r,h1=>by
   simp only[List.flatMap_cons,List.cons_append,IZ,Ry,iV,not_or,List.mem_flatMap,List.not_mem_nil,or_false,not_exists,not_and]at h1;obtain⟨_,h2,h3⟩:=h1;simp only[Eb,Ry,Nw,not_exists,not_and];exact⟨λy hy e=>(h2 y hy).2 e.symm,zo h3⟩
theorem Ub(ok:dP P E) (hg:aB E.cx.gd h0){m:MT} (ho:JR ops=some m) (ah:Sat E.n B h0 s h β w a) (k:Pv E (tl ops) m s K) (hF:Wd F) (hn:wX ops.toList=true)
 (next:∀s' h' β' w' a',K s'->h.le h'->Sat E.n B h0 s' h' β' w' a'->Same (fD (tl ops)) a a'->Q .normal a' w'):(Code.region id ops true).wpIn F n P Q a w:=by
 have et:tl ops=ops.toList:=by cases ops;rfl
 rw[et]at next
 unfold JR at ho;split at ho
 case isFalse=>cases ho
 simp only at ho;split at ho
 case isFalse=>cases ho
 rename_i hc;cases ho;simp only[A8]at hc;obtain⟨⟨⟨⟨⟨⟨⟨⟨⟨⟨hs,hf⟩,hcp⟩,n1⟩,n2⟩,hb⟩,ha⟩,hle⟩,hch⟩,tA⟩,tB⟩:=hc;have n1:=qm n1;have n2:=qm n2;have ha:=kM ha;have hle:=kM hle;have hch:=kM hch;refine wpIn_region_any ok.mixed (xH (sf:=JQ ops) (R:=λa w=>Q .normal a w) hF hn (λ_ _ hh=>hh) _ _ _ _ ?_)
 generalize hfl:flG ops ops.size (Array.replicate ops.size false)=fl at *;generalize hl0:Ua fl (Array.replicate ops.size false)=l0 at *;have ct:∀c∈Ym ops l0,X7 ops (Fe ops) l0 c:=λc hc=>by
  obtain⟨j,_,hj⟩:=List.mem_filterMap.1 hc;exact MG hj
 have at1:∀q∈Yn ops l0,AlT ops l0 q.1 q.2.1 q.2.2:=λq hq=>by
  obtain⟨j,_,hj⟩:=List.mem_filterMap.1 hq;exact MH hj
 generalize Ym ops l0=ch at *;generalize hal0:Yn ops l0=al0 at *;generalize hgA:Af ops (ops.size - fl.length - (ch.flatMap λc=>[c.i,c.j]).length - (al0.map λq=>q.1).length) _=gA at *
 generalize hgB:Af ops (ops.size - fl.length - (ch.flatMap λc=>[c.i,c.j]).length) _=gB at *
 obtain⟨rs,hrs⟩:∃rs,ops.size=fl.length+rs:=⟨ops.size - fl.length,by omega⟩
 refine Eq.mpr (qV (λz=>anyI P .any ops (JQ ops) (λa w=>Q .normal a w) z (Array.replicate ops.size false) a { w with drawn:=w.drawn+1 }) hrs) ?_
 unfold Pv at k;refine JV ok hg hs fl hf (ah.drawn (w.drawn+1) (I5 _)) k λs1 a1 k1 eH sm1=>?_
 rw[hl0];generalize ({ w with drawn:=w.drawn+1 }:World)=w1 at eH ⊢
 obtain⟨xs,rfl,co,k2⟩:=Fh ok.ti ct k1;have ct:∀x∈xs,X7 ops (Fe ops) l0 x.c:=λx hx=>ct x.c (Nw.2 ⟨x,hx,rfl⟩)
 have mo:∀{i:Nat}{o:Oper}{d:Nat},ops[i]?=some o->o.dst=some d->dV d (fD ops.toList)=true:=λ{i o d} h1 h2=>nN.2 ⟨o,lI (i:=i) (by simpa using h1),h2⟩
 have hD:∀x∈xs,dV x.c.di (fD ops.toList)=true/\dV x.c.dj (fD ops.toList)=true:=λx hx=>by
  obtain⟨o,o1,_,o2,_⟩:=(ct x hx).bs;obtain⟨p,q,p1,_,p2,_⟩:=(ct x hx).ap;exact⟨mo o1 o2,mo p1 p2⟩
 have hx0:∃x∈xs,x.c.j∉([]:List Nat):=by
  cases xs with
  | nil=>simp at hch
  | cons x r=>exact⟨x,by simp,by simp⟩
 have em:(List.map (λx=>x.c) xs).flatMap (λc=>[c.i,c.j])=xs.flatMap λx=>[x.c.i,x.c.j]:=by rw[List.flatMap_map]
 have ed:(List.map (λx=>x.c) xs).flatMap (λc=>[c.di,c.dj])=xs.flatMap λx=>[x.c.di,x.c.dj]:=by rw[List.flatMap_map]
 have ej:(List.map (λx=>x.c) xs).map (λc=>c.j)=xs.map λx=>x.c.j:=by rw[List.map_map];rfl
 rw[em]at n1 hb hle tA tB;rw[ed]at n2;rw[ej]at hb;have Yo:∀j,Fe ops j=true->∃x∈xs,x.c.j=j:=λj hj=>by
  simp only[Ns,Xg,Ar,IY,List.any_eq_true,qy]at hcp;have gX:j < ops.size:=by
   rcases RX j ops.size with h | h
   .exact h
   .simp[Fe,Rq h]at hj
  rcases hcp j gX with h | ⟨c,hc,e⟩
  .rw[hj]at h;cases h
  .obtain⟨x,hx,rfl⟩:=Nw.1 hc;exact⟨x,hx,e⟩
 have Py:∀{d:List Nat} (i:Nat),(bZ d l0).getD i true=false->JQ ops i=true->(∀k,(∃x∈xs,k∈[x.c.i,x.c.j])->k∈d)->pW ops i=true:=λ{d} i hi hsi hd=>by
  simp only[JQ,Ar]at hsi;rcases hsi with h | h
  .exact h
  .obtain⟨x,hx,e⟩:=Yo i h;exact absurd (hd i ⟨x,hx,by simp[e]⟩) (yU hi).2
 have WJ:∀{β':List RV}{a':Act}{w':World}{L:Array Bool},Sat E.n B h0 (wM xs s1) h β' w' a'->Same (fD ops.toList) a1 a'->jR E (tl ops) (vW ops gB) (wM xs s1) K->L=bZ (xs.flatMap λx=>[x.c.i,x.c.j]) l0 ->
  anyI P .any ops (JQ ops) (λa w=>Q .normal a w) (ops.size - fl.length - (xs.flatMap λx=>[x.c.i,x.c.j]).length) L a' w':=by
  intro β' a' w' L aH sm' k' hL;rw[hL];refine Dp _ _ _ _ (λi hi hsi=>Py i hi hsi (λk hk=>List.mem_flatMap.2 hk)) ?_
  exact(oC ok hg hs gB aH k' λs2 h2 β2 w2 a2 k2 eX aQ o9=>next s2 h2 β2 w2 a2 k2 eX aQ ((sm1.trans sm').trans o9)).1 tB
 match al0,ha with
 | [],_=>
   simp only[List.map_nil,KE]at *;have nd:(qg xs []).Nodup:=by simpa[qg]using n1
   have o8:WG xs []:=Px nd (by simpa using n2) (by simp)
   have bt:BlT ops l0 xs [] _:=Fj (xs:=xs) (al:=[]) (by simpa[qg]using hb)
   have e1:rs=(qg xs []).length+(ops.size - fl.length - (xs.flatMap λx=>[x.c.i,x.c.j]).length):=by simp[qg];simp at hle;omega
   rw[e1];refine ET Yo (al:=[]) (a0:=a1) (D:=fD ops.toList) (l0:=l0) (sf:=JQ ops) (cz:=false) (hg.mono eH.ok.hle) o8 ct co (λq hq=>by cases hq) bt nd hD (λq hq=>by cases hq) (λdone m a' w' dn sub len j sm hd=>?_)
    (qg xs []).length [] a1 w1 List.nodup_nil (λk hk=>by cases hk) (by simp) (Jm.start eH ct λq hq=>by cases hq) (Same.refl _ _) hx0
   obtain⟨β',aH,_⟩:=j.fin o8 (zo (List.nodup_append.1 nd).1) ct (λq hq=>by cases hq) (λx hx=>(co x hx).2.2) hd
   have hsub:∀k∈qg xs [],k∈done:=λk hk=>by
    rcases Dq.1 hk with⟨x,hx,rfl | rfl⟩ | ⟨q,hq,_⟩
    .exact(hd x hx).1
    .exact(hd x hx).2
    .cases hq
   have:=List.Nodup.length_le_of_subset nd hsub;have hm:m=0:=by omega
   subst hm;rw[xw];exact WJ aH sm k2 (qc λk=>⟨λhk=>by simpa[qg]using sub k hk,λhk=>hsub k (by simpa[qg]using hk)⟩)
 | [q],_=>
   simp only[Eb,List.map_nil]at *;split at k2
   .cases k2
   rename_i ti hti;split at k2
   .cases k2
   rename_i hfr;split at k2
   .cases k2
   rename_i hdq;have hal:=at1 q (by simp)
   have nd:(qg xs [⟨q.1,q.2.1,q.2.2,ti⟩]).Nodup:=by simpa[qg]using n1
   have o8:WG xs [⟨q.1,q.2.1,q.2.2,ti⟩]:=Px nd (by simpa using n2) (by simp)
   have bt:BlT ops l0 xs [⟨q.1,q.2.1,q.2.2,ti⟩] _:=Fj (xs:=xs) (al:=[⟨q.1,q.2.1,q.2.2,ti⟩]) (by simpa[qg]using hb)
   have e1:rs=(qg xs [⟨q.1,q.2.1,q.2.2,ti⟩]).length+(ops.size - fl.length - (xs.flatMap λx=>[x.c.i,x.c.j]).length - 1):=by
    simp only[qg,jA,Eb,List.map_nil,Aq,Rx]at hle ⊢;omega
   have eB:1+(ops.size - fl.length - (xs.flatMap λx=>[x.c.i,x.c.j]).length - 1)=ops.size - fl.length - (xs.flatMap λx=>[x.c.i,x.c.j]).length:=by
    simp only[jA,Aq,Rx]at hle;omega
   have hAl:∀p∈[(⟨q.1,q.2.1,q.2.2,ti⟩:Al)],AlT ops l0 p.i p.d p.t/\aS P p.t p.ti/\p.d < E.n/\dZ s1.env p.d=none:=λp hp=>by
    rw[V9]at hp;subst hp;exact⟨hal,ok.ti.get hti,bQ hdq _ rfl,hfr⟩
   rw[e1];refine ET Yo (al:=[⟨q.1,q.2.1,q.2.2,ti⟩]) (a0:=a1) (D:=fD ops.toList) (l0:=l0) (sf:=JQ ops) (cz:=E.cx.cz) (hg.mono eH.ok.hle) o8 ct co hAl bt nd hD (λp hp=>by
    rw[V9]at hp;subst hp;obtain⟨o,o1,_,o2,_⟩:=hal.op;exact mo o1 o2) (λdone m a' w' dn sub len j sm hd=>?_)
    (qg xs [⟨q.1,q.2.1,q.2.2,ti⟩]).length [] a1 w1 List.nodup_nil (λk hk=>by cases hk) (by simp) (Jm.start eH ct λp hp=>(hAl p hp).1) (Same.refl _ _) hx0
   obtain⟨β',aH,more⟩:=j.fin o8 (zo (List.nodup_append.1 nd).1) ct (λp hp=>(hAl p hp).1) (λx hx=>(co x hx).2.2) hd
   have hc1:∀k,k∈(xs.flatMap λx=>[x.c.i,x.c.j])->k∈done:=λk hk=>by
    obtain⟨x,hx,hk⟩:=List.mem_flatMap.1 hk;simp only[iV,List.not_mem_nil,or_false]at hk;rcases hk with rfl | rfl
    .exact(hd x hx).1
    .exact(hd x hx).2
   by_cases hq:q.1∈done
   .have hsub:∀k∈qg xs [⟨q.1,q.2.1,q.2.2,ti⟩],k∈done:=λk hk=>by
     rcases zO.1 hk with hk | hk
     .exact hc1 k hk
     .simp at hk;subst hk;exact hq
    have:=List.Nodup.length_le_of_subset nd hsub;have hm:m=0:=by omega
    subst hm;obtain⟨β2,aQ⟩:=more ⟨q.1,q.2.1,q.2.2,ti⟩ (by simp) hq (bQ hdq _ rfl)
    rw[xw];have eL:bZ done l0=bZ ((xs.flatMap λx=>[x.c.i,x.c.j])++[q.1]) l0:=qc λk=>⟨λhk=>by simpa[qg]using sub k hk,λhk=>hsub k (by simpa[qg]using hk)⟩
    rw[eL];refine Dp _ _ _ _ (λi hi hsi=>Py i hi hsi (λk hk=>zO.2 (.inl (List.mem_flatMap.2 hk)))) ?_
    exact(oC ok hg hs gA aQ k2.1 λs2 h2 β2 w2 a2 k2 eX aQ o9=>next s2 h2 β2 w2 a2 k2 eX aQ ((sm1.trans sm).trans o9)).1 tA
   .have hsub:∀k∈done,k∈(xs.flatMap λx=>[x.c.i,x.c.j]):=λk hk=>by
     rcases zO.1 (sub k hk) with h | h
     .exact h
     .simp at h;subst h;exact absurd hk hq
    have h1:=List.Nodup.length_le_of_subset dn hsub;have h2:=List.Nodup.length_le_of_subset (List.nodup_append.1 nd).1 hc1;have hm:m=1:=by
     simp only[qg,jA,Eb,List.map_nil,Aq,Rx]at len;omega
    subst hm;rw[eB];exact WJ aH sm k2.2 (qc λk=>⟨hsub k,hc1 k⟩)
 | _ :: _ :: _,ha=>simp at ha
end
section
variable {P:Program}{E:Env}{B:Base}{h0:FH}{s:St}{h:FH}{β:List RV}{w:World}{a:Act}{o:Oper}{ops:Array Oper}{K:St->Prop}
theorem Pz(ok:dP P E) (hg:aB E.cx.gd h0) (ho:TV ops=true) (ah:Sat E.n B h0 s h β w a) (k:MC E (tl ops) (tl ops) s K) (hF:Wd F) (hn:wX ops.toList=true)
 (next:∀s' h' β' w' a',K s'->h.le h'->Sat E.n B h0 s' h' β' w' a'->Same (fD (tl ops)) a a'->Q .normal a' w'):(Code.region id ops true).wpIn F n P Q a w:=by
 unfold TV at ho;have et:tl ops=ops.toList:=by cases ops;rfl
 simp only[A8]at ho;rw[et]at next
 refine uN hF hn ok.mixed ho.2 (vY ok hg ops.toList (by simpa using ho.1) (ah.drawn _ (I5 _)) (by rw[et]at k ⊢;exact k) λs' a' k' aH sm=>next _ _ _ _ _ k' (FH.le.refl h) aH sm)
end
abbrev Uc:Op->Bool
 | .call _=>true
 | _=>false
def vZ:Op->Bool
 | .call c=>(match c.callee with
   | .builtin .len=>true
   | _=>false)
 | o=>quietly o
def Fp(ops:Array Oper) (i:Nat):Bool:=match ops[i]? with
 | some o=>vZ o.op
 | none=>true
def Ih(ops:Array Oper) (listed:Array Bool) (i:Nat) (bl:List Nat):Bool:=
 (bl.all λj=>!listed.getD j true && (match ops[j]? with | some o=>o.after.any (λe=>Region.binds .any e && (e.on == i || bl.contains e.on)) | none=>false)) &&
 ((List.range ops.size).all λj=>j == i || listed.getD j true || Fp ops j || bl.contains j)
theorem Fq{listed:Array Bool} (h:Ih ops listed i bl=true):
 Waits .any ops listed i bl/\∀j,j≠i->listed.getD j true=false->Fp ops j=false->j∈bl:=by
 simp only[Ih,A8,Ns]at h;refine⟨λj hj=>?_,λj hji hun hs=>?_⟩
 .have h1:=h.1 j hj;simp only[IY]at h1;refine⟨h1.1,?_⟩;cases ho:ops[j]? with
  | none=>rw[ho]at h1;exact absurd h1.2 (by simp)
  | some o=>
    rw[ho]at h1;obtain⟨e,he,hb⟩:=Array.any_eq_true'.1 h1.2;simp only[A8,Ar,qy,A86]at hb;exact⟨o,rfl,e,he,hb.1,hb.2⟩
 .rcases RX j ops.size with gX | hge
  .have h2:=h.2 j (Xg.2 gX);simp only[Ar,qy,hji,hun,hs,A86,Ny,false_or]at h2;exact h2
  .have:ops[j]?=none:=Rq hge;simp[Fp,this]at hs
def DF(ops:Array Oper) (listed:Array Bool) (i:Nat):Bool:=match ops[i]? with
 | some o=>gV o.op && Region.free .any ops listed i && (Region.ready .any ops listed).contains i && (!isLoad o.op || Ih ops listed i (Ia ops listed i))
 | none=>false
def oZ(ops:Array Oper):DT->Bool->Nat->Array Bool->Bool
 | .done,top,n,listed=>top && n == 0 && (Region.ready .any ops listed).isEmpty
 | .fl i t,top,n,listed=>top && n != 0 && DF ops listed i && oZ ops t true (n - 1) (listed.setIfInBounds i true)
 | .op i t,top,n,listed=>(!top || Region.ready .any ops listed == [i]) && n != 0 && (ops[i]?).isSome && oZ ops t true (n - 1) (listed.setIfInBounds i true)
 | .alt i t m,top,n,listed=>(!top || Region.ready .any ops listed == i :: m.alts) && n != 0 && (ops[i]?).isSome && oZ ops t true (n - 1) (listed.setIfInBounds i true) && oZ ops m false n listed
def JW(ops:Array Oper):Nat->Array Bool->DT
 | 0,_=>.done
 | f+1,listed=>
   let rs:=Region.ready .any ops listed
   match rs.find? (λi=>DF ops listed i) with
   | some i=>.fl i (JW ops f (listed.setIfInBounds i true))
   | none=>goT (λi=>JW ops f (listed.setIfInBounds i true)) rs
def uO(ops:Array Oper):Option OT:=
 let t:=JW ops ops.size (Array.replicate ops.size false)
 if Region.noSelect ops && oZ ops t true ops.size (Array.replicate ops.size false) then some (vW ops t) else none
abbrev Fv(E:Env) (ops:List Oper) (o:Oper) (s:St) (K:St->Prop):Prop:=match gV o.op with
 | true=>fP E ops o s K
 | false=>match rtP E.cx s o K with
 | some p=>match iP E.n o.dst with
   | false=>False
   | true=>p
 | none=>match Uc o.op with
   | true=>E5 E ops o s K
   | false=>fP E ops o s K
abbrev mD(E:Env) (ops:List Oper):OT->St->(St->Prop)->Prop
 | .done,s,K=>K s
 | .op o t,s,K=>Fv E ops o s λs=>mD E ops t s K
 | .alt o t m,s,K=>(Fv E ops o s λs=>mD E ops t s K)/\mD E ops m s K
abbrev Fz(E:Env):List Oper->Bool
 | []=>false
 | o :: l=>match o.op with
   | .call c=>match c.callee with
     | .value (.func f)=>match E.ip f with
       | some _=>true
       | none=>Fz E l
     | _=>Fz E l
   | _=>Fz E l
section
variable {P:Program}{E:Env}{B:Base}{h0:FH}{s:St}{h:FH}{β:List RV}{w:World}{a:Act}{o:Oper}{ops:Array Oper}{K:St->Prop}
theorem FB(ok:dP P E) (ah:Sat E.n B h0 s h β w a) (hg:aB E.cx.gd h) (hi:ops[i]?=some o) (k:Fv E (tl ops) o s K){R:Act->World->Prop}
 (next:∀s' h' β' w' v,K s'->h.le h'->(Fp ops i=true->jf w w')->Sat E.n B h0 s' h' β' w' (a.put o.dst v)->R (a.put o.dst v) w'):qM P ops i R a w:=by
 unfold qM;simp only[hi];unfold Fv at k;have plain:vZ o.op=quietly o.op->fP E (tl ops) o s K->if Region.wanted o (yielded ops a.tmps)=true then o.wp P a w R CX else R (a.put o.dst undef) w:=λhq k=>
  nM ok ah hg k R CX λs' h' β' w' v k' le vO aH=>next s' h' β' w' v k' le (λe=>vO (by rw[<-hq];simpa[Fp,hi]using e)) aH
 split at k
 .rename_i hf;refine plain ?_ k;cases ho:o.op with
  | call c=>
    rw[ho]at hf;have:c.callee=.builtin .len:=Pq hf;simp[vZ,quietly,this]
  | _=>rfl
 .rename_i hf;split at k
  .rename_i p hp;split at k
   .cases k
   .rename_i hd;refine O1 ok.ti ah hg hd hp k R CX λs' h' β' w' v k' le vO aH=>next s' h' β' w' v k' le (λe=>vO ?_) aH
    simp only[Fp,hi]at e;revert e;unfold vZ;split
    .rename_i c hc;split
     .rename_i h2;intro _;rw[hc];simp[quietly,h2]
     .intro e;cases e
    .exact λe=>e
  split at k
  .rename_i hc;refine zk ok ah hg k R CX λs' h' β' w' v k' le aH=>next s' h' β' w' v k' le (λe=>?_) aH
   exfalso;cases ho:o.op with
   | call c=>
     rw[ho]at hf;simp only[Fp,hi,ho,vZ]at e;have h1:c.callee=.builtin .len:=by
      revert e;split
      .rename_i h2;intro _;exact h2
      .intro e;cases e
     have:gV (Op.call c)=true:=by simp[gV,jO,h1]
     rw[this]at hf;cases hf
   | _=>rw[ho]at hc;cases hc
  .rename_i hc;refine plain ?_ k;cases ho:o.op with
   | call c=>rw[ho]at hc;cases hc
   | _=>rfl
theorem qo(ok:dP P E) (hg:aB E.cx.gd h0) (hs:Region.noSelect ops=true){R:Act->World->Prop}:∀(t:DT){n:Nat}{listed:Array Bool}{s:St}{h:FH}{β:List RV}{w:World}{a:Act},
 Sat E.n B h0 s h β w a->mD E (tl ops) (vW ops t) s K->(∀s' h' β' w' a',K s'->h.le h'->Sat E.n B h0 s' h' β' w' a'->Same (fD ops.toList) a a'->R a' w') ->
 (oZ ops t true n listed=true->anyI P .any ops (Fp ops) R n listed a w) /\
 (oZ ops t false n listed=true->∀i∈t.alts,qM P ops i (λa' w'=>(Fp ops i=true->jf w w')/\anyI P .any ops (Fp ops) R (n - 1) (listed.setIfInBounds i true) a' w') a w)
 | .done,n,listed,s,h,β,w,a,ah,k,next=>by
   refine⟨λhc=>?_,λhc=>by simp[oZ]at hc⟩
   simp only[oZ,I4,A8,qy]at hc;obtain⟨rfl,hr⟩:=hc;exact⟨by simpa using hr,next _ _ _ _ _ k (FH.le.refl h) ah (Same.refl _ _)⟩
 | .fl i t,n,listed,s,h,β,w,a,ah,k,next=>by
   refine⟨λhc=>?_,λhc=>by simp[oZ]at hc⟩
   simp only[oZ,I4,A8,Gi,ne_eq]at hc;obtain⟨⟨hn0,hb⟩,hc⟩:=hc;obtain⟨n,rfl⟩:∃m,n=m+1:=⟨n - 1,by omega⟩
   unfold DF at hb;cases hi:ops[i]? with
   | none=>rw[hi]at hb;simp at hb
   | some o=>
     rw[hi]at hb;simp only[A8]at hb;simp only[vW,hi,mD]at k;have kK:o∈ops.toList:=lI (i:=i) (by simpa using hi)
     obtain⟨⟨⟨hf,hfree⟩,hr⟩,hl⟩:=hb;have k:fP E (tl ops) o s λs=>mD E (tl ops) (vW ops t) s K:=by
      unfold Fv at k;rw[hf]at k;exact k
     obtain⟨v,s',hy,k',aH⟩:=oz ok ah (hg.mono ah.ok.hle) hf k;have hq:Fp ops i=true:=by
      simp only[Fp,hi];cases ho:o.op with
      | call c=>
        rw[ho]at hf;have:c.callee=.builtin .len:=Pq hf;simp[vZ,this]
      | _=>
        have:=lU hf;rw[ho]at this;exact this
     refine sH (bl:=Ia ops listed i) hi (Region.noSelect_spec hs) hq n listed a w (Region.free_spec hi hfree) (λe=>?_) (by simpa using hr) hy (λ_=>jf.refl w)
      ((qo ok hg hs t aH k' λs2 h2 β2 w2 a2 k2 eX aQ sm=>next s2 h2 β2 w2 a2 k2 eX aQ (sm.put_mem kK)).1 hc)
     rw[e]at hl;exact Fq (by simpa using hl)
 | .op i t,n,listed,s,h,β,w,a,ah,k,next=>by
   have key:n≠0->(ops[i]?).isSome=true->oZ ops t true (n - 1) (listed.setIfInBounds i true)=true->qM P ops i (λa' w'=>(Fp ops i=true->jf w w')/\anyI P .any ops (Fp ops) R (n - 1) (listed.setIfInBounds i true) a' w') a w:=by
    intro hn0 hi hc;obtain⟨o,hi⟩:=Xc.1 hi;have kK:o∈ops.toList:=lI (i:=i) (by simpa using hi)
    simp only[vW,hi,mD]at k;exact(FB ok ah (hg.mono ah.ok.hle) hi k λs' h' β' w' v k' le vO aH=>⟨vO,(qo ok hg hs t aH k' λs2 h2 β2 w2 a2 k2 eX aQ sm=>next s2 h2 β2 w2 a2 k2 (le.trans eX) aQ (sm.put_mem kK)).1 hc⟩)
   refine⟨λhc=>?_,λhc j hj=>?_⟩
   .simp only[oZ,KJ,KL,A8,Gi,ne_eq,qy]at hc;obtain⟨⟨⟨hr,hn0⟩,hi⟩,hc⟩:=hc;obtain⟨m,rfl⟩:∃m,n=m+1:=⟨n - 1,by omega⟩
    refine⟨λh0=>by rw[hr]at h0;simp at h0,λj hj=>?_⟩
    rw[hr]at hj;simp at hj;subst hj;exact key hn0 hi hc
   .simp only[oZ,KI,Gu,I4,A8,Gi,ne_eq]at hc;simp only[DT.alts,V9]at hj;subst hj;exact key hc.1.1 hc.1.2 hc.2
 | .alt i t mm,n,listed,s,h,β,w,a,ah,k,next=>by
   have key:n≠0->(ops[i]?).isSome=true->oZ ops t true (n - 1) (listed.setIfInBounds i true)=true->oZ ops mm false n listed=true ->
    ∀j∈i :: mm.alts,qM P ops j (λa' w'=>(Fp ops j=true->jf w w')/\anyI P .any ops (Fp ops) R (n - 1) (listed.setIfInBounds j true) a' w') a w:=by
    intro hn0 hi hc hm j hj;obtain⟨o,hi⟩:=Xc.1 hi;have kK:o∈ops.toList:=lI (i:=i) (by simpa using hi)
    simp only[vW,hi,mD]at k;rcases iV.1 hj with rfl | hj
    .exact(FB ok ah (hg.mono ah.ok.hle) hi k.1 λs' h' β' w' v k' le vO aH=>⟨vO,(qo ok hg hs t aH k' λs2 h2 β2 w2 a2 k2 eX aQ sm=>next s2 h2 β2 w2 a2 k2 (le.trans eX) aQ (sm.put_mem kK)).1 hc⟩)
    .exact(qo ok hg hs mm ah k.2 next).2 hm j hj
   refine⟨λhc=>?_,λhc j hj=>?_⟩
   .simp only[oZ,KJ,KL,A8,Gi,ne_eq,qy]at hc;obtain⟨⟨⟨⟨hr,hn0⟩,hi⟩,hc⟩,hm⟩:=hc;obtain⟨q,rfl⟩:∃m,n=m+1:=⟨n - 1,by omega⟩
    refine⟨λh0=>by rw[hr]at h0;simp at h0,λj hj=>?_⟩
    rw[hr]at hj;exact key hn0 hi hc hm j hj
   .simp only[oZ,KI,Gu,I4,A8,Gi,ne_eq]at hc;exact key hc.1.1.1 hc.1.1.2 hc.1.2 hc.2 j hj
theorem PE(ok:dP P E) (hg:aB E.cx.gd h0){ol:OT} (ho:uO ops=some ol) (ah:Sat E.n B h0 s h β w a) (k:mD E (tl ops) ol s K) (hF:Wd F) (hn:wX ops.toList=true)
 (next:∀s' h' β' w' a',K s'->h.le h'->Sat E.n B h0 s' h' β' w' a'->Same (fD (tl ops)) a a'->Q .normal a' w'):(Code.region id ops true).wpIn F n P Q a w:=by
 unfold uO at ho;have et:tl ops=ops.toList:=by cases ops;rfl
 simp only at ho;split at ho
 .rename_i hp;cases ho;simp only[A8,qy]at hp;refine wpIn_region_any ok.mixed (xH (sf:=Fp ops) (R:=λa w=>Q .normal a w) hF hn (λ_ _ hh=>hh) _ _ _ _ ?_)
  exact(qo ok hg hp.1 (R:=λa w=>Q .normal a w) (JW ops ops.size (Array.replicate ops.size false)) (ah.drawn (w.drawn+1) (I5 _)) k λs' h' β' w' a' k' le aH sm=>next _ _ _ _ _ k' le aH (by rw[et];exact sm)).1 hp.2
 .cases ho
end
abbrev isNil{α:Type}:List α->Bool
 | []=>true
 | _ :: _=>false
abbrev qp(seen:List Nat):List (Nat×Gd×bK)->List (Nat×Gd×bK)
 | []=>[]
 | (k,g,e) :: l=>match dV k seen with
   | true=>qp seen l
   | false=>match isNil g with
     | true=>(k,g,e) :: qp (k :: seen) l
     | false=>qp (k :: seen) l
abbrev jJ:List (Gd×ay)->List (Gd×ay)
 | []=>[]
 | (g,r) :: l=>match isNil g with
   | true=>([],r) :: jJ l
   | false=>([],.gone) :: jJ l
abbrev clean(s:St):St:={ env:=qp [] s.env,T:=jJ s.T,gl:=[],gs:=[] }
theorem oD:∀{l:List (Nat×Gd×bK)}{seen:List Nat}{t:Nat}{G:Gd}{e:bK},dZ (qp seen l) t=some (G,e)->dV t seen=false/\dZ l t=some (G,e)/\G=[]
 | [],_,_,_,_,h=>by simp[qp,dZ]at h
 | (k,g,e0) :: l,seen,t,G,e,h=>by
   unfold qp at h;split at h
   .rename_i hm;obtain⟨h1,h2,h3⟩:=oD h;refine⟨h1,?_,h3⟩;rw[aP,if_neg]
    .exact h2
    .rintro rfl;rw[hm]at h1;cases h1
   .rename_i hm;have sub:dZ (qp (k :: seen) l) t=some (G,e)->dV t seen=false/\dZ ((k,g,e0) :: l) t=some (G,e)/\G=[]:=by
     intro h;obtain⟨h1,h2,h3⟩:=oD h;rw[gI,xP]at h1;refine⟨h1.2,?_,h3⟩;rw[aP,if_neg]
     .exact h2
     .rintro rfl;exact A89 h1.1 rfl
    split at h
    .rename_i hn;rw[aP]at h;split at h
     .rename_i hk;subst hk;cases h;refine⟨hm,by rw[aP,if_pos rfl],?_⟩
      cases g with
      | nil=>rfl
      | cons _ _=>cases hn
     .exact sub h
    .exact sub h
theorem zq(gl:List Bool):∀(T:List (Gd×ay)) (i:Nat) (r:ay),(eff [] (jJ T))[i]?=some r->r.live=true->(eff gl T)[i]?=some r
 | [],i,r,h,_=>by simp[jJ,eff]at h
 | (g,r0) :: l,i,r,h,hl=>by
   have e1:eff [] (jJ ((g,r0) :: l))=(match isNil g with | true=>r0 | false=>ay.gone) :: eff [] (jJ l):=by
    simp only[jJ];cases isNil g<;>rfl
   rw[e1]at h;cases i with
   | zero=>
     simp only[RY,A95]at h;cases g with
     | nil=>simp only[isNil]at h;subst h;rfl
     | cons _ _=>simp only[isNil]at h;subst h;cases hl
   | succ i=>
     simp only[List.getElem?_cons_succ,eff]at h ⊢
     exact zq gl l i r h hl
theorem zu:∀(T:List (Gd×ay)),(jJ T).length=T.length
 | []=>rfl
 | (g,r) :: l=>by simp only[jJ];split<;>simp[zu l]
theorem sN:∀{T:List (Gd×ay)}{p:Gd×ay},p∈jJ T->p.1=[]
 | [],p,h=>by simp[jJ]at h
 | (g,r) :: l,p,h=>by
   simp only[jJ]at h;split at h
   .rcases iV.1 h with rfl | h
    .rfl
    .exact sN h
   .rcases iV.1 h with rfl | h
    .rfl
    .exact sN h
theorem OK.weaken{T':List ay} (ok:OK B h0 T h β w) (hl:T'.length=T.length) (sub:∀(i:Nat) r,T'[i]?=some r->r.live=true->T[i]?=some r):OK B h0 T' h β w where
 below:=ok.below
 dr:=ok.dr
 len:=by rw[hl];exact ok.len
 holds:=by
  intro i r v e e';cases hr:r.live with
  | true=>exact ok.holds i r v (sub i r e hr) e'
  | false=>cases r<;>first | (cases hr;done) | (cases v<;>trivial)
 own:=λi r v b e l e' hb=>ok.own i r v b (sub i r e l) l e' hb
 inj:=λi j r r' u v b e l e' l' f f' hb hb'=>ok.inj i j r r' u v b (sub i r e l) l (sub j r' e' l') l' f f' hb hb'
 hle:=ok.hle
 hw:=ok.hw
 hg:=ok.hg
 kn:=ok.kn
theorem Sat.clean{N:Nat}{B:Base}{h0:FH}{s:St}{h:FH}{β:List RV}{w:World}{a:Act} (ah:Sat N B h0 s h β w a):Sat N B h0 (clean s) h β w a:=by
 refine⟨?_,?_,?_,ah.defers,ah.sz,?_,?_⟩
 .exact ah.ok.weaken (by simp[eF,zu]) λi r e l=>zq s.gl s.T i r e l
 .intro t G e ht;obtain⟨_,h1,rfl⟩:=oD ht;exact ah.env t [] e h1
 .intro d i hi;have hi:NR [] d=some i:=hi;cases hi
 .intro t G e ht;obtain⟨_,h1,rfl⟩:=oD ht;rfl
 .intro p hp;rw[sN hp]
abbrev writes:Code->List Nat
 | .region _ ops _=>fD (tl ops)
 | .seq a b=>dw (writes a) (writes b)
 | .cond _ a b=>dw (writes a) (writes b)
 | .block _ c=>writes c
 | .loop c=>writes c
 | _=>[]
abbrev keyOf:Code->Nat
 | .region id _ _=>id
 | .seq a _=>keyOf a
 | .cond _ a _=>keyOf a
 | .block _ c=>keyOf c
 | .loop c=>keyOf c
 | _=>0
abbrev xK(n:Nat):SC->Bool
 | .own i _=>Nat.ble (i+1) n
 | .row i=>Nat.ble (i+1) n
 | .iw i _ _ _=>Nat.ble (i+1) n
 | .sub i _=>Nat.ble (i+1) n
 | .jC i _ _ _ _=>Nat.ble (i+1) n
 | _=>true
abbrev uP(n:Nat):SV->Bool
 | .c x=>xK n x
 | .agg xs=>allL (xK n) xs
 | _=>true
abbrev jr(n:Nat):ay->Bool
 | .blk _ xs=>allL (xK n) xs
 | _=>true
abbrev iZ:SC->Bool
 | .v _=>true
 | .sl _ _=>true
 | .one _ _=>true
 | .fp _ _=>true
 | .abs _=>true
 | .junk=>true
 | _=>false
abbrev wo:SV->Bool
 | .c x=>iZ x
 | .agg xs=>allL iZ xs
 | _=>true
abbrev oG:bK->Bool
 | .one v=>wo v
 | .l7 vs=>allL wo vs
abbrev lV(ws seen:List Nat):List (Nat×Gd×bK)->List (Nat×Gd×bK)
 | []=>[]
 | (k,g,e) :: l=>match dV k seen with
   | true=>lV ws seen l
   | false=>match dV k ws with
     | true=>lV ws (k :: seen) l
     | false=>match bJ (isNil g) (oG e) with
       | true=>(k,g,e) :: lV ws (k :: seen) l
       | false=>lV ws (k :: seen) l
abbrev keepR(n:Nat) (ws seen:List Nat):List (Nat×Gd×bK)->List (Nat×SV)
 | []=>[]
 | (k,g,e) :: l=>match dV k seen with
   | true=>keepR n ws seen l
   | false=>match dV k ws with
     | true=>keepR n ws (k :: seen) l
     | false=>match isNil g with
       | true=>match e with
         | .one (.c (.own i off))=>match Nat.ble (i+1) n with
           | true=>(k,.c (.own i off)) :: keepR n ws (k :: seen) l
           | false=>keepR n ws (k :: seen) l
         | .one (.c (.row i))=>match Nat.ble (i+1) n with
           | true=>(k,.c (.row i)) :: keepR n ws (k :: seen) l
           | false=>keepR n ws (k :: seen) l
         | _=>keepR n ws (k :: seen) l
       | false=>keepR n ws (k :: seen) l
abbrev zx(s:St):List (Nat×SV)->Bool
 | []=>true
 | (k,.c (.own i off)) :: l=>match dZ s.env k with
   | some ([],.one (.c (.own i' off')))=>bJ (bJ (Nat.beq i i') (Nat.beq off off')) (zx s l)
   | _=>false
 | (k,.c (.row i)) :: l=>match dZ s.env k with
   | some ([],.one (.c (.row i')))=>bJ (Nat.beq i i') (zx s l)
   | _=>false
 | _=>false
abbrev zy:List (Nat×SV)->List (Nat×Gd×bK)
 | []=>[]
 | (k,v) :: l=>(k,[],.one v) :: zy l
abbrev iG:List (Nat×ay)->List (Gd×ay)->List (Gd×ay)
 | [],T=>T
 | (i,r) :: l,T=>iG l (bF T i ([],r))
abbrev mF(ws:List Nat) (s:St) (sl:List (Nat×SV)) (rs:List (Nat×ay)):St:=
 { env:=dw (zy sl) (dw (zy (keepR (aC s.T) ws [] s.env)) (lV ws [] s.env)),T:=iG rs s.T,gl:=[],gs:=[] }
abbrev PG:SV->SV
 | .c x=>match x with
   | .abs (.KQ sh l)=>.c (.sl sh l)
   | x=>.c x
 | v=>v
abbrev Ag(s:St):List (Nat×SV)->Prop
 | []=>True
 | (k,v) :: l=>(match dZ s.env k with
   | some ([],.one u)=>PG u=v
   | _=>False)/\Ag s l
abbrev rF(n:Nat) (T:List (Gd×ay)):Bool:=allL (λp=>bJ (isNil p.1) (jr n p.2)) T
abbrev Bh(n:Nat) (ws:List Nat) (sl:List (Nat×SV)):Bool:=allL (λp=>bJ (uP n p.2) (dV p.1 ws)) sl
abbrev PI(s:St) (k:Nat) (t:TypeId) (sh:Sh):St:=match dZ s.env k with
 | some ([],.one (.c (.v (.slice none 0 0))))=>{ s with T:=snoc s.T ([],.row t sh []),env:=(k,[],.one (.c (.row (aC s.T)))) :: s.env,gs:=SA s.gs k }
 | some ([],.one (.c (.own i 0)))=>match bW s.T i with
   | some ([],.blk t' [.v (.slice none 0 0)])=>{ s with T:=bF s.T i ([],.blk t' [.sl sh []]) }
   | _=>s
 | _=>s
abbrev DI(s:St) (k:Nat):St:=match dZ s.env k with
 | some ([],.one (.c (.row r)))=>EJ s r
 | some ([],.one (.c (.abs (.KQ sh l))))=>{ s with env:=(k,[],.one (.c (.sl sh l))) :: s.env,gs:=SA s.gs k }
 | _=>s
abbrev nO(s:St):List Nat->St
 | []=>s
 | k :: l=>nO (DI s k) l
theorem Sat.nO{N:Nat}{B:Base}{h0:FH}{w:World}{a:Act}{β:List RV}:∀(l:List Nat){s:St}{h:FH},Sat N B h0 s h β w a->∃h',h.le h'/\Sat N B h0 (nO s l) h' β w a
 | [],s,h,ah=>⟨h,FH.le.refl h,ah⟩
 | k :: l,s,h,ah=>by
   have h1:∃h',h.le h'/\Sat N B h0 (DI s k) h' β w a:=by
    unfold DI;split
    .exact ah.XM _
    .rename_i sh l hk;refine⟨h,FH.le.refl h,ah.ok,?_,?_,ah.defers,ah.sz,?_,ah.gT⟩
     .intro t' G e ht;rw[aP]at ht;split at ht
      .rename_i hkt;subst hkt;cases ht;obtain⟨z,z1,z2,z3⟩:=ah.env k _ _ hk;have c:bI h β (.c (.abs (.KQ sh l))) z:=z2 rfl;exact⟨z,z1,λ_=>⟨c.1.1,c.2⟩,λhh=>by cases hh⟩
      .exact ah.env t' G e ht
     .intro d i hi;obtain⟨hne,hi⟩:=vG _ _ _ _ hi;obtain⟨G,b,q1,q2⟩:=ah.gs d i hi;exact⟨G,b,by rw[aP,if_neg (Ne.symm hne)];exact q1,q2⟩
     .intro t' G e ht;rw[aP]at ht;split at ht
      .cases ht;rfl
      .exact ah.gb _ _ _ ht
    .exact⟨h,FH.le.refl h,ah⟩
   obtain⟨h1,le1,eH⟩:=h1;obtain⟨h2,eX,aQ⟩:=Sat.nO l eH;exact⟨h2,le1.trans eX,aQ⟩
abbrev Bj(s:St):List (Nat×TypeId×Sh)->St
 | []=>s
 | (k,t,sh) :: l=>Bj (PI s k t sh) l
theorem Sat.PI{N:Nat}{B:Base}{h0:FH}{s:St}{h:FH}{β:List RV}{w:World}{a:Act} (ah:Sat N B h0 s h β w a) (k:Nat) (t:TypeId) (sh:Sh):∃β',Sat N B h0 (PI s k t sh) h β' w a:=by
 unfold lZ.PI;split
 .rename_i hk;obtain⟨z,z1,z2,_⟩:=ah.env k _ _ hk;have ez:z=.slice none 0 0:=(z2 rfl:bI h β (.c (.v (.slice none 0 0))) z).1.1;subst ez;have ok:OK B h0 (eff s.gl (snoc s.T ([],.row t sh []))) h (β++[.row (.slice none 0 0)]) w:=by
   rw[dW];exact ah.ok.add (r:=.row t sh []) (v:=.row (.slice none 0 0)) (bC w none) (λb hb=>by rw[aN]at hb;simp[ak]at hb) (.inl ⟨rfl,rfl⟩)
  have gT:∀p∈snoc s.T (([]:Gd),ay.row t sh []),pz s.gl.length p.1=true:=by
   intro p hp;rw[dY,zO]at hp;rcases hp with hp | hp
   .exact ah.gT p hp
   .simp at hp;subst hp;rfl
  have sm:=ah.mem ok (FH.le.refl h) (Ext.append _ _) gT;refine⟨_,ok,?_,?_,ah.defers,ah.sz,?_,gT⟩
  .intro t' G e ht;rw[aP]at ht;split at ht
   .rename_i hkt;subst hkt;cases ht;refine⟨_,z1,λ_=>⟨?_,rfl,rfl⟩,λhh=>by cases hh⟩
    refine⟨.row (.slice none 0 0),?_,rfl⟩;have:aC s.T=β.length:=by rw[ah.ok.len,eF,aK]
    rw[this];simp
   .exact sm.env t' G e ht
  .intro d i hi;obtain⟨hne,hi⟩:=vG _ _ _ _ hi;obtain⟨G,b,q1,q2⟩:=ah.gs d i hi;exact⟨G,b,by rw[aP,if_neg (Ne.symm hne)];exact q1,q2⟩
  .intro t' G e ht;rw[aP]at ht;split at ht
   .cases ht;rfl
   .exact ah.gb _ _ _ ht
 .rename_i i hk;split
  .rename_i t' hT;refine⟨β,?_,ah.env,ah.gs,ah.defers,ah.sz,ah.gb,?_⟩
   .show OK B h0 (eff s.gl (bF s.T i ([],.blk t' [.sl sh []]))) h β w;rw[dK];refine ah.ok.Dl (aU hT (show gv s.gl []=true from rfl)) rfl λv hv=>?_
    cases v with
    | blk b=>
      obtain⟨ys,e1,al⟩:=hv;refine⟨ys,e1,?_⟩;cases ys with
      | nil=>exact al.elim
      | cons y ys=>
        cases ys with
        | cons _ _=>exact al.2.elim
        | nil=>
          obtain⟨⟨c,o⟩,_⟩:=al;obtain rfl:y=.slice none 0 0:=c.1;exact⟨⟨.inl ⟨rfl,rfl⟩,o⟩,trivial⟩
    | row _=>exact hv.elim
    | deep _ _=>exact hv.elim
    | no=>exact hv.elim
   .intro p hp;rw[cO]at hp;rcases Gq hp with hp | hp
    .exact ah.gT p hp
    .subst hp;rfl
  .exact⟨β,ah⟩
 .exact⟨β,ah⟩
theorem Sat.Bj{N:Nat}{B:Base}{h0 h:FH}{w:World}{a:Act}:∀(l:List (Nat×TypeId×Sh)){s:St}{β:List RV},Sat N B h0 s h β w a->∃β',Sat N B h0 (Bj s l) h β' w a
 | [],s,β,ah=>⟨β,ah⟩
 | (k,t,sh) :: l,s,β,ah=>by
   obtain⟨β1,eH⟩:=ah.PI k t sh;exact Sat.Bj l eH
abbrev abp(body:St->(Exit->St->Prop)->Prop) (ws:List Nat) (la:LA) (s:St) (K:Exit->St->Prop):Prop:=
 (∃x,la.inv x/\Ag s (la.slots x)/\s.T=iG (la.res x) s.T) /\
 ∀x,la.inv x->match bJ (rF (aC s.T) (iG (la.res x) s.T)) (Bh (aC s.T) ws (la.slots x)) with
   | false=>False
   | true=>body (mF ws s (la.slots x) (la.res x)) λe s'=>match e with
     | .normal=>match zx (oU la.can (kD la.ren s')) (keepR (aC s.T) ws [] s.env) with
       | true=>∃x',la.inv x'/\Ag (oU la.can (kD la.ren s')) (la.slots x')/\mP (aC s.T) (oU la.can (kD la.ren s')).T=iG (la.res x') s.T/\la.meas x' < la.meas x
       | false=>False
     | e=>K e s'
abbrev DJ(body:St->(Exit->St->Prop)->Prop):Nat->St->(Exit->St->Prop)->Prop
 | 0,_,_=>False
 | n+1,s,K=>body s λe s'=>match e with
   | .normal=>DJ body n s' K
   | e=>K e s'
abbrev Ud(E:Env) (c:Code) (s:St):Option oO:=match E.ann (keyOf c) with
 | some f=>some (f s)
 | none=>none
abbrev abq(s:St) (t:Nat):Int:=match dZ s.env t with
 | some (_,.one (.c (.v (.int _ n))))=>n
 | _=>0
abbrev slotL(sh:Sh) (s:St) (t:Nat):List sh.den:=match dZ s.env t with
 | some (_,.one v)=>match CQ s sh v with
   | some l=>l
   | none=>[]
 | _=>[]
abbrev br(b:Bool) (X Y:Prop):Prop:=match b with
 | true=>X
 | false=>Y
theorem aA{b:Bool}{X Y:Prop}:br b X Y↔(b=true->X)/\(b=false->Y):=by cases b<;>simp[br]
abbrev FC:(ps:List Nat)->(ss:List Sh)->bg ss->List (Nat×Gd×bK)
 | p :: ps,s :: ss,d=>(p,[],.one (fO s d.1)) :: FC ps ss d.2
 | _,_,_=>[]
abbrev rG(n:Nat):List Nat->List Sh->Bool
 | [],[]=>true
 | p :: ps,_ :: ss=>bJ (bJ (Nat.ble (p+1) n) (!(dV p ps))) (rG n ps ss)
 | _,_=>false
abbrev Ue(ws dr:List Nat) (s:St):List (Nat×Gd×bK):=dw (zy (keepR (aC s.T) ws [] s.env)) (lV dr [] s.env)
abbrev Ii(n:Nat) (body:St->(Exit->St->Prop)->Prop) (ws:List Nat) (ra:RA) (ps:List Nat) (ss:List Sh) (L:List (bg ss)) (s:St) (K:Exit->St->Prop):Prop:=
 match rG n ps ss with
 | false=>False
 | true=>
 (∃x,ra.inv 0 x/\s.T=iG (ra.res x) s.T) /\
 (∀i x d,ra.inv i x->L[i]?=some d->match rF (aC s.T) (iG (ra.res x) s.T) with
  | false=>False
  | true=>body { env:=dw (FC ps ss d) (Ue ws (dw ra.drop ps) s),T:=iG (ra.res x) s.T,gl:=[],gs:=[] } λe s'=>match zx s' (keepR (aC s.T) ws [] s.env) with
    | false=>False
    | true=>match e with
      | .normal=>∃x',ra.inv (i+1) x'/\mP (aC s.T) s'.T=iG (ra.res x') s.T
      | .ret=>K .ret { env:=Ue ws ra.drop s,T:=s'.T,gl:=s'.gl,gs:=[] }
      | .exit j=>K (.exit j) { env:=Ue ws ra.drop s,T:=s'.T,gl:=s'.gl,gs:=[] }
      | _=>False) /\
 ∀x,ra.inv (aC L) x->match rF (aC s.T) (iG (ra.res x) s.T) with
   | false=>False
   | true=>K .normal { env:=Ue ws ra.drop s,T:=iG (ra.res x) s.T,gl:=[],gs:=[] }
abbrev oP(s:St) (zQ oW:List Nat) (nl:List (Nat×TypeId×Sh)) (qh:List (Nat×Nat×TypeId×Sh)) (dp:List (Nat×TypeId×Sh×Nat)):St:=qP (AZ (Bj (vU (nO s zQ) oW) nl) qh) dp
theorem Sat.oP{N:Nat}{B:Base}{h0 h:FH}{w:World}{a:Act}{s:St}{β:List RV} (ah:Sat N B h0 s h β w a) (zQ oW:List Nat) (nl:List (Nat×TypeId×Sh)) (qh:List (Nat×Nat×TypeId×Sh)) (dp:List (Nat×TypeId×Sh×Nat)):∃h' β',h.le h'/\Sat N B h0 (oP s zQ oW nl qh dp) h' β' w a:=by
 obtain⟨h1,le1,eH⟩:=Sat.nO zQ ah;obtain⟨h2,β2,eX,aQ⟩:=Sat.vU (l:=oW) eH;obtain⟨β3,Ij⟩:=Sat.Bj nl aQ;obtain⟨β4,PK⟩:=Sat.AZ qh Ij;obtain⟨β5,adN⟩:=Sat.qP dp PK;exact⟨h2,β5,le1.trans eX,adN⟩
abbrev sO:Nat->St->St
 | 0,s=>s
 | n+1,s=>sO n { s with T:=snoc s.T ([],.gone) }
theorem Sat.sO{N:Nat}{B:Base}{h0 h:FH}{w:World}{a:Act}:∀(n:Nat){s:St}{β:List RV},Sat N B h0 s h β w a->∃β',Sat N B h0 (sO n s) h β' w a
 | 0,s,β,ah=>⟨β,ah⟩
 | n+1,s,β,ah=>by
   refine Sat.sO n (β:=β++[.no]) (s:={ s with T:=snoc s.T ([],.gone) }) ?_
   refine ah.mem ?_ (FH.le.refl h) (Ext.append _ _) λp hp=>?_
   .rw[dW];exact ah.ok.add (r:=.gone) (v:=.no) (bC w none) (λb hb=>(Gv hb).elim) trivial
   .rw[dY,zO]at hp;rcases hp with hp | hp
    .exact ah.gT p hp
    .simp at hp;subst hp;rfl
abbrev adO(E:Env) (c:Code) (s:St):Option LA:=match Ud E c s with
 | some (.cut la)=>some la
 | _=>none
abbrev abr(ws:List Nat) (la:LA) (s s':St):Prop:=match zx (oU la.can (kD la.ren (oP s' la.zQ la.oW la.nil la.qh la.deep))) (keepR (aC s.T) ws [] s.env) with
 | true=>∃v,la.inv v/\Ag (oU la.can (kD la.ren (oP s' la.zQ la.oW la.nil la.qh la.deep))) (la.slots v)/\mP (aC s.T) (oU la.can (kD la.ren (oP s' la.zQ la.oW la.nil la.qh la.deep))).T=iG (la.res v) s.T
 | false=>False
abbrev gy:Env->Code->St->(Exit->St->Prop)->Prop
 | E,.skip,s,K=>K .normal s
 | E,.region _ ops draw,s,K=>match wX (tl ops) with
   | false=>False
   | true=>match draw with
     | false=>TT E (tl ops) (tl ops) s λs=>K .normal (clean s)
     | true=>match vX E.cx (tl ops) with
       | true=>match TV ops with
         | true=>MC E (tl ops) (tl ops) s λs=>K .normal (clean s)
         | false=>False
       | false=>match JR ops with
         | some m=>Pv E (tl ops) m s λs=>K .normal (clean s)
         | none=>match orB E.cx.rt (Fz E (tl ops)) with
           | true=>match uO ops with
             | some l=>mD E (tl ops) l s λs=>K .normal (clean s)
             | none=>False
           | false=>match qQ ops with
             | some l=>jR E (tl ops) l s λs=>K .normal (clean s)
             | none=>False
 | E,.seq x y,s,K=>match adO E y s with
   | some la=>(gy E x (sO la.pad s) λe s'=>match e with
    | .normal=>abr (dw la.drop (writes x)) la (sO la.pad s) s'
    | e=>K e s')/\∀v,la.inv v->match bJ (rF (aC (sO la.pad s).T) (iG (la.res v) (sO la.pad s).T)) (Bh (aC (sO la.pad s).T) (dw la.drop (writes x)) (la.slots v)) with
      | false=>False
      | true=>gy E y (mF (dw la.drop (writes x)) (sO la.pad s) (la.slots v) (la.res v)) K
   | none=>gy E x s λe s'=>match e with
     | .normal=>gy E y s' K
     | e=>K e s'
 | E,.cond c x y,s,K=>match bf E.cx s [] c with
   | some (.one (.c (.v (.bool b))))=>br b (gy E x s K) (gy E y s K)
   | _=>False
 | E,.block id c,s,K=>gy E c s λe s'=>match e with
   | .exit i=>match Nat.beq i id with
     | true=>K .normal s'
     | false=>K (.exit i) s'
   | e=>K e s'
 | E,.loop c,s,K=>match Ud E c s with
   | some (.inv la)=>abp (gy E c) (dw la.drop (writes c)) la (sO la.pad (oP s la.zQ la.oW la.nil la.qh la.deep)) K
   | some (.yZ n)=>DJ (gy E c) n s K
   | _=>False
 | E,.rangeFunc g ps zS c,s,K=>match E.rd with
   | true=>False
   | false=>match bf E.cx s [] g with
     | some (.one (.c (.abs (.seq P' ss L))))=>match Ud E c s with
       | some (.rng ra)=>E.P=some P'/\Ii E.n (λs K=>gy { E with rd:=true } zS s λe s'=>match e with
         | .normal=>gy { E with rd:=true } c s' K
         | _=>False) (dw ra.drop (dw (tl ps) (dw (writes zS) (writes c)))) ra (tl ps) ss L (oP s ra.zQ ra.oW ra.nil ra.qh ra.deep) K
       | _=>False
     | _=>False
 | E,.exit i,s,K=>K (.exit i) s
 | E,.ret,s,K=>K .ret s
 | _,_,_,_=>False
abbrev sQ(D:Nat):Deferred:={ target:=.collected D,args:=#[] }
theorem Uf(w:World) (a b:Obj) (G:Nat->Prop):Gs G w ((w.alloc a).alloc b):=
 ⟨rfl,rfl,rfl,by simp;omega,lD _,λk hk _=>by
  rw[Below.heap_alloc _ _ _ (by simp;omega),Below.heap_alloc _ _ _ hk]⟩
def Yp(A:World) (l D:Nat) (G:Nat->Prop) (I:World->Prop) (Ix:Code->World->Prop):Exit->Act->World->Prop
 | .normal,_,A'=>(∀b,b=l\/b=D\/G b->A'.heap[b]?=A.heap[b]?)/\I A'
 | .ret,_,A'=>(∀b,b=l\/b=D\/G b->A'.heap[b]?=A.heap[b]?)/\Ix .ret A'
 | .exit id,_,A'=>(∀b,b=l\/b=D\/G b->A'.heap[b]?=A.heap[b]?)/\Ix (.exit id) A'
 | .goto t,_,_=>False
 | .panic _,_,_=>False
 | .outgrown,_,_=>False
theorem MI{ss:List Sh}{L:List (bg ss)}{g:Operand}{ps:Array Tmp}{zS body:Code}
 (gv:Gives P h ss L (a.eval g)) (hps:ps.size=ss.length)
 (I:Nat->(Nat->Prop)->World->Prop) (Ix:Code->(Nat->Prop)->World->Prop) (hI:∀i G A,I i G A->HW h A) (hX:∀c G A,Ix c G A->HW h A)
 (hIg:∀i G G' A A',I i G A->Gs G A A'->Own' G G' A A'->I i G' A') (hXg:∀c G G' A A',Ix c G A->Gs G A A'->Own' G G' A A'->Ix c G' A')
 (hIp:∀i G A l o o',I i G A->w.heap.size<=l->A.heap[l]?=some o->ours o=false->I i G (A.putObj l o'))
 (hXp:∀c G A l o o',Ix c G A->w.heap.size<=l->A.heap[l]?=some o->ours o=false->Ix c G (A.putObj l o'))
 (h0:I 0 (λ_=>False) w)
 (hbody:∀(i:Nat) (d:bg ss) (vs:List Value) (G:Nat->Prop) (A:World) (l:Nat) (o1 MJ o2:Obj),L[i]?=some d->wG h ss d vs->I i G A->w.heap.size < l->A.heap[l]?=some o1->ours o1=false->ours MJ=false->A.heap[w.heap.size]?=some o2->ours o2=false->¬G l ->
  zS.wpIn (Fence.wide.inRound l) 0 P (Exit.then (λa1 A1=>(∀b,b=l\/b=w.heap.size\/G b->A1.heap[b]?=A.heap[b]?) /\
   body.wpIn (Fence.wide.inRound l) 0 P (Yp (A1.putObj l MJ) l w.heap.size G (I (i+1) G) (λc=>Ix c G)) a1 (A1.putObj l MJ)) (λ_ _ _=>False)) { tmps:=(ps.zip vs.toArray).foldl (λt (p,v)=>t.setIfInBounds p v) a.tmps,defers:=[] } A)
 (hdone:∀G A,I L.length G A->A.heap[w.heap.size]?=some (.deferred (some []))->Q .normal { a with defers:=sQ w.heap.size :: a.defers } A)
 (hret:∀G A,Ix .ret G A->A.heap[w.heap.size]?=some (.deferred (some []))->Q .ret { a with defers:=sQ w.heap.size :: a.defers } A)
 (abt:∀j G A,Ix (.exit j) G A->A.heap[w.heap.size]?=some (.deferred (some []))->Q (.exit j) { a with defers:=sQ w.heap.size :: a.defers } A):
 (Code.rangeFunc g ps zS body).wpIn Fence.wide n P Q a w:=by
 refine wpIn_rangeFunc λfn hfn=>?_
 obtain⟨gf,lb,hg,⟨fng,hfg,hbg,XA⟩,gives⟩:=gv;obtain⟨rec,hrec⟩:∃rec:LoopState->Option Code->Loop,rec=λst pe=>{ state:=st,pending:=pe,fn,tmps:=a.tmps,params:=ps,assign:=zS,body,defers:=w.heap.size }:=⟨_,rfl⟩
 obtain⟨W1,hW1⟩:∃W1,(w.alloc (.deferred (some []))).alloc (.loop (rec .ready none))=W1:=⟨_,rfl⟩;have hL1:W1.heap[w.heap.size+1]?=some (.loop (rec .ready none)):=by
  rw[<-hW1];have:=World.alloc_heap_new (w.alloc (.deferred (some []))) (.loop (rec .ready none));rwa [World.size_alloc]at this
 have hD1:W1.heap[w.heap.size]?=some (.deferred (some [])):=by
  rw[<-hW1];exact(Below.heap_alloc _ _ _ (by simp)).trans (World.alloc_heap_new w _)
 have hI1:I 0 (λ_=>False) W1:=hIg 0 _ _ _ _ h0 (by rw[<-hW1];exact Uf w _ _ _) (λb hb=>hb.elim)
 have kd:∀{G G':Nat->Prop}{A A':World}{k:Nat}{o:Obj},A.heap[k]?=some o->¬G k->Gs G A A'->Own' G G' A A'->A'.heap[k]?=some o/\¬G' k:=λhk hn hgs ho=>
  ⟨(hgs.block _ (xk.1 hk).1 hn).trans hk,λhh=>by
    have h1:=(xk.1 hk).1;rcases(ho _ hh).2 with h2 | h2
    .exact hn h2
    .omega⟩
 refine⟨w.heap.size+1,[sQ w.heap.size],W1,{ target:=.fn (.func gf) lb,args:=#[.func (.yield (w.heap.size+1)) #[] #[]] },W1,gf,
  #[.func (.yield (w.heap.size+1)) #[] #[]]++lb,W1,?_,?_,?_,?_,λhh=>(by cases hh),?_⟩
 .rw[<-hW1,hrec];exact run_enterLoop_outer _ _ _ _ _
 .simp only[resolve,hg];simp[go_sem]
 .intro f' hf';trivial
 .have e:(callFunc gf (#[.func (.yield (w.heap.size+1)) #[] #[]]++lb)).run P W1=.ok (.enter gf (#[.func (.yield (w.heap.size+1)) #[] #[]]++lb)) W1:=by
   simp only[callFunc,Sem.run_bind,run_program,Result.andThen_ok,hfg,XA];simp[hbg];cases hb:fng.body with
   | none=>rw[hb]at hbg;cases hbg
   | some _=>simp
  simp[invoke,go_sem,e]
 .have hc:=gives (w.heap.size+1)
   (λi G A=>match i with
    | some i=>I i G A/\(A.heap[w.heap.size+1]?=some (.loop (rec .ready none))/\¬G (w.heap.size+1))/\(A.heap[w.heap.size]?=some (.deferred (some []))/\¬G w.heap.size)
    | none=>∃c,(c=.ret\/∃j,c=.exit j)/\Ix c G A/\(A.heap[w.heap.size+1]?=some (.loop (rec .done (some c)))/\¬G (w.heap.size+1))/\(A.heap[w.heap.size]?=some (.deferred (some []))/\¬G w.heap.size)) W1
   (λi G A x=>by
    cases i with
    | some i=>exact hI i G A x.1
    | none=>obtain⟨c,_,x1,_⟩:=x;exact hX c G A x1)
   (λi G G' A A' x hgs ho=>by
    cases i with
    | some i=>exact⟨hIg i _ _ _ _ x.1 hgs ho,kd x.2.1.1 x.2.1.2 hgs ho,kd x.2.2.1 x.2.2.2 hgs ho⟩
    | none=>
      obtain⟨c,hc,x1,x2,x3⟩:=x;exact⟨c,hc,hXg c _ _ _ _ x1 hgs ho,kd x2.1 x2.2 hgs ho,kd x3.1 x3.2 hgs ho⟩)
   (λi d vs G A hd hv x=>by
    obtain⟨x1,⟨x2,y2n⟩,x3,y3n⟩:=x;have gX:w.heap.size+1 < A.heap.size:=(xk.1 x2).1;have hvl:vs.length=ss.length:=by
     have:∀{ss:List Sh}{d:bg ss}{vs:List Value},wG h ss d vs->vs.length=ss.length:=by
      intro ss
      induction ss with
      | nil=>intro d vs x;cases vs with | nil=>rfl | cons _ _=>exact x.elim
      | cons s l ih=>intro d vs x;cases vs with | nil=>exact x.elim | cons v vs=>simp[ih x.2]
     exact this hv
    have hy:=run_yield (P:=P) (args:=vs.toArray) x2 (by rw[hrec];simp[hps,hvl])
    rw[hrec]at hy;refine⟨fn,_,zS,body,hy,(roundIn_of_wpIn (F:=Fence.wide) (n:=0) trivial ?_:RoundIn Fence.wide _ P _ _ _ _ _ _ _)⟩;refine wpIn_mono (hbody i d vs G A (w.heap.size+1) _ (.loop { rec .ready none with state:=.busy }) _ hd hv x1 (by omega) x2 rfl rfl x3 rfl y2n) ?_
    intro e0 a1 A1 h1;cases e0 with
    | exit j=>exact h1
    | goto j=>exact h1
    | ret=>exact h1
    | panic c=>exact h1
    | outgrown=>exact h1
    | normal=>
    obtain⟨k1,h1⟩:=h1;have z2:A1.heap[w.heap.size+1]?=some (.loop (rec .ready none)):=(k1 _ (.inl rfl)).trans x2;have z3:A1.heap[w.heap.size]?=some (.deferred (some [])):=(k1 _ (.inr (.inl rfl))).trans x3;have hlt1:w.heap.size+1 < A1.heap.size:=(xk.1 z2).1;refine⟨_,run_beginRound z2 (by rw[hrec]),?_⟩
    have y2:(A1.putObj (w.heap.size+1) (.loop { rec .ready none with state:=.busy })).heap[w.heap.size+1]?=some (.loop { rec .ready none with state:=.busy }):=World.putObj_heap_same hlt1
    have y3:(A1.putObj (w.heap.size+1) (.loop { rec .ready none with state:=.busy })).heap[w.heap.size]?=some (.deferred (some [])):=(World.putObj_heap_other (by omega)).trans z3
    have fin:∀(jump:Option Code) (A3:World),A3.heap[w.heap.size+1]?=some (.loop { rec .ready none with state:=.busy })->A3.heap[w.heap.size]?=some (.deferred (some [])) ->
     (Instr.endRound (w.heap.size+1) jump).run P A3=.ok (.bool jump.isNone) (A3.putObj (w.heap.size+1) (.loop (rec (if jump.isNone then .ready else .done) jump))) /\
     (A3.putObj (w.heap.size+1) (.loop (rec (if jump.isNone then .ready else .done) jump))).heap[w.heap.size+1]?=some (.loop (rec (if jump.isNone then .ready else .done) jump)) /\
     (A3.putObj (w.heap.size+1) (.loop (rec (if jump.isNone then .ready else .done) jump))).heap[w.heap.size]?=some (.deferred (some [])):=λjump A3 h3 h4=>by
     have:=run_endRound (P:=P) jump h3;rw[hrec]at this ⊢;exact⟨this,World.putObj_heap_same (xk.1 h3).1,(World.putObj_heap_other (by omega)).trans h4⟩
    have kg:∀(A3:World) (o':Obj),(∀b,b=w.heap.size+1\/b=w.heap.size\/G b->A3.heap[b]?=(A1.putObj (w.heap.size+1) (.loop { rec .ready none with state:=.busy })).heap[b]?)->∀b,G b->(A3.putObj (w.heap.size+1) o').heap[b]?=A.heap[b]?:=by
     intro A3 o' hk b hb;have hne:b≠w.heap.size+1:=by rintro rfl;exact y2n hb
     rw[World.putObj_heap_other hne,hk b (.inr (.inr hb)),World.putObj_heap_other hne,k1 b (.inr (.inr hb))]
    refine wpIn_mono h1 ?_;rintro e a3 A3 hp;cases e with
    | normal=>
      obtain⟨p0,p3⟩:=hp;have p1:=p0 _ (.inl rfl);have p2:=p0 _ (.inr (.inl rfl));rw[y2]at p1;rw[y3]at p2;obtain⟨q1,q2,q3⟩:=fin none A3 p1 p2;exact⟨_,_,q1,kg A3 _ p0,.inl ⟨rfl,hIp _ _ _ _ _ _ p3 (by omega) p1 rfl,⟨q2,y2n⟩,q3,y3n⟩⟩
    | ret=>
      obtain⟨p0,p3⟩:=hp;have p1:=p0 _ (.inl rfl);have p2:=p0 _ (.inr (.inl rfl));rw[y2]at p1;rw[y3]at p2;obtain⟨q1,q2,q3⟩:=fin (some .ret) A3 p1 p2;exact⟨_,_,q1,kg A3 _ p0,.inr ⟨rfl,.ret,.inl rfl,hXp _ _ _ _ _ _ p3 (by omega) p1 rfl,⟨q2,y2n⟩,q3,y3n⟩⟩
    | exit id=>
      obtain⟨p0,p3⟩:=hp;have p1:=p0 _ (.inl rfl);have p2:=p0 _ (.inr (.inl rfl));rw[y2]at p1;rw[y3]at p2;obtain⟨q1,q2,q3⟩:=fin (some (.exit id)) A3 p1 p2;exact⟨_,_,q1,kg A3 _ p0,.inr ⟨rfl,.exit id,.inr ⟨id,rfl⟩,hXp _ _ _ _ _ _ p3 (by omega) p1 rfl,⟨q2,y2n⟩,q3,y3n⟩⟩
    | goto t=>exact hp.elim
    | panic ch=>exact hp.elim
    | outgrown=>exact hp.elim)
   ⟨hI1,⟨hL1,λhh=>hh⟩,hD1,λhh=>hh⟩
  refine CallsIn.mono (F:=Fence.wide) (n:=n - 1) (callsIn_wide.2 (callsIn_wide.1 hc)) ?_;rintro e W2 ⟨⟨v,rfl⟩,G,hJ⟩;rcases hJ with⟨x1,⟨x2,_⟩,x3,_⟩ | ⟨c,hc,x1,⟨x2,_⟩,x3,_⟩
  .refine⟨none,_,by have:=run_endLoop (P:=P) x2 (by rw[hrec];simp);rw[hrec]at this;exact this,?_⟩
   exact hdone G _ (hIp _ _ _ _ _ _ x1 (by omega) x2 rfl) ((World.putObj_heap_other (by omega)).trans x3)
  .refine⟨some c,_,by have:=run_endLoop (P:=P) x2 (by rw[hrec];simp);rw[hrec]at this;exact this,?_⟩
   have y1:=hXp _ _ _ _ _ (.loop { rec .done (some c) with state:=.exhausted }) x1 (show w.heap.size<=w.heap.size+1 by omega) x2 rfl
   have y3:(W2.putObj (w.heap.size+1) (.loop { rec .done (some c) with state:=.exhausted })).heap[w.heap.size]?=some (.deferred (some [])):=(World.putObj_heap_other (by omega)).trans x3
   rw[hrec]at y1 y3;rcases hc with rfl | ⟨j,rfl⟩
   .exact wpIn_ret (hret G _ y1 y3)
   .exact wpIn_exit (abt _ G _ y1 y3)
theorem lW:∀{l m:List (Nat×Gd×bK)}{t:Nat},dZ (dw l m) t=match dZ l t with | some x=>some x | none=>dZ m t
 | [],m,t=>rfl
 | (k,x) :: l,m,t=>by
   rw[show dw ((k,x) :: l) m=(k,x) :: dw l m from rfl,aP,aP]
   split
   .rfl
   .exact lW
theorem kR:∀{l:List (Nat×SV)}{t:Nat}{G:Gd}{e:bK},dZ (zy l) t=some (G,e)->∃v,e=.one v/\G=[]/\(t,v)∈l
 | [],_,_,_,h=>by simp[zy,dZ]at h
 | (k,v) :: l,t,G,e,h=>by
   simp only[zy]at h;rw[aP]at h;split at h
   .rename_i hk;subst hk;cases h;exact⟨v,rfl,rfl,by simp⟩
   .obtain⟨u,h1,h2,h3⟩:=kR h;exact⟨u,h1,h2,by simp[h3]⟩
theorem jc{ws:List Nat}:∀{l:List (Nat×Gd×bK)}{seen:List Nat}{t:Nat}{G:Gd}{e:bK},dZ (lV ws seen l) t=some (G,e) ->
 dV t seen=false/\dV t ws=false/\dZ l t=some (G,e)/\G=[]/\oG e=true
 | [],_,_,_,_,h=>by simp[lV,dZ]at h
 | (k,g,e0) :: l,seen,t,G,e,h=>by
   have skip:dZ (lV ws (k :: seen) l) t=some (G,e)->dV t seen=false/\dV t ws=false/\dZ ((k,g,e0) :: l) t=some (G,e)/\G=[]/\oG e=true:=by
    intro h;obtain⟨h1,h2,h3,h4⟩:=jc h;rw[gI,xP]at h1;refine⟨h1.2,h2,?_,h4⟩;rw[aP,if_neg]
    .exact h3
    .rintro rfl;exact A89 h1.1 rfl
   unfold lV at h;split at h
   .rename_i hm;obtain⟨h1,h2,h3,h4⟩:=jc h;refine⟨h1,h2,?_,h4⟩;rw[aP,if_neg]
    .exact h3
    .rintro rfl;rw[hm]at h1;cases h1
   .rename_i hm;split at h
    .exact skip h
    .rename_i hw;split at h
     .rename_i hc;rw[au,A8]at hc;rw[aP]at h;split at h
      .rename_i hk;subst hk;cases h;refine⟨hm,hw,by rw[aP,if_pos rfl],?_,hc.2⟩
       cases g with
       | nil=>rfl
       | cons _ _=>have:=hc.1;cases this
      .exact skip h
     .exact skip h
theorem FI{s:St}:∀{l:List (Nat×SV)},Ag s l->∀p∈l,∃u,dZ s.env p.1=some ([],.one u)/\PG u=p.2
 | [],_,p,hp=>by simp at hp
 | (k,v) :: l,⟨h1,h2⟩,p,hp=>by
   rcases iV.1 hp with rfl | hp
   .split at h1
    .rename_i u hu;exact⟨u,hu,h1⟩
    .cases h1
   .exact FI h2 p hp
theorem Ug{u v:SV}{z:Value} (e:PG u=v) (hv:bI h β' v z\/bI h β u z) (hb:u=v->bI h β u z->bI h β' v z):bI h β' v z:=by
 rcases hv with hv | hu
 .exact hv
 .unfold PG at e;split at e
  .split at e
   .subst e;exact⟨hu.1.1,hu.2⟩
   .exact hb e hu
  .exact hb e hu
theorem nP{s:St}:∀{l:List (Nat×SV)},zx s l=true->∀p∈l,dZ s.env p.1=some ([],.one p.2)
 | [],_,p,hp=>by simp at hp
 | (k,.c (.own i off)) :: l,h,p,hp=>by
   simp only[zx]at h;split at h
   .rename_i i' off' hu;rw[au,au,A8,A8]at h;rcases iV.1 hp with rfl | hp
    .have e1:=fC h.1.1;have e2:=fC h.1.2;rw[hu,e1,e2]
    .exact nP h.2 p hp
   .cases h
 | (k,.c (.row i)) :: l,h,p,hp=>by
   simp only[zx]at h;split at h
   .rename_i i' hu;rw[au,A8]at h;rcases iV.1 hp with rfl | hp
    .have e1:=fC h.1;rw[hu,e1]
    .exact nP h.2 p hp
   .cases h
 | (k,.c (.v _)) :: l,h,p,hp=>by cases h
 | (k,.c (.sl _ _)) :: l,h,p,hp=>by cases h
 | (k,.c (.fp _ _)) :: l,h,p,hp=>by cases h
 | (k,.c (.iw _ _ _ _)) :: l,h,p,hp=>by cases h
 | (k,.c (.abs _)) :: l,h,p,hp=>by cases h
 | (k,.c .junk) :: l,h,p,hp=>by cases h
 | (k,.agg _) :: l,h,p,hp=>by cases h
 | (k,.dat _ _) :: l,h,p,hp=>by cases h
 | (k,.und) :: l,h,p,hp=>by cases h
theorem lX{n:Nat}{ws:List Nat}:∀{l:List (Nat×Gd×bK)}{seen:List Nat},∀p∈keepR n ws seen l,uP n p.2=true
 | [],_,p,hp=>by simp[keepR]at hp
 | (k,g,e) :: l,seen,p,hp=>by
   unfold keepR at hp
   repeat' (split at hp)
   all_goals first
    | exact lX p hp
    | (
     rcases iV.1 hp with rfl | hp
     .assumption
     .exact lX p hp)
theorem nR{n:Nat}{ws:List Nat}:∀{l:List (Nat×Gd×bK)}{seen:List Nat},∀p∈keepR n ws seen l,dV p.1 seen=false/\dZ l p.1=some ([],.one p.2)
 | [],_,p,hp=>by simp[keepR]at hp
 | (k,g,e) :: l,seen,p,hp=>by
   have abv:dV k seen=true->p∈keepR n ws seen l->dV p.1 seen=false/\dZ ((k,g,e) :: l) p.1=some ([],.one p.2):=by
    intro hm hp;obtain⟨h1,h2⟩:=nR p hp;refine⟨h1,?_⟩;rw[aP,if_neg]
    .exact h2
    .rintro rfl;rw[hm]at h1;cases h1
   have zA:p∈keepR n ws (k :: seen) l->dV p.1 seen=false/\dZ ((k,g,e) :: l) p.1=some ([],.one p.2):=by
    intro hp;obtain⟨h1,h2⟩:=nR p hp;rw[gI,xP]at h1;refine⟨h1.2,?_⟩;rw[aP,if_neg]
    .exact h2
    .rintro rfl;exact A89 h1.1 rfl
   unfold keepR at hp;split at hp
   .rename_i hm;exact abv hm hp
   .rename_i hm;split at hp
    .exact zA hp
    .split at hp
     .rename_i hn;have hg:g=[]:=by cases g with | nil=>rfl | cons _ _=>simp[isNil]at hn
      subst hg;split at hp
      .split at hp
       .rcases iV.1 hp with rfl | hp
        .exact⟨hm,by rw[aP,if_pos rfl]⟩
        .exact zA hp
       .exact zA hp
      .split at hp
       .rcases iV.1 hp with rfl | hp
        .exact⟨hm,by rw[aP,if_pos rfl]⟩
        .exact zA hp
       .exact zA hp
      .exact zA hp
     .exact zA hp
theorem iL{α:Type}{l:List α} (h:i < n):(l.take n)[i]?=l[i]?:=by
 rw[qU,if_pos h]
theorem bU.below:∀{x:SC}{y:Value},xK n x=true->bU h β x y->bU h (β.take n) x y
 | .v _,_,_,c=>c
 | .sl _ _,_,_,c=>c
 | .fp _ _,_,_,c=>c
 | .one _ _,_,_,c=>c
 | .own i _,_,f,⟨b,e,e'⟩=>⟨b,by rw[iL (by have:=kM f;omega)];exact e,e'⟩
 | .row i,_,f,⟨v,e,e'⟩=>⟨v,by rw[iL (by have:=kM f;omega)];exact e,e'⟩
 | .sub i _,_,f,⟨v,us,e,e'⟩=>⟨v,us,by rw[iL (by have:=kM f;omega)];exact e,e'⟩
 | .jC i _ _ _ _,_,f,⟨v,us,g,e,e'⟩=>⟨v,us,g,by rw[iL (by have:=kM f;omega)];exact e,e'⟩
 | .iw i _ _ _,_,f,⟨v,g,e,e'⟩=>⟨v,g,by rw[iL (by have:=kM f;omega)];exact e,e'⟩
 | .abs _,_,_,c=>c
 | .junk,_,_,_=>trivial
theorem bI.below{h:FH}{β:List RV}{n:Nat}:∀{x:SV}{y:Value},uP n x=true->bI h β x y->bI h (β.take n) x y
 | .c _,_,f,c=>⟨c.1.below f,c.2⟩
 | .agg _,_,f,⟨ys,e,a⟩=>⟨ys,e,a.allL (λ_ _ f ⟨p,q⟩=>⟨p.below f,q⟩) f⟩
 | .dat _ _,_,_,c=>c
 | .und,_,_,c=>c
theorem Holds.below{h:FH}{β:List RV}{w:World}{n:Nat}:∀{r:ay}{v:RV},jr n r=true->Holds h β w r v->Holds h (β.take n) w r v
 | .blk _ _,.blk _,f,⟨ys,e,a⟩=>⟨ys,e,a.allL (λ_ _ f ⟨p,q⟩=>⟨p.below f,q⟩) f⟩
 | .row _ _ _,.row _,_,c=>c
 | .obj _ _ _,.blk _,_,c=>c
 | .deep _ _ _ _ _ _ _ _,.deep _ _,_,c=>c
 | .mp _ _ _,.row _,_,c=>c
 | .Gj _ _ _ _,.deep _ _,_,c=>c
 | .it _ _ _ _,.blk _,_,c=>c
 | .Ei _ _ _ _,.row _,_,c=>c
 | .Aw _ _ _ _,.deep _ _,_,c=>c
 | .gone,_,_,_=>trivial
theorem bU.jv:∀{x:SC}{y:Value},iZ x=true->bU h β x y->∀β',bU h β' x y
 | .v _,_,_,c=>λ_=>c
 | .sl _ _,_,_,c=>λ_=>c
 | .fp _ _,_,_,c=>λ_=>c
 | .abs _,_,_,c=>λ_=>c
 | .junk,_,_,_=>λ_=>trivial
 | .one _ _,_,_,c=>λ_=>c
 | .own _ _,_,f,_=>by simp[iZ]at f
 | .row _,_,f,_=>by simp[iZ]at f
 | .iw _ _ _ _,_,f,_=>by simp[iZ]at f
 | .sub _ _,_,f,_=>by simp[iZ]at f
 | .jC _ _ _ _ _,_,f,_=>by simp[iZ]at f
theorem bI.jv{h:FH}{β:List RV} (β':List RV):∀{x:SV}{y:Value},wo x=true->bI h β x y->bI h β' x y
 | .c _,_,f,c=>⟨c.1.jv f β',c.2⟩
 | .agg _,_,f,⟨ys,e,a⟩=>⟨ys,e,a.allL (λ_ _ f ⟨p,q⟩=>⟨p.jv f β',q⟩) f⟩
 | .dat _ _,_,_,c=>c
 | .und,_,_,c=>c
theorem gJ.jv{h:FH}{β:List RV} (β':List RV):∀{x:bK}{y:Value},oG x=true->gJ h β x y->gJ h β' x y
 | .one _,_,f,c=>bI.jv β' f c
 | .l7 _,_,f,⟨ys,e,a⟩=>⟨ys,e,a.allL (R':=bI h β') (λ_ _ f c=>bI.jv β' f c) f⟩
theorem OK.take{B:Base}{h0:FH}{T:List ay}{h:FH}{β:List RV}{w:World} (ok:OK B h0 T h β w){n:Nat} (hn:n<=T.length) (below:∀r∈T.take n,jr n r=true):OK B h0 (T.take n) h (β.take n) w where
 below:=ok.below
 dr:=ok.dr
 len:=by simp[ok.len]
 holds:=by
  intro i r v e e';have hi:i < n:=by have:=(fM.1 e).1;simp at this;omega
  have hm:=below r (lI e);rw[iL hi]at e e';exact(ok.holds i r v e e').below hm
 own:=by
  intro i r v b e l e' hb;have hi:i < n:=by have:=(fM.1 e).1;simp at this;omega
  rw[iL hi]at e e';exact ok.own i r v b e l e' hb
 inj:=by
  intro i j r r' u v b e l e' l' f f' hb hb';have hi:i < n:=by have:=(fM.1 e).1;simp at this;omega
  have hj:j < n:=by have:=(fM.1 e').1;simp at this;omega
  rw[iL hi]at e f;rw[iL hj]at e' f';exact ok.inj i j r r' u v b e l e' l' f f' hb hb'
 hle:=ok.hle
 hw:=ok.hw
 hg:=ok.hg
 kn:=ok.kn
theorem uQ{α:Type}{p:α->Bool}:∀{l:List α},allL p l=true->∀x∈l,p x=true
 | [],_,x,hx=>by simp at hx
 | y :: l,h,x,hx=>by
   simp only[allL,au,A8]at h;rcases iV.1 hx with rfl | hx
   .exact h.1
   .exact uQ h.2 x hx
theorem kL{gl:List Bool}:∀{T:List (Gd×ay)}{n:Nat},(∀p∈T.take n,p.1=[])->eff [] (T.take n)=(eff gl T).take n
 | [],n,_=>by simp[eff]
 | (g,r) :: l,0,_=>by simp[eff]
 | (g,r) :: l,n+1,h=>by
   have hg:g=[]:=h (g,r) (by simp)
   subst hg;simp only[List.take_succ_cons,eff];rw[kL (gl:=gl) (T:=l) λp hp=>h p (by simp[hp])]
theorem uS:∀(rs:List (Nat×ay)) (T:List (Gd×ay)),(iG rs T).length=T.length
 | [],_=>rfl
 | (i,r) :: l,T=>by simp only[iG];rw[uS,cO,xu]
theorem uT{s':St} (ah:Sat N B h0 s' h β w a){ws:List Nat}{sl:List (Nat×SV)}{rs:List (Nat×ay)}
 (hT:mP (aC s.T) s'.T=iG rs s.T) (gT:rF (aC s.T) (iG rs s.T)=true) (gS:Bh (aC s.T) ws sl=true) (hE:Ag s' sl)
 (hR:∀p∈keepR (aC s.T) ws [] s.env,dZ s'.env p.1=some ([],.one p.2))
 (D:∀t e,dZ (lV ws [] s.env) t=some ([],e)->∃z,a.tmps[t]?=some z/\gJ h [] e z):
 Sat N B h0 (mF ws s sl rs) h (β.take (aC s.T)) w a:=by
 have e1:=hT;rw[gY]at e1;have g1:∀p∈iG rs s.T,p.1=[]/\jr (aC s.T) p.2=true:=by
  intro p hp;have:=uQ gT p hp;rw[au,A8]at this;refine⟨?_,this.2⟩;have h2:=this.1;cases hh:p.1 with
  | nil=>rfl
  | cons _ _=>rw[hh]at h2;simp[isNil]at h2
 have hlen:aC s.T<=s'.T.length:=by
  have:=qV List.length e1;rw[uS,lY,aK]at this;rw[aK];omega
 have look:∀{v:SV}{t:Nat},uP (aC s.T) v=true->dZ s'.env t=some ([],.one v)->∃z,a.tmps[t]?=some z/\bI h (β.take (aC s.T)) v z:=by
  intro v t hb hl;obtain⟨z,q1,q2,_⟩:=ah.env t [] _ hl;exact⟨z,q1,bI.below hb (q2 rfl)⟩
 have abw:∀{v:SV}{t:Nat},uP (aC s.T) v=true->(∃u,dZ s'.env t=some ([],.one u)/\PG u=v)->∃z,a.tmps[t]?=some z/\bI h (β.take (aC s.T)) v z:=by
  rintro v t hb ⟨u,hl,hu⟩;obtain⟨z,q1,q2,_⟩:=ah.env t [] _ hl;exact⟨z,q1,Ug hu (.inr (q2 rfl)) λe c=>bI.below hb (e▸c)⟩
 refine⟨?_,?_,?_,ah.defers,ah.sz,?_,?_⟩
 .show OK B h0 (eff [] (iG rs s.T)) h (β.take (aC s.T)) w;rw[<-e1,kL (gl:=s'.gl) λp hp=>by rw[e1]at hp;exact(g1 p hp).1]
  refine ah.ok.take (by rw[eF];exact hlen) ?_
  rw[<-kL (gl:=s'.gl) λp hp=>by rw[e1]at hp;exact(g1 p hp).1]
  rw[e1];have:∀{l:List (Gd×ay)},(∀p∈l,p.1=[]/\jr (aC s.T) p.2=true)->∀r∈eff [] l,jr (aC s.T) r=true:=by
   intro l
   induction l with
   | nil=>intro _ r hr;simp[eff]at hr
   | cons q l ih=>
     obtain⟨g,r0⟩:=q;intro hh r hr;have hg:=hh (g,r0) (by simp)
     have hg1:g=[]:=hg.1;subst hg1;simp only[eff]at hr;rcases iV.1 hr with rfl | hr
     .exact hg.2
     .exact ih (λp hp=>hh p (by simp[hp])) r hr
  exact this g1
 .intro t G e ht;simp only[mF]at ht ⊢;rw[lW]at ht;split at ht
  .rename_i x hx;cases ht;obtain⟨v,rfl,rfl,hm⟩:=kR hx;have hb:=uQ gS _ hm;rw[au,A8]at hb;obtain⟨z,q1,q2⟩:=abw hb.1 (FI hE _ hm);exact⟨z,q1,λ_=>q2,λhh=>by cases hh⟩
  .rw[lW]at ht;split at ht
   .rename_i x hx;cases ht;obtain⟨v,rfl,rfl,hm⟩:=kR hx;obtain⟨z,q1,q2⟩:=look (lX _ hm) (hR _ hm);exact⟨z,q1,λ_=>q2,λhh=>by cases hh⟩
   .obtain⟨_,_,_,rfl,hf⟩:=jc ht;obtain⟨z,q1,q2⟩:=D t e ht;exact⟨z,q1,λ_=>gJ.jv _ hf q2,λhh=>by cases hh⟩
 .intro d i hi;cases hi
 .intro t G e ht;simp only[mF]at ht;rw[lW]at ht;split at ht
  .rename_i x hx;cases ht;obtain⟨_,_,rfl,_⟩:=kR hx;rfl
  .rw[lW]at ht;split at ht
   .rename_i x hx;cases ht;obtain⟨_,_,rfl,_⟩:=kR hx;rfl
   .obtain⟨_,_,_,rfl,_⟩:=jc ht;rfl
 .intro p hp;rw[(g1 p hp).1]
def Base.leB(B B':Base):Prop:=B'.toWorld=B.toWorld/\B'.al=B.al/\∀k o,B.nc k o->B'.nc k o
theorem Base.leB.refl(B:Base):B.leB B:=⟨rfl,rfl,λ_ _ h=>h⟩
theorem Base.leB.trans{A B C:Base} (x:A.leB B) (y:B.leB C):A.leB C:=⟨y.1.trans x.1,y.2.1.trans x.2.1,λk o h=>y.2.2 k o (x.2.2 k o h)⟩
def Base.PL(r:Bool) (B B':Base):Prop:=B.leB B'/\(r=true->B'=B)
theorem Base.PL.refl{r:Bool} (B:Base):Base.PL r B B:=⟨.refl B,λ_=>rfl⟩
theorem Base.PL.trans{r:Bool}{A B C:Base} (x:Base.PL r A B) (y:Base.PL r B C):Base.PL r A C:=⟨x.1.trans y.1,λh=>(y.2 h).trans (x.2 h)⟩
theorem OK.Ik{B':Base} (ok:OK B h0 T h β w) (e:B'.toWorld=B.toWorld) (ea:B'.al=B.al) (kn:∀k o,B'.nc k o->w.heap[k]?=some o):OK B' h0 T h β w where
 below:=⟨by rw[e];exact ok.below.os,by rw[e];exact ok.below.tape,by rw[e];exact ok.below.output,by rw[e];exact ok.below.size,by rw[e,ea];exact ok.below.block⟩
 dr:=by rw[e];exact ok.dr
 len:=ok.len
 holds:=ok.holds
 own:=by rw[ea];exact ok.own
 inj:=ok.inj
 hle:=ok.hle
 hw:=ok.hw
 hg:=by rw[ea];exact ok.hg
 kn:=kn
def ownB(T:List ay) (β:List RV) (b:Nat):Prop:=∃(i:Nat) (r:ay) (v:RV),T[i]?=some r/\r.live=true/\β[i]?=some v/\v.has b
abbrev Base.rd(B:Base) (T:List ay) (β:List RV) (A:World):Base:=
 { A with nc:=B.nc,cell:=B.cell,al:=λk=>ownB T β k\/A.heap.size<=k,up:=λ_ h=>.inr h }
theorem OK.enter(ok:OK B h0 T h β A):OK (B.rd T β A) h T h β A where
 below:=⟨rfl,rfl,rfl,lD _,λ_ _ _=>rfl⟩
 dr:=lD _
 len:=ok.len
 holds:=ok.holds
 own:=λi r v b e hl e' hb=>⟨.inl ⟨i,r,v,e,hl,e',hb⟩,(ok.own i r v b e hl e' hb).2⟩
 inj:=ok.inj
 hle:=FH.le.refl h
 hw:=ok.hw
 hg:=λb o v hh=>.inl hh
 kn:=ok.kn
theorem OK.leave(ok:OK B h0 T h β A){T':List ay}{h':FH}{A':World}{Br:Base} (e:Br.toWorld=A) (ea:Br.al=(B.rd T β A).al) (en:∀k o,B.nc k o->Br.nc k o) (ok':OK Br h T' h' β' A'):OK B h0 T' h' β' A':=by
 have toB:∀k,Br.al k->B.al k:=by
  intro k hk;rw[ea]at hk;rcases hk with⟨i,r,v,h1,h2,h3,h4⟩ | hk
  .exact(ok.own i r v k h1 h2 h3 h4).1
  .exact B.up k (nV ok.below.size hk)
 subst e;have cell:∀k,ownB T β k->∃o,Br.heap[k]?=some o/\ours o=true:=by
  rintro k ⟨i,r,v,h1,h2,h3,h4⟩;exact(ok.holds i r v h1 h3).cells h2 h4
 refine⟨⟨ok'.below.os.trans ok.below.os,ok'.below.tape.trans ok.below.tape,ok'.below.output.trans ok.below.output,nV ok.below.size ok'.below.size,λk hk ha=>?_⟩,nV ok.dr ok'.dr,ok'.len,ok'.holds,
  λi r v b e1 l1 e2 hb=>⟨toB b (ok'.own i r v b e1 l1 e2 hb).1,(ok'.own i r v b e1 l1 e2 hb).2⟩,ok'.inj,ok.hle.trans ok'.hle,ok'.hw,λb o v hh=>?_,λk o hk=>ok'.kn k o (en k o hk)⟩
 .exact(ok'.below.block k (Ee hk ok.below.size) (λhh=>ha (toB k hh))).trans (ok.below.block k hk ha)
 .rcases ok'.hg b o v hh with h1 | h1
  .exact ok.hg b o v h1
  .exact .inr (toB b h1)
theorem OK.gs{B:Base}{h0:FH}{T:List ay}{h:FH}{β:List RV}{A A':World} (ok:OK B h0 T h β A){G:Nat->Prop} (gs:Gs G A A') (hB:∀k,G k->B.heap.size<=k) (hO:∀k,ownB T β k->¬G k) (hF:∀k o v,h k o=some v->¬G k) (hN:∀k o,B.nc k o->¬G k):OK B h0 T h β A':=by
 have cl:∀b o v,h b o=some v->vis A' b o=some v:=by
  intro b o v hh;have h1:=ok.hw b o v hh;exact(iq (gs.block b (jV h1) (hF b o v hh))).trans h1
 exact {
  below:=⟨gs.os.trans ok.below.os,gs.tape.trans ok.below.tape,gs.output.trans ok.below.output,nV ok.below.size gs.size,λk hk ha=>(gs.block k (Ee hk ok.below.size) (λhg=>by have:=hB k hg;omega)).trans (ok.below.block k hk ha)⟩
  dr:=nV ok.dr gs.dr
  len:=ok.len
  holds:=λi r v e e'=>(ok.holds i r v e e').move (FH.le.refl h) (Ext.refl _) λhl b hb=>gs.block b (ok.own i r v b e hl e' hb).2.1 (hO b ⟨i,r,v,e,hl,e',hb⟩)
  own:=λi r v b e hl e' hb=>by
   obtain⟨h1,h2,h3⟩:=ok.own i r v b e hl e' hb;exact⟨h1,Ee h2 gs.size,h3⟩
  inj:=ok.inj
  hle:=ok.hle
  hw:=cl
  hg:=ok.hg
  kn:=λk o hk=>by
   have h1:=ok.kn k o hk;exact(gs.block k (xk.1 h1).1 (hN k o hk)).trans h1 }
theorem OK.turn(ok:OK B h0 T h β w){l:Nat}{o o':Obj} (hB:B.al l) (hn:∀k u,B.nc k u->k≠l) (hl:w.heap[l]?=some o) (ho:ours o=false):OK B h0 T h β (w.putObj l o'):=by
 have cl:∀{b i:Nat}{v:Value},vis w b i=some v->vis (w.putObj l o') b i=some v:=by
  intro b i v hv;have hne:b≠l:=by
   intro e;unfold vis at hv;rw[e,hl]at hv;cases o<;>simp_all[ours]
  exact(iq (World.putObj_heap_other hne)).trans hv
 exact {
  below:=ok.below.grown (row:=some l) ⟨rfl,rfl,rfl,by simp,λk _ hk=>World.putObj_heap_other (λe=>hk (by rw[e]))⟩ (λk e=>by cases e;exact hB)
  dr:=ok.dr
  len:=ok.len
  holds:=λi r v e e'=>(ok.holds i r v e e').move (FH.le.refl h) (Ext.refl _) λhlv b hb=>World.putObj_heap_other (by
   rintro rfl;obtain⟨o1,h1,h2⟩:=(ok.holds i r v e e').cells hlv hb;rw[hl]at h1;cases h1;rw[ho]at h2;cases h2)
  own:=λi r v b e hlv e' hb=>by
   obtain⟨h1,h2,h3⟩:=ok.own i r v b e hlv e' hb;exact⟨h1,by simpa using h2,h3⟩
  inj:=ok.inj
  hle:=ok.hle
  hw:=λb o v hh=>cl (ok.hw b o v hh)
  hg:=ok.hg
  kn:=λk u hk=>(World.putObj_heap_other (hn k u hk)).trans (ok.kn k u hk) }
theorem uU{n:Nat}{ws:List Nat}:∀{l:List (Nat×Gd×bK)}{seen:List Nat},∀p∈keepR n ws seen l,dV p.1 ws=false
 | [],_,p,hp=>by simp[keepR]at hp
 | (k,g,e) :: l,seen,p,hp=>by
   unfold keepR at hp
   repeat' (split at hp)
   all_goals first
    | exact uU p hp
    | (
     rcases iV.1 hp with rfl | hp
     .assumption
     .exact uU p hp)
theorem qw{T:List (Gd×ay)} (h:rF n T=true):∀p∈T,p.1=[]/\jr n p.2=true:=by
 intro p hp;have:=uQ h p hp;rw[au,A8]at this;refine⟨?_,this.2⟩;have h2:=this.1;cases hh:p.1 with
 | nil=>rfl
 | cons _ _=>rw[hh]at h2;simp[isNil]at h2
theorem JX{gl:List Bool}:∀{T:List (Gd×ay)},(∀p∈T,p.1=[])->eff [] T=eff gl T
 | [],_=>rfl
 | (g,r) :: l,h=>by
   have hg:g=[]:=h (g,r) (by simp)
   subst hg;simp only[eff];rw[JX (gl:=gl) (T:=l) λp hp=>h p (by simp[hp])]
theorem DK(ah:Sat N B h0 s h β w a){ws dr:List Nat}{h':FH} (le:h.le h')
 (refs:∀p∈keepR (aC s.T) ws [] s.env,∃z,a.tmps[p.1]?=some z/\bI h' β' p.2 z):∀t G e,dZ (Ue ws dr s) t=some (G,e)->G=[]/\(dV t ws=false\/dV t dr=false)/\∃z,a.tmps[t]?=some z/\gJ h' β' e z:=by
 intro t G e ht;simp only[Ue]at ht;rw[lW]at ht;split at ht
 .rename_i x hx;cases ht;obtain⟨v,rfl,rfl,hm⟩:=kR hx;obtain⟨z,q1,q2⟩:=refs _ hm;exact⟨rfl,.inl (uU _ hm),z,q1,q2⟩
 .obtain⟨_,hd,hl,rfl,hf⟩:=jc ht;obtain⟨z,q1,q2,_⟩:=ah.env t [] e hl;exact⟨rfl,.inr hd,z,q1,(gJ.jv β' hf (q2 rfl)).mono le (Ext.refl _)⟩
theorem PN{B':Base} (ah:Sat N B h0 s h β w a){ws dr:List Nat}{h':FH}{a':Act} (le:h.le h')
 (refs:∀p∈keepR (aC s.T) ws [] s.env,∃z,a.tmps[p.1]?=some z/\bI h' β' p.2 z){T:List (Gd×ay)}{gl:List Bool} (ok:OK B' h0 (eff gl T) h' β' A) (gT:∀p∈T,pz gl.length p.1=true) (ht:a'.tmps=a.tmps) (df:Gw B' a'):
 Sat N B' h0 { env:=Ue ws dr s,T:=T,gl:=gl,gs:=[] } h' β' A a' where
 ok:=ok
 env:=λt G e h1=>by
  obtain⟨rfl,_,z,q1,q2⟩:=DK ah le refs t G e h1;exact⟨z,by rw[ht];exact q1,λ_=>q2,λhh=>by cases hh⟩
 gs:=λd i hi=>by cases hi
 defers:=df
 sz:=by rw[ht];exact ah.sz
 gb:=λt G e h1=>by
  obtain⟨rfl,_⟩:=DK ah le refs t G e h1;rfl
 gT:=gT
theorem fold_size:∀(l:List (Nat×Value)) (t:Array Value),(l.foldl (λt (p:Nat×Value)=>t.setIfInBounds p.1 p.2) t).size=t.size
 | [],_=>rfl
 | _ :: l,t=>by simp only[Xe];rw[fold_size l];simp
theorem sS{k:Nat}:∀(l:List (Nat×Value)) (t:Array Value),(∀p∈l,p.1≠k)->(l.foldl (λt (p:Nat×Value)=>t.setIfInBounds p.1 p.2) t)[k]?=t[k]?
 | [],_,_=>rfl
 | (p,v) :: l,t,h=>by
   simp only[Xe];rw[sS l _ λq hq=>h q (by simp[hq])]
   exact V4 (h (p,v) (by simp))
theorem zB(ps:Array Tmp) (vs:List Value) (t:Array Value):(ps.zip vs.toArray).foldl (λt (p,v)=>t.setIfInBounds p v) t=((tl ps).zip vs).foldl (λt (p:Nat×Value)=>t.setIfInBounds p.1 p.2) t:=by
 cases ps with
 | mk l=>simp
theorem PO{h:FH}{n:Nat}:∀{ps:List Nat}{ss:List Sh}{d:bg ss}{vs:List Value}{t:Array Value},t.size=n->rG n ps ss=true->wG h ss d vs ->
 (∀k G e,dZ (FC ps ss d) k=some (G,e)->G=[]/\∃z,((ps.zip vs).foldl (λt (p:Nat×Value)=>t.setIfInBounds p.1 p.2) t)[k]?=some z/\∀β,gJ h β e z) /\
 (∀k,dZ (FC ps ss d) k=none->dV k ps=false)
 | [],[],d,vs,t,_,_,_=>⟨λk G e hh=>by simp[FC,dZ]at hh,λk _=>rfl⟩
 | [],_ :: _,d,vs,t,_,hp,_=>by simp[rG]at hp
 | _ :: _,[],d,vs,t,_,hp,_=>by simp[rG]at hp
 | p :: ps,s :: ss,d,vs,t,hn,hp,hv=>by
   cases vs with
   | nil=>exact hv.elim
   | cons v vs=>
     simp only[rG,au,A8]at hp;obtain⟨⟨hp1,hp2⟩,hp3⟩:=hp;have hp2:dV p ps=false:=by simpa using hp2
     have hp1:=kM hp1;obtain⟨i1,i2⟩:=PO (t:=t.setIfInBounds p v) (by simp[hn]) hp3 hv.2
     have hnot:∀q∈ps.zip vs,q.1≠p:=by
      intro q hq e;have hm:q.1∈ps:=(List.of_mem_zip hq).1;rw[e]at hm;have:∀{l:List Nat},p∈l->dV p l=true:=by
       intro l
       induction l with
       | nil=>intro h;cases h
       | cons x l ih=>
         intro h;rw[gI];rcases iV.1 h with rfl | h
         .simp
         .rw[ih h];simp
      rw[this hm]at hp2;cases hp2
     refine⟨λk G e hh=>?_,λk hh=>?_⟩
     .simp only[FC]at hh;rw[aP]at hh;split at hh
      .rename_i hk;subst hk;cases hh;refine⟨rfl,v,?_,λβ=>?_⟩
       .simp only[List.zip_cons_cons,Xe];rw[sS _ _ hnot];rw[Array.getElem?_setIfInBounds_self_of_lt (by omega)]
       .obtain⟨cs,rfl,r⟩:=hv.1;exact gq s r
      .simpa only[List.zip_cons_cons,Xe]using i1 k G e hh
     .simp only[FC]at hh;rw[aP]at hh;split at hh
      .cases hh
      .rename_i hk;rw[gI,i2 k hh,Bool.or_false];cases hb:Nat.beq k p with
       | false=>rfl
       | true=>exact absurd (fC hb).symm hk
def Apt(n:Nat) (T:List ay) (h:FH) (β:List RV) (G:Nat->Prop):Prop:=(∀b,G b->n<=b)/\(∀b,ownB T β b->¬G b)/\∀b o v,h b o=some v->¬G b
theorem Bl{G:Nat->Prop} (ok':OK B h0 T h β A) (ap:Apt n T h β G) (apb:∀b,G b->b < A.heap.size)
 {B2:Base}{s2:St}{h2:FH}{β2:List RV}{A2:World}{a2:Act} (vC:(B.rd T β A).leB B2) (aQ:Sat N B2 h s2 h2 β2 A2 a2):
 OK B h0 (eff s2.gl s2.T) h2 β2 A2/\Apt n (eff s2.gl s2.T) h2 β2 G/\A.heap.size<=A2.heap.size/\(∀k,k < A.heap.size->¬ownB T β k->A2.heap[k]?=A.heap[k]?) /\
  (∀k o,A.heap[k]?=some o->ours o=false->¬ownB T β k):=by
 have same:∀k,k < A.heap.size->¬ownB T β k->A2.heap[k]?=A.heap[k]?:=by
  intro k hk hn;have h1:=aQ.ok.below;have h2:=vC.1;have h3:B2.al k↔(ownB T β k\/A.heap.size<=k):=by rw[vC.2.1]
  have h4:=h1.block k (by rw[h2];exact hk) (λhh=>by rcases h3.1 hh with hh | hh<;>first | exact hn hh | omega)
  rw[h2]at h4;exact h4
 refine⟨ok'.leave vC.1 vC.2.1 vC.2.2 aQ.ok,⟨ap.1,?_,?_⟩,?_,same,?_⟩
 .rintro b ⟨i,r,v,e1,e2,e3,e4⟩ hb;have hh:=(aQ.ok.own i r v b e1 e2 e3 e4).1;rw[vC.2.1]at hh;rcases hh with hh | hh
  .exact ap.2.1 b hh hb
  .have:=apb b hb;omega
 .intro b o v hh hb;rcases aQ.ok.hg b o v hh with h1 | h1
  .exact ap.2.2 b o v h1 hb
  .rw[vC.2.1]at h1;rcases h1 with h1 | h1
   .exact ap.2.1 b h1 hb
   .have:=apb b hb;omega
 .have:=aQ.ok.below.size;rw[vC.1]at this;exact this
 .rintro k o hk ho ⟨i,r,v,e1,e2,e3,e4⟩;obtain⟨o',q1,q2⟩:=(ok'.holds i r v e1 e3).cells e2 e4;rw[hk]at q1;cases q1;rw[ho]at q2;cases q2
theorem PS{zS c:Code} (rec:∀(c':Code),c'=zS\/c'=c->∀(h0:FH) (E:Env) (B:Base) (s:St) (h:FH) (β:List RV) (w:World) (a:Act) (K:Exit->St->Prop) (Q:Exit->Act->World->Prop) (l:Nat),dP P E->aB E.cx.gd h0->E.rd=true->Sat E.n B h0 s h β w a ->
 gy E c' s K->(∀e s' h' β' w' a' B',Base.PL E.rd B B'->K e s'->h.le h'->Sat E.n B' h0 s' h' β' w' a'->Same (writes c') a a'->Q e a' w')->c'.wpIn (Fence.wide.inRound l) 0 P Q a w)
 (ok:dP P E) (hg:aB E.cx.gd h0){K:Exit->St->Prop} (ah:Sat E.n B h0 s h β w a)
 {g:Operand}{ss:List Sh}{L:List (bg ss)} (gv:Gives P h ss L (a.eval g)){ps:Array Tmp}{ra:RA}
 (k:Ii E.n (λs K=>gy { E with rd:=true } zS s λe s'=>match e with
  | .normal=>gy { E with rd:=true } c s' K
  | _=>False) (dw ra.drop (dw (tl ps) (dw (writes zS) (writes c)))) ra (tl ps) ss L s K)
 (hrd:E.rd=false) (next:∀e s' h' β' w' a' B',Base.PL E.rd B B'->K e s'->h.le h'->Sat E.n B' h0 s' h' β' w' a'->Same [] a a'->Q e a' w'):(Code.rangeFunc g ps zS c).wpIn Fence.wide n P Q a w:=by
 unfold Ii at k;split at k
 .cases k
 rename_i hpar;obtain⟨⟨x0,i0,t0⟩,kr,kd⟩:=k;obtain⟨ws,hws⟩:∃ws,ws=dw ra.drop (dw (tl ps) (dw (writes zS) (writes c))):=⟨_,rfl⟩;rw[<-hws]at kr kd;have good:∀i x,i<=L.length->ra.inv i x->rF (aC s.T) (iG (ra.res x) s.T)=true:=by
  intro i x hi hx;cases hd:L[i]? with
  | some d=>
    have:=kr i x d hx hd;split at this
    .cases this
    .rename_i hh;exact hh
  | none=>
    have he:i=aC L:=by rw[aK];have:=List.getElem?_eq_none_iff.1 hd;omega
    subst he;have:=kd x hx;split at this
    .cases this
    .rename_i hh;exact hh
 have adS:∀x,aC s.T=(iG (ra.res x) s.T).length:=λx=>by rw[uS,aK]
 have hpl:ps.size=ss.length:=by
  have:∀{l:List Nat}{ss:List Sh},rG E.n l ss=true->l.length=ss.length:=by
   intro l
   induction l with
   | nil=>intro ss h;cases ss with | nil=>rfl | cons _ _=>simp[rG]at h
   | cons x l ih=>
     intro ss h;cases ss with
     | nil=>simp[rG]at h
     | cons s ss=>
       simp only[rG,au,A8]at h;simp[ih h.2]
  have h1:=this hpar;cases ps;simpa using h1
 have psw:∀t,dV t ws=false->dV t (tl ps)=false/\dV t (writes zS)=false/\dV t (writes c)=false:=by
  intro t ht;rw[hws,jq,jq,jq,xP,xP,xP]at ht;exact⟨ht.2.1,ht.2.2.1,ht.2.2.2⟩
 have JY:∀(vs:List Value) t,dV t (tl ps)=false->((ps.zip vs.toArray).foldl (λt (p,v)=>t.setIfInBounds p v) a.tmps)[t]?=a.tmps[t]?:=by
  intro vs t ht;rw[zB];refine sS _ _ λq hq e=>?_
  have hm:q.1∈tl ps:=(List.of_mem_zip hq).1;rw[e]at hm;have:∀{l:List Nat},t∈l->dV t l=true:=by
   intro l
   induction l with
   | nil=>intro h;cases h
   | cons x l ih=>
     intro h;rw[gI];rcases iV.1 h with rfl | h
     .simp
     .rw[ih h];simp
  rw[this hm]at ht;cases ht
 have abx:∀p∈keepR (aC s.T) ws [] s.env,∃z,a.tmps[p.1]?=some z/\bI h β p.2 z:=by
  intro p hp;obtain⟨z,q1,q2,_⟩:=ah.env _ _ _ (nR p hp).2;exact⟨z,q1,q2 rfl⟩
 have PU:∀kk o,B.nc kk o->kk < w.heap.size:=λkk o hk=>(xk.1 (ah.ok.kn kk o hk)).1
 have hBs:B.heap.size<=w.heap.size:=ah.ok.below.size
 -- the iterator's blocks are no one else's
 let Ap:List ay->FH->List RV->(Nat->Prop)->Prop:=λT h' β' G=>Apt w.heap.size T h' β' G
 have apG:∀{T:List ay}{h':FH}{β':List RV}{G G':Nat->Prop}{A A':World},OK B h0 T h' β' A->w.heap.size<=A.heap.size->Ap T h' β' G->Own' G G' A A'->Ap T h' β' G':=by
  intro T h' β' G G' A A' ok' hsz ⟨a1,a2,a3⟩ ho;refine⟨λb hb=>?_,λb hb hg=>?_,λb o v hb hg=>?_⟩
  .rcases(ho b hb).2 with h1 | h1
   .exact a1 b h1
   .omega
  .rcases(ho b hg).2 with h1 | h1
   .exact a2 b hb h1
   .obtain⟨i,r,v,e1,e2,e3,e4⟩:=hb;have:=(ok'.own i r v b e1 e2 e3 e4).2.1;omega
  .rcases(ho b hg).2 with h1 | h1
   .exact a3 b o v hb h1
   .have:=jV (ok'.hw b o v hb);omega
 have gsO:∀{T:List ay}{h':FH}{β':List RV}{G:Nat->Prop}{A A':World},OK B h0 T h' β' A->Ap T h' β' G->Gs G A A'->OK B h0 T h' β' A':=λok' ⟨a1,a2,a3⟩ gs=>
  ok'.gs gs (λk hk=>nV hBs (a1 k hk)) a2 a3 (λk o hk hg=>by have:=PU k o hk;have:=a1 k hg;omega)
 -- what holds between the rounds;what holds where a round has left
 let I:Nat->(Nat->Prop)->World->Prop:=λi G A=>i<=L.length/\(w.heap.size<=A.heap.size/\∀b,G b->b < A.heap.size)/\∃x h' β',Ap (eff [] (iG (ra.res x) s.T)) h' β' G/\ra.inv i x/\h.le h'/\OK B h0 (eff [] (iG (ra.res x) s.T)) h' β' A/\∀p∈keepR (aC s.T) ws [] s.env,∃z,a.tmps[p.1]?=some z/\bI h' β' p.2 z
 let Ix:Code->(Nat->Prop)->World->Prop:=λcc G A=>w.heap.size<=A.heap.size/\∃e T gl h' β',Ap (eff gl T) h' β' G/\((cc=.ret/\e=Exit.ret)\/∃j,cc=.exit j/\e=Exit.exit j)/\K e { env:=Ue ws ra.drop s,T:=T,gl:=gl,gs:=[] }/\h.le h'/\OK B h0 (eff gl T) h' β' A /\
  (∀p∈T,pz gl.length p.1=true)/\∀p∈keepR (aC s.T) ws [] s.env,∃z,a.tmps[p.1]?=some z/\bI h' β' p.2 z
 have dfr:∀A,A.heap[w.heap.size]?=some (.deferred (some []))->∃B':Base,B.leB B'/\Gw B' { a with defers:=sQ w.heap.size :: a.defers }/\(∀{T h' β'},OK B h0 T h' β' A->OK B' h0 T h' β' A):=by
  intro A hA;refine⟨{ B with nc:=λk o=>B.nc k o\/(k=w.heap.size/\o=.deferred (some [])),cell:=λk o hh=>hh.elim (B.cell k o) λhh=>by rw[hh.2] },⟨rfl,rfl,λk o hh=>.inl hh⟩,?_,λok'=>ok'.Ik rfl rfl (λk o hh=>hh.elim (ok'.kn k o) λhh=>by rw[hh.1,hh.2];exact hA)⟩
  obtain⟨X,x1,x2,x3⟩:=ah.defers;refine⟨w.heap.size :: X,by simp[x1,sQ],?_,?_⟩
  .refine Ry.2 ⟨λhm=>?_,x2⟩
   have:=PU _ _ (x3 _ hm).2;omega
  .intro D hD;rcases iV.1 hD with rfl | hD
   .exact⟨B.up _ hBs,.inr ⟨rfl,rfl⟩⟩
   .exact⟨(x3 D hD).1,.inl (x3 D hD).2⟩
 have fin:∀e cc G A,((cc=.ret/\e=Exit.ret)\/∃j,cc=.exit j/\e=Exit.exit j)->Ix cc G A->A.heap[w.heap.size]?=some (.deferred (some []))->Q e { a with defers:=sQ w.heap.size :: a.defers } A:=by
  rintro e cc G A he ⟨_,e',T,gl,h',β',_,he',kk,le,ok',gT,refs⟩ hA;have hee:e'=e:=by
   rcases he with⟨rfl,rfl⟩ | ⟨j,rfl,rfl⟩<;>rcases he' with⟨h1,h2⟩ | ⟨j',h1,h2⟩<;>first | (cases h1;exact h2) | cases h1
  subst hee;obtain⟨B',lb,df,up⟩:=dfr A hA;exact next _ _ h' β' A _ B' ⟨lb,λhh=>(by rw[hrd]at hh;cases hh)⟩ kk le (PN ah le refs (up ok') gT rfl df) λ_ _=>rfl
 refine MI gv hpl I Ix ?_ ?_ ?_ ?_ ?_ ?_ ?_ ?_ ?_ (λG A hA=>fin .ret .ret G A (.inl ⟨rfl,rfl⟩) hA) (λj G A hA=>fin (.exit j) (.exit j) G A (.inr ⟨j,rfl,rfl⟩) hA)
 .rintro i G A ⟨_,_,x,h',β',_,_,le,ok',_⟩;exact HW.mono le ok'.hw
 .rintro cc G A ⟨_,e,T,gl,h',β',_,he,kk,le,ok',_⟩;exact HW.mono le ok'.hw
 .rintro i G G' A A' ⟨hi,hsz,x,h',β',ap,i1,le,ok',refs⟩ gs ho;exact⟨hi,⟨nV hsz.1 gs.size,λb hb=>(ho b hb).1⟩,x,h',β',apG ok' hsz.1 ap ho,i1,le,gsO ok' ap gs,refs⟩
 .rintro cc G G' A A' ⟨hsz,e,T,gl,h',β',ap,he,kk,le,ok',gT,refs⟩ gs ho;exact⟨nV hsz gs.size,e,T,gl,h',β',apG ok' hsz ap ho,he,kk,le,gsO ok' ap gs,gT,refs⟩
 .rintro i G A l o o' ⟨hi,hsz,x,h',β',ap,i1,le,ok',refs⟩ hl hA ho;exact⟨hi,⟨by simpa using hsz.1,by simpa using hsz.2⟩,x,h',β',ap,i1,le,ok'.turn (B.up _ (nV hBs hl)) (λkk u hk e=>by have:=PU kk u hk;omega) hA ho,refs⟩
 .rintro cc G A l o o' ⟨hsz,e,T,gl,h',β',ap,he,kk,le,ok',gT,refs⟩ hl hA ho;exact⟨by simpa using hsz,e,T,gl,h',β',ap,he,kk,le,ok'.turn (B.up _ (nV hBs hl)) (λkk u hk e=>by have:=PU kk u hk;omega) hA ho,gT,refs⟩
 .refine⟨BU _,⟨lD _,λb hb=>hb.elim⟩,x0,h,β,⟨λb hb=>hb.elim,λb _ hb=>hb.elim,λb o v _ hb=>hb.elim⟩,i0,FH.le.refl h,?_,abx⟩
  have g0:=good 0 x0 (BU _) i0;rw[JX (gl:=s.gl) λp hp=>(qw g0 p hp).1,<-t0]
  exact ah.ok
 .rintro i d vs G A l o1 MJ o2 hd hv ⟨hi,⟨hsz,apb⟩,x,h',β',ap,i1,le,ok',refs⟩ hl hA1 ho1 adT hA2 ho2 hGl;have kk:=kr i x d i1 hd;have gx:=good i x hi i1;rw[gx]at kk;simp only at kk;have blen:β'.length=aC s.T:=by rw[ok'.len,eF,<-adS]
  obtain⟨p1,p2⟩:=PO (t:=a.tmps) (n:=E.n) ah.sz hpar hv;have adU:Sat E.n (B.rd (eff [] (iG (ra.res x) s.T)) β' A) h'
   { env:=dw (FC (tl ps) ss d) (Ue ws (dw ra.drop (tl ps)) s),T:=iG (ra.res x) s.T,gl:=[],gs:=[] } h' β' A { tmps:=(ps.zip vs.toArray).foldl (λt (p,v)=>t.setIfInBounds p v) a.tmps,defers:=[] }:=by
   refine⟨ok'.enter,?_,?_,Gw.nil rfl,?_,?_,?_⟩
   .intro t G e ht;simp only at ht ⊢;rw[lW]at ht;split at ht
    .rename_i y hy;cases ht;obtain⟨rfl,z,z1,z2⟩:=p1 t G e hy;refine⟨z,by rw[zB];exact z1,λ_=>(z2 β').mono le (Ext.refl _),λhh=>by cases hh⟩
    .rename_i hy;obtain⟨rfl,hm,z,z1,z2⟩:=DK ah le refs t G e ht;have hps:dV t (tl ps)=false:=p2 t hy;exact⟨z,by rw[JY vs t hps];exact z1,λ_=>z2,λhh=>by cases hh⟩
   .intro dd ii hh;cases hh
   .rw[zB,fold_size];exact ah.sz
   .intro t G e ht;simp only at ht;rw[lW]at ht;split at ht
    .rename_i y hy;cases ht;obtain⟨rfl,_⟩:=p1 t G e hy;rfl
    .obtain⟨rfl,_⟩:=DK ah le refs t G e ht;rfl
   .intro p hp;rw[(qw gx p hp).1]
  have okE:dP P { E with rd:=true }:=⟨ok.prog,ok.hc,ok.TR,ok.mixed,ok.ti,ok.ct,ok.ip,ok.sq,ok.sf⟩
  refine rec zS (.inl rfl) h' { E with rd:=true } _ _ h' β' A _ _ _ l okE (hg.mono ok'.hle) rfl adU kk ?_
  rintro e1 s1 h1 β1 A1 a1 B1 ⟨lb1,lr1⟩ k1 le1 eH sm1;cases e1 with
  | exit j=>exact k1.elim
  | goto j=>exact k1.elim
  | ret=>exact k1.elim
  | panic c=>exact k1.elim
  | outgrown=>exact k1.elim
  | normal=>
  obtain⟨q1,q2,q3,q4,q5⟩:=Bl ok' ap apb lb1 eH;have PV:∀b,b=l\/b=w.heap.size\/G b->A1.heap[b]?=A.heap[b]?:=by
   rintro b (rfl | rfl | hb)
   .exact q4 _ (xk.1 hA1).1 (q5 _ _ hA1 ho1)
   .exact q4 _ (xk.1 hA2).1 (q5 _ _ hA2 ho2)
   .exact q4 b (apb b hb) (λhh=>ap.2.1 b hh hb)
  refine⟨PV,?_⟩;have hB1:A1.heap[l]?=some o1:=(PV l (.inl rfl)).trans hA1;have hl1:l < A1.heap.size:=(xk.1 hB1).1
  -- the record is turned;all else stands
  have okt:OK B h0 (eff s1.gl s1.T) h1 β1 (A1.putObj l MJ):=q1.turn (B.up _ (nV hBs (by omega))) (λkk u hk e=>by have:=PU kk u hk;omega) hB1 ho1
  have aby:Sat E.n (B.rd (eff s1.gl s1.T) β1 (A1.putObj l MJ)) h1 s1 h1 β1 (A1.putObj l MJ) a1:=by
   have hd1:a1.defers=[]:=by
    obtain⟨X,x1,x2,x3⟩:=eH.defers;cases X with
    | nil=>simpa using x1
    | cons D X=>
      exfalso;obtain⟨d1,d2⟩:=x3 D (by simp)
      rw[lr1 rfl]at d1 d2;have hk:=ok'.kn D _ d2;rcases d1 with d1 | d1
      .obtain⟨i,r,v,e1,e2,e3,e4⟩:=d1;obtain⟨o',q1,q2⟩:=(ok'.holds i r v e1 e3).cells e2 e4;rw[hk]at q1;cases q1;cases q2
      .have:=(xk.1 hk).1;omega
   exact⟨okt.enter,eH.env,eH.gs,Gw.nil hd1,eH.sz,eH.gb,eH.gT⟩
  have hsz1:w.heap.size<=(A1.putObj l MJ).heap.size:=by simp;omega
  have Yq:∀b,G b->b < (A1.putObj l MJ).heap.size:=λb hb=>by have:=apb b hb;simp;omega
  have hT2:(A1.putObj l MJ).heap[w.heap.size]?=some o2:=(World.putObj_heap_other (by omega)).trans ((PV _ (.inr (.inl rfl))).trans hA2)
  have hT1:(A1.putObj l MJ).heap[l]?=some MJ:=World.putObj_heap_same hl1;refine rec c (.inr rfl) h1 { E with rd:=true } _ _ h1 β1 _ _ _ _ l okE (hg.mono (ok'.hle.trans le1)) rfl aby k1 ?_
  rintro e s2 h2 β2 A2 a2 B2 ⟨vC,_⟩ k2 eX aQ o9;obtain⟨ok2,ap2,q8,q9,q10⟩:=Bl okt q2 Yq vC aQ;have keep:∀b,b=l\/b=w.heap.size\/G b->A2.heap[b]?=(A1.putObj l MJ).heap[b]?:=by
   rintro b (rfl | rfl | hb)
   .exact q9 _ (xk.1 hT1).1 (q10 _ _ hT1 adT)
   .exact q9 _ (xk.1 hT2).1 (q10 _ _ hT2 ho2)
   .exact q9 b (Yq b hb) (λhh=>q2.2.1 b hh hb)
  split at k2
  .cases k2
  rename_i hR;have hsz2:w.heap.size<=A2.heap.size:=nV hsz1 q8;have PW:∀p∈keepR (aC s.T) ws [] s.env,∃z,a.tmps[p.1]?=some z/\bI h2 β2 p.2 z:=by
   intro p hp;obtain⟨z,q1,q2,_⟩:=aQ.env _ _ _ (nP hR p hp);obtain⟨w1,w2,w3⟩:=psw _ (uU p hp);have e1:=o9 p.1 w3;have e2:=sm1 p.1 w2;simp only at e2;rw[e1,e2,JY vs _ w1]at q1;exact⟨z,q1,q2 rfl⟩
  cases e with
  | normal=>
    simp only at k2;obtain⟨x',j1,j2⟩:=k2;have hi1:i+1<=L.length:=(fM.1 hd).1;have gx':=good (i+1) x' hi1 j1;have et:eff [] (iG (ra.res x') s.T)=(eff s2.gl s2.T).take (aC s.T):=by
     rw[gY]at j2;rw[<-j2,kL (gl:=s2.gl) λp hp=>by rw[j2]at hp;exact(qw gx' p hp).1]
    refine⟨keep,hi1,⟨hsz2,λb hb=>Ee (Yq b hb) q8⟩,x',h2,β2.take (aC s.T),?_,j1,(le.trans le1).trans eX,?_,λp hp=>?_⟩
    .refine⟨ap2.1,?_,ap2.2.2⟩;rintro b ⟨i,r,v,e1,e2,e3,e4⟩ hb;rw[et]at e1;have hi:i < aC s.T:=by have:=(fM.1 e1).1;simp at this;omega
     rw[iL hi]at e1 e3;exact ap2.2.1 b ⟨i,r,v,e1,e2,e3,e4⟩ hb
    .rw[et];rw[gY]at j2;have hlen:aC s.T<=s2.T.length:=by
      have:=qV List.length j2;rw[uS,lY,aK]at this;rw[aK];omega
     refine ok2.take (by rw[eF];exact hlen) ?_
     rw[<-et];have:∀{l:List (Gd×ay)},(∀p∈l,p.1=[]/\jr (aC s.T) p.2=true)->∀r∈eff [] l,jr (aC s.T) r=true:=by
      intro l
      induction l with
      | nil=>intro _ r hr;simp[eff]at hr
      | cons q l ih=>
        obtain⟨g,r0⟩:=q;intro hh r hr;have hg:=hh (g,r0) (by simp)
        have hg1:g=[]:=hg.1;subst hg1;simp only[eff]at hr;rcases iV.1 hr with rfl | hr
        .exact hg.2
        .exact ih (λp hp=>hh p (by simp[hp])) r hr
     exact this (qw gx')
    .obtain⟨z,q1,q2⟩:=PW p hp;exact⟨z,q1,bI.below (lX p hp) q2⟩
  | ret=>exact⟨keep,hsz2,.ret,s2.T,s2.gl,h2,β2,ap2,.inl ⟨rfl,rfl⟩,k2,(le.trans le1).trans eX,ok2,aQ.gT,PW⟩
  | exit j=>exact⟨keep,hsz2,.exit j,s2.T,s2.gl,h2,β2,ap2,.inr ⟨j,rfl,rfl⟩,k2,(le.trans le1).trans eX,ok2,aQ.gT,PW⟩
  | goto t=>exact k2.elim
  | panic ch=>exact k2.elim
  | outgrown=>exact k2.elim
 .rintro G A ⟨_,_,x,h',β',_,i1,le,ok',refs⟩ hA;have kk:=kd x (by rw[aK];exact i1)
  have gx:=good _ x (lD _) i1;rw[gx]at kk;simp only at kk;obtain⟨B',lb,df,up⟩:=dfr A hA;exact next _ _ h' β' A _ B' ⟨lb,λhh=>(by rw[hrd]at hh;cases hh)⟩ kk le (PN ah le refs (up ok') (λp hp=>by rw[(qw gx p hp).1]) rfl df) λ_ _=>rfl
theorem fK{P:Program}{n:Nat}:∀(c:Code){h0:FH}{E:Env} (ok:dP P E) (hg:aB E.cx.gd h0){F:Fence} (hF:Wd F) (hr:E.rd=false->F=Fence.wide){B:Base}{s:St}{h:FH}{β:List RV}{w:World}{a:Act}{K:Exit->St->Prop}{Q:Exit->Act->World->Prop},Sat E.n B h0 s h β w a ->
 gy E c s K->(∀e s' h' β' w' a' B',Base.PL E.rd B B'->K e s'->h.le h'->Sat E.n B' h0 s' h' β' w' a'->Same (writes c) a a'->Q e a' w')->c.wpIn F n P Q a w
 | .skip,h0,E,ok,hg,F,hF,hr,B,s,h,β,w,a,K,Q,ah,k,next=>wpIn_skip (next _ _ _ _ _ _ _ (.refl _) k (FH.le.refl h) ah (Same.refl _ _))
 | .exit i,h0,E,ok,hg,F,hF,hr,B,s,h,β,w,a,K,Q,ah,k,next=>wpIn_exit (next _ _ _ _ _ _ _ (.refl _) k (FH.le.refl h) ah (Same.refl _ _))
 | .ret,h0,E,ok,hg,F,hF,hr,B,s,h,β,w,a,K,Q,ah,k,next=>wpIn_ret (next _ _ _ _ _ _ _ (.refl _) k (FH.le.refl h) ah (Same.refl _ _))
 | .region id ops false,h0,E,ok,hg,F,hF,hr,B,s,h,β,w,a,K,Q,ah,k,next=>by
   simp only[gy]at k;split at k
   .cases k
   rename_i hnd;have et:tl ops=ops.toList:=by cases ops;rfl
   rw[et]at hnd k;refine HY (R:=λa w=>Q .normal a w) hF (λ_ _ hh=>hh) hnd (Dy ok hg ops.toList ah (by rw[et];exact k) λs' h' β' w' a' k' le aH sm=>next .normal _ _ _ _ _ _ (.refl _) k' le aH.clean ?_)
   simp only[writes];rw[et];exact sm
 | .seq x y,h0,E,ok,hg,F,hF,hr,B,s,h,β,w,a,K,Q,ah,k,next=>by
   simp only[gy]at k;split at k
   .rename_i la _;obtain⟨β0,Yr⟩:=ah.sO la.pad;clear ah;generalize sO la.pad s=s at Yr k;generalize β0=β at Yr;have ah:=Yr;obtain⟨k1,k2⟩:=k;have D0:∀h' a',h.le h'->Same (writes x) a a'->∀t e,dZ (lV (dw la.drop (writes x)) [] s.env) t=some ([],e)->∃z,a'.tmps[t]?=some z/\gJ h' [] e z:=by
     intro h' a' le sm t e ht;obtain⟨_,hw,hl,_,hf⟩:=jc ht;obtain⟨z,q1,q2,_⟩:=ah.env t [] e hl;exact⟨z,by rw[sm t (by rw[jq,xP]at hw;exact hw.2)];exact q1,(gJ.jv [] hf (q2 rfl)).mono le (Ext.refl _)⟩
    refine wpIn_seq (fK x ok hg hF hr ah k1 λe s' h' β' w' a' B1 lb k' le aH sm=>?_)
    cases e with
    | normal=>
      simp only at k';unfold abr at k';obtain⟨h1,β1,le1,aQ⟩:=Sat.oP aH la.zQ la.oW la.nil la.qh la.deep;obtain⟨β20,abA⟩:=aQ.kD la.ren;obtain⟨β2,Ij⟩:=abA.oU la.can;split at k'
      .rename_i hR;obtain⟨v,j1,j2,j3⟩:=k';have kk:=k2 v j1;split at kk
       .cases kk
       .rename_i hc;rw[au,A8]at hc;exact fK y ok hg hF hr (uT Ij j3 hc.1 hc.2 j2 (nP hR) (D0 h1 a' (le.trans le1) sm)) kk λe s2 h2 β3 w2 a2 B2 vC k3 eX PK o9=>next e s2 h2 β3 w2 a2 B2 (lb.trans vC) k3 ((le.trans le1).trans eX) PK (sm.left.trans o9.right)
      .exact k'.elim
    | exit i=>exact next _ _ _ _ _ _ _ lb k' le aH sm.left
    | goto l=>exact next _ _ _ _ _ _ _ lb k' le aH sm.left
    | ret=>exact next _ _ _ _ _ _ _ lb k' le aH sm.left
    | panic ch=>exact next _ _ _ _ _ _ _ lb k' le aH sm.left
    | outgrown=>exact next _ _ _ _ _ _ _ lb k' le aH sm.left
   .refine wpIn_seq (fK x ok hg hF hr ah k λe s' h' β' w' a' B1 lb k' le aH sm=>?_)
    cases e with
    | normal=>exact fK y ok hg hF hr aH k' λe s2 h2 β2 w2 a2 B2 vC k2 eX aQ o9=>next e s2 h2 β2 w2 a2 B2 (lb.trans vC) k2 (le.trans eX) aQ (sm.left.trans o9.right)
    | exit i=>exact next _ _ _ _ _ _ _ lb k' le aH sm.left
    | goto l=>exact next _ _ _ _ _ _ _ lb k' le aH sm.left
    | ret=>exact next _ _ _ _ _ _ _ lb k' le aH sm.left
    | panic ch=>exact next _ _ _ _ _ _ _ lb k' le aH sm.left
    | outgrown=>exact next _ _ _ _ _ _ _ lb k' le aH sm.left
 | .cond c x y,h0,E,ok,hg,F,hF,hr,B,s,h,β,w,a,K,Q,ah,k,next=>by
   simp only[gy]at k;split at k
   .rename_i b hb;have hc:a.eval c=.bool b:=(aF ah (hg.mono ah.ok.hle) (show gv s.gl []=true from rfl) hb).1.1
    refine wpIn_cond_split hc (λht=>fK x ok hg hF hr ah ((aA.1 k).1 ht) λe s' h' β' w' a' B1 lb k' le aH sm=>next _ _ _ _ _ _ _ lb k' le aH sm.left)
     (λhf=>fK y ok hg hF hr ah ((aA.1 k).2 hf) λe s' h' β' w' a' B1 lb k' le aH sm=>next _ _ _ _ _ _ _ lb k' le aH sm.right)
   .cases k
 | .block id c,h0,E,ok,hg,F,hF,hr,B,s,h,β,w,a,K,Q,ah,k,next=>by
   refine wpIn_block (fK c ok hg hF hr ah k λe s' h' β' w' a' B1 lb k' le aH sm=>?_)
   cases e with
   | normal=>exact next _ _ _ _ _ _ _ lb k' le aH sm
   | exit i=>
     simp only at k';simp only[Exit.inBlock];split at k'
     .rename_i hi;have:i=id:=fC hi;rw[if_pos this];exact next _ _ _ _ _ _ _ lb k' le aH sm
     .rename_i hi;have:¬i=id:=λhh=>by rw[hh]at hi;simp at hi
      rw[if_neg this];exact next _ _ _ _ _ _ _ lb k' le aH sm
   | goto l=>exact next _ _ _ _ _ _ _ lb k' le aH sm
   | ret=>exact next _ _ _ _ _ _ _ lb k' le aH sm
   | panic ch=>exact next _ _ _ _ _ _ _ lb k' le aH sm
   | outgrown=>exact next _ _ _ _ _ _ _ lb k' le aH sm
 | .loop c,h0,E,ok,hg,F,hF,hr,B,s,h,β,w,a,K,Q,ah,k,next=>by
   simp only[gy]at k;split at k
   .rename_i la _;obtain⟨h1,β1,le1,eH⟩:=Sat.oP ah la.zQ la.oW la.nil la.qh la.deep
    replace next:=λe s' h' β' w' a' B1 lb k' le aH sm=>next e s' h' β' w' a' B1 lb k' (le1.trans le) aH sm
    clear le1 ah;clear h
    rename FH=>h
    generalize oP s la.zQ la.oW la.nil la.qh la.deep=s at eH k;obtain⟨β2,ah⟩:=eH.sO la.pad;clear eH;have eH:=ah;clear ah;generalize sO la.pad s=s at eH k;have ah:=eH;clear eH;obtain⟨⟨x,i1,i2,i3⟩,k2⟩:=k;have good:∀x,la.inv x->rF (aC s.T) (iG (la.res x) s.T)=true/\Bh (aC s.T) (dw la.drop (writes c)) (la.slots x)=true /\
     gy E c (mF (dw la.drop (writes c)) s (la.slots x) (la.res x)) (λe s'=>match e with
      | .normal=>match zx (oU la.can (kD la.ren s')) (keepR (aC s.T) (dw la.drop (writes c)) [] s.env) with
        | true=>∃x',la.inv x'/\Ag (oU la.can (kD la.ren s')) (la.slots x')/\mP (aC s.T) (oU la.can (kD la.ren s')).T=iG (la.res x') s.T/\la.meas x' < la.meas x
        | false=>False
      | e=>K e s'):=by
     intro x hx;have:=k2 x hx;split at this
     .cases this
     .rename_i hc;rw[au,A8]at hc;exact⟨hc.1,hc.2,this⟩
    have D0:∀h' a',h.le h'->Same (writes c) a a'->∀t e,dZ (lV (dw la.drop (writes c)) [] s.env) t=some ([],e)->∃z,a'.tmps[t]?=some z/\gJ h' [] e z:=by
     intro h' a' le sm t e ht;obtain⟨_,hw,hl,_,hf⟩:=jc ht;obtain⟨z,q1,q2,_⟩:=ah.env t [] e hl;exact⟨z,by rw[sm t (by rw[jq,xP]at hw;exact hw.2)];exact q1,(gJ.jv [] hf (q2 rfl)).mono le (Ext.refl _)⟩
    refine wpIn_loop_ghost (λn a' w'=>∃x h' β' B1,Base.PL E.rd B B1/\la.meas x=n/\la.inv x/\h.le h'/\Sat E.n B1 h0 (mF (dw la.drop (writes c)) s (la.slots x) (la.res x)) h' β' w' a'/\Same (writes c) a a') (la.meas x) ?_ ?_
    .obtain⟨g1,g2,_⟩:=good x i1;refine⟨x,h,_,B,.refl _,rfl,i1,FH.le.refl h,uT ah ?_ g1 g2 i2 (λp hp=>(nR p hp).2) (D0 h a (FH.le.refl h) (Same.refl _ _)),Same.refl _ _⟩
     rw[<-i3,gY,aK,KF]
    .rintro n a' w' ⟨x,h',β',B1,lb,rfl,hx,le,aH,sm⟩;obtain⟨g1,g2,kk⟩:=good x hx;refine fK c ok hg hF hr aH kk λe s2 h2 β2 w2 a2 B2 vC k2 eX aQ o9=>?_
     cases e with
     | normal=>
       simp only at k2;split at k2
       .rename_i hR;obtain⟨x',j1,j2,j3,j4⟩:=k2;obtain⟨g1',g2',_⟩:=good x' j1;obtain⟨β30,abB⟩:=aQ.kD la.ren;obtain⟨β3,aQ⟩:=abB.oU la.can;refine⟨la.meas x',j4,x',h2,_,B2,lb.trans vC,rfl,j1,le.trans eX,uT aQ j3 g1' g2' j2 (nP hR) (D0 h2 a2 (le.trans eX) (sm.trans o9)),sm.trans o9⟩
       .cases k2
     | exit i=>exact next _ _ _ _ _ _ _ (lb.trans vC) k2 (le.trans eX) aQ (sm.trans o9)
     | goto l=>exact next _ _ _ _ _ _ _ (lb.trans vC) k2 (le.trans eX) aQ (sm.trans o9)
     | ret=>exact next _ _ _ _ _ _ _ (lb.trans vC) k2 (le.trans eX) aQ (sm.trans o9)
     | panic ch=>exact next _ _ _ _ _ _ _ (lb.trans vC) k2 (le.trans eX) aQ (sm.trans o9)
     | outgrown=>exact next _ _ _ _ _ _ _ (lb.trans vC) k2 (le.trans eX) aQ (sm.trans o9)
   .rename_i m _;refine wpIn_loop_rounds m ?_;have key:∀(m:Nat){B:Base}{s:St}{h:FH}{β:List RV}{w:World}{a:Act}{K:Exit->St->Prop}{Q:Exit->Act->World->Prop},Sat E.n B h0 s h β w a->DJ (gy E c) m s K ->
     (∀e s' h' β' w' a' B',Base.PL E.rd B B'->K e s'->h.le h'->Sat E.n B' h0 s' h' β' w' a'->Same (writes c) a a'->Q e a' w')->Code.roundsIn F n P c Q m a w:=by
     intro m
     induction m with
     | zero=>intro B s h β w a K Q ah k next;cases k
     | succ m ih=>
       intro B s h β w a K Q ah k next
       rw[roundsIn_succ];refine fK c ok hg hF hr ah k λe s2 h2 β2 w2 a2 B2 vC k2 eX aQ o9=>?_
       cases e with
       | normal=>exact ih aQ k2 λe s3 h3 β3 w3 a3 B3 lb3 k3 le3 Ij sm3=>next e s3 h3 β3 w3 a3 B3 (vC.trans lb3) k3 (eX.trans le3) Ij (o9.trans sm3)
       | exit i=>exact next _ _ _ _ _ _ _ vC k2 eX aQ o9
       | goto l=>exact next _ _ _ _ _ _ _ vC k2 eX aQ o9
       | ret=>exact next _ _ _ _ _ _ _ vC k2 eX aQ o9
       | panic ch=>exact next _ _ _ _ _ _ _ vC k2 eX aQ o9
       | outgrown=>exact next _ _ _ _ _ _ _ vC k2 eX aQ o9
    exact key m ah k next
   .cases k
 | .region id ops true,h0,E,ok,hg,F,hF,hr,B,s,h,β,w,a,K,Q,ah,k,next=>by
   simp only[gy]at k;split at k
   .cases k
   rename_i hnd;have et:tl ops=ops.toList:=by cases ops;rfl
   cases hma:vX E.cx (tl ops) with
   | true=>
     rw[hma]at k;simp only at k;cases hlx:TV ops with
     | false=>rw[hlx]at k;cases k
     | true=>
       rw[hlx]at k;exact Pz ok hg hlx ah k hF (by rw[et]at hnd;exact hnd) λs' h' β' w' a' k' le aH sm=>next .normal _ _ _ _ _ _ (.refl _) k' le aH.clean sm
   | false=>
   rw[hma]at k;simp only at k;cases hmo:JR ops with
   | some m=>
     rw[hmo]at k;exact Ub ok hg hmo ah k hF (by rw[et]at hnd;exact hnd) λs' h' β' w' a' k' le aH sm=>next .normal _ _ _ _ _ _ (.refl _) k' le aH.clean sm
   | none=>
   rw[hmo]at k;simp only at k;cases Jt:orB E.cx.rt (Fz E (tl ops)) with
   | true=>
     rw[Jt]at k;simp only at k;cases hd:uO ops with
     | none=>rw[hd]at k;cases k
     | some l=>
       rw[hd]at k;exact PE ok hg hd ah k hF (by rw[et]at hnd;exact hnd) λs' h' β' w' a' k' le aH sm=>next .normal _ _ _ _ _ _ (.refl _) k' le aH.clean sm
   | false=>
   rw[Jt]at k;simp only at k;cases hd:qQ ops with
   | none=>rw[hd]at k;cases k
   | some l=>
     rw[hd]at k;exact JO ok hg hd ah k hF (by rw[et]at hnd;exact hnd) λs' h' β' w' a' k' le aH sm=>next .normal _ _ _ _ _ _ (.refl _) k' le aH.clean sm
 | .rangeFunc g ps zS c,h0,E,ok,hg,F,hF,hr,B,s,h,β,w,a,K,Q,ah,k,next=>by
   simp only[gy]at k;split at k
   .cases k
   rename_i hrd;have hF':=hr hrd;subst hF';split at k
   .rename_i P' ss L hgE;split at k
    .rename_i ra _;obtain⟨hP,k⟩:=k;have hP:=ok.prog _ hP;subst hP;have gv0:Gives P' h ss L (a.eval g):=(aF ah (hg.mono ah.ok.hle) (show gv s.gl []=true from rfl) hgE).1
     obtain⟨h1,β1,le1,aQ⟩:=Sat.oP ah ra.zQ ra.oW ra.nil ra.qh ra.deep
     replace next:=λe s' h' β' w' a' B1 lb k' le aH sm=>next e s' h' β' w' a' B1 lb k' (le1.trans le) aH sm
     have gv1:=Au.tH (x:=.seq P' ss L) le1 gv0;generalize oP s ra.zQ ra.oW ra.nil ra.qh ra.deep=s2 at aQ k;refine PS (λc' hc' h0' E' B' s' h' β' w' a' K' Q' l ok' hg' he aH k' next'=>?_) ok hg aQ gv1 k hrd next
     rcases hc' with rfl | rfl
     .exact fK _ ok' hg' (F:=Fence.wide.inRound l) (.inr ⟨l,rfl⟩) (λhh=>by rw[he]at hh;cases hh) aH k' next'
     .exact fK _ ok' hg' (F:=Fence.wide.inRound l) (.inr ⟨l,rfl⟩) (λhh=>by rw[he]at hh;cases hh) aH k' next'
    .cases k
   .cases k
 | .scope _,h0,E,ok,hg,F,hF,hr,B,s,h,β,w,a,K,Q,ah,k,next=>k.elim
 | .label _,h0,E,ok,hg,F,hF,hr,B,s,h,β,w,a,K,Q,ah,k,next=>k.elim
 | .goto _,h0,E,ok,hg,F,hF,hr,B,s,h,β,w,a,K,Q,ah,k,next=>k.elim
 | .refuse _,h0,E,ok,hg,F,hF,hr,B,s,h,β,w,a,K,Q,ah,k,next=>k.elim
end Go.lZ
