/- Part 5 of the proof. Conditions: the rows'. -/
import Derived.Test.YtaagmchgokmdgaaGreatDoorB4
import Derived.Sort.OwnSortedInts
import Derived.Lib.SlicesCompact
import Derived.ReadAgain
import Derived.OpenShut
import Derived.ChangeSame
import Derived.Deep.DeepHandedRow
set_option linter.unusedSimpArgs false
set_option linter.unusedVariables false
set_option maxRecDepth 1000000
set_option maxHeartbeats 8000000
namespace Go.lM
open Go Go.RowKit
variable {h:FH}{β:List RV}{y:Value}{acc:List (Nat×aC)}{cx:Cx}{P:Program}{B:Base}{s:St}{w:World}{a:Act}{E:Env}{f:FuncId}{body:Code}{ct:CT}{n:Nat}{cl:List (Nat×CT)}{rc:List RC}
abbrev resV(cx:Cx) (s:St) (r:ResultVar) (K:SV->Prop):Prop:=match r with
 | .tmp t=>match fH s.env t with
   | some ([],.one v)=>K v
   | _=>False
 | .cell p t=>match fH s.env p with
   | some ([],.one (.c q))=>qY cx s [] t q λe=>match e with
     | .one v=>K v
     | _=>False
   | _=>False
abbrev Uk(cx:Cx) (s:St):List ResultVar->(List SV->Prop)->Prop
 | [],K=>K []
 | r :: l,K=>resV cx s r λv=>Uk cx s l λvs=>K (v :: vs)
abbrev Kz(i:Nat):List (Nat×aC)->Bool
 | []=>false
 | (j,_) :: l=>match Nat.beq i j with
   | true=>true
   | false=>Kz i l
abbrev selC(T:List (Gd×aC)) (x:SC) (acc:List (Nat×aC)):Option (SC×List (Nat×aC)):=match x with
 | .v u=>some (.v u,acc)
 | .sl sh l=>some (.sl sh l,acc)
 | .fp sh d=>some (.fp sh d,acc)
 | .one sh d=>some (.one sh d,acc)
 | .abs x=>some (.abs x,acc)
 | .row i=>match dH T i with
   | some ([],.row t sh l)=>match Kz i acc with
     | true=>none
     | false=>some (.row (aJ acc),snoc acc (i,.row t sh l))
   | some ([],.deep t sh l tt e so own hs)=>match Kz i acc with
     | true=>none
     | false=>some (.row (aJ acc),snoc acc (i,.deep t sh l tt e so own hs))
   | some ([],.mp k sh l)=>match Kz i acc with
     | true=>none
     | false=>some (.row (aJ acc),snoc acc (i,.mp k sh l))
   | _=>none
 | _=>none
abbrev IB(T:List (Gd×aC)):List SC->List (Nat×aC)->Option (List SC×List (Nat×aC))
 | [],acc=>some ([],acc)
 | x :: l,acc=>match selC T x acc with
   | some (y,acc)=>match IB T l acc with
     | some (m,acc)=>some (y :: m,acc)
     | none=>none
   | none=>none
abbrev abZ(T:List (Gd×aC)) (v:SV) (acc:List (Nat×aC)):Option (SV×List (Nat×aC)):=match v with
 | .c x=>match selC T x acc with
   | some (y,acc)=>some (.c y,acc)
   | none=>none
 | .agg xs=>match IB T xs acc with
   | some (ys,acc)=>some (.agg ys,acc)
   | none=>none
 | .dat sh d=>some (.dat sh d,acc)
 | .und=>none
abbrev IC(T:List (Gd×aC)):List SV->List (Nat×aC)->Option (List SV×List (Nat×aC))
 | [],acc=>some ([],acc)
 | x :: l,acc=>match abZ T x acc with
   | some (y,acc)=>match IC T l acc with
     | some (m,acc)=>some (y :: m,acc)
     | none=>none
   | none=>none
abbrev afM:List SV->aW
 | [v]=>.one v
 | vs=>.iQ vs
abbrev Qp:List (Nat×aC)->List aC
 | []=>[]
 | (_,r) :: l=>r :: Qp l
abbrev XJ(T:List (Gd×aC)) (vs:List SV) (R:List aC->aW->Prop):Prop:=match IC T vs []with
 | some (vs',acc)=>R (Qp acc) (afM vs')
 | none=>False
abbrev yZ(n:Nat):List SV->List (Nat×Gd×aW)
 | []=>[]
 | v :: l=>(n,[],.one v) :: yZ (Nat.succ n) l
abbrev frC(T:List (Gd×aC)) (x:SC):Option (List (Gd×aC)×SC):=match x with
 | .row i=>match dH T i with
   | some ([],.row _ sh l)=>some (bQ T i ([],.gone),.sl sh l)
   | some ([],.deep _ sh l _ _ _ _ [])=>some (bQ T i ([],.gone),.sl sh l)
   | some ([],.mp k sh l)=>some (bQ T i ([],.gone),.one (.mp k sh) l)
   | _=>none
 | x=>some (T,x)
abbrev frL(T:List (Gd×aC)):List SC->Option (List (Gd×aC)×List SC)
 | []=>some (T,[])
 | x :: l=>match frC T x with
   | some (T,y)=>match frL T l with
     | some (T,m)=>some (T,y :: m)
     | none=>none
   | none=>none
abbrev frV(T:List (Gd×aC)) (v:SV):Option (List (Gd×aC)×SV):=match v with
 | .c x=>match frC T x with
   | some (T,y)=>some (T,.c y)
   | none=>none
 | .agg xs=>match frL T xs with
   | some (T,ys)=>some (T,.agg ys)
   | none=>none
 | v=>some (T,v)
abbrev coV(c:RC) (T:List (Gd×aC)) (v:SV) (K:List (Gd×aC)->SV->Prop):Prop:=match c with
 | .keep=>K T v
 | .data sh=>match frV T v with
   | some (T,v)=>match toDat sh v with
     | some d=>K T (iG sh d)
     | none=>False
   | none=>False
 | .row t sh=>match v with
   | .c (.v (.slice none 0 0))=>K (snoc T ([],.row t sh [])) (.c (.row (aJ T)))
   | v=>K T v
 | .hd t sh rest=>match v with
   | .agg (x :: xs)=>match frL T xs with
     | some (T',ys)=>match takeD rest ys with
       | some (d,[])=>match flat rest d with
         | some zs=>match x with
           | .v (.slice none 0 0)=>K (snoc T' ([],.row t sh [])) (.agg (.row (aJ T') :: zs))
           | x=>K T' (.agg (x :: zs))
         | none=>False
       | _=>False
     | none=>False
   | _=>False
 | .cel q=>match abr v with
   | some zs=>match q with
     | none=>K T (.agg zs)
     | some (t,sh,off)=>match dH zs off with
       | some (.v (.slice none 0 0))=>K (snoc T ([],.row t sh [])) (.agg (bQ zs off (.row (aJ T))))
       | _=>K T (.agg zs)
   | none=>False
abbrev coK:List RC->List (Gd×aC)->List SV->(List (Gd×aC)->List SV->Prop)->Prop
 | [],T,vs,K=>K T vs
 | _ :: _,T,[],K=>K T []
 | c :: cs,T,v :: vs,K=>coV c T v λT v=>coK cs T vs λT vs=>K T (v :: vs)
section
variable {B:Base}{h0:FH}{gl:List Bool}{w:World}
theorem Ul{T T':List (Gd×aC)} (ok:OK B h0 (eff gl T) h β w){x x':SC} (e:frC T x=some (T',x')) (c:dG h β x y):
 ∃h',h.le h'/\OK B h0 (eff gl T') h' β w/\dG h' β x' y:=by
 unfold frC at e;split at e
 .rename_i i;split at e
  .rename_i t sh l hT;cases e;have eF:(eff gl T)[i]?=some (.row t sh l):=by rw[iT,<-dI,hT];rfl
   obtain⟨h',le,ok',sl⟩:=ok.freeze eF (ok.row_of eF c);exact⟨h',le,by rw[dY];exact ok',sl⟩
  .rename_i t sh l t2 e2 so own hT;cases e;have eF:(eff gl T)[i]?=some (.deep t sh l t2 e2 so own []):=by rw[iT,<-dI,hT];rfl
   obtain⟨us,hu,hd⟩:=ok.sU eF c;obtain⟨le,ok',vis⟩:=ok.sO eF rfl hu;exact⟨_,le,by rw[dY];exact ok',hd.data le λb hb o z hz=>vis b hb o z hz⟩
  .rename_i k sh l hT;cases e;have eF:(eff gl T)[i]?=some (.mp k sh l):=by rw[iT,<-dI,hT];rfl
   have hu:=ok.Z8 eF c;obtain⟨le,ok',vs⟩:=ok.sO eF rfl hu;exact⟨_,le,by rw[dY];exact ok',MS (β:=β) (ok.holds i _ _ eF hu) le λb hb o z hz=>vs b hb o z hz⟩
  .cases e
 .cases e;exact⟨h,FH.le.refl h,ok,c⟩
theorem KA:∀{xs xs':List SC}{T T':List (Gd×aC)}{h:FH}{β:List RV}{ys:List Value},OK B h0 (eff gl T) h β w->frL T xs=some (T',xs')->aI (λx y=>dG h β x y/\bZ y) xs ys ->
 ∃h',h.le h'/\OK B h0 (eff gl T') h' β w/\aI (λx y=>dG h' β x y/\bZ y) xs' ys
 | [],xs',T,T',h,β,[],ok,e,_=>by simp[frL]at e;obtain⟨rfl,rfl⟩:=e;exact⟨h,FH.le.refl h,ok,trivial⟩
 | x :: l,xs',T,T',h,β,y :: ys,ok,e,⟨c,r⟩=>by
   unfold frL at e;split at e
   .rename_i T1 x1 h1;split at e
    .rename_i T2 m h2;cases e;obtain⟨ha,le1,ok1,c1⟩:=Ul ok h1 c.1;obtain⟨hb,fU,ok2,c2⟩:=KA ok1 h2 (r.mono λ_ _ q=>⟨q.1.mono le1 (Ext.refl β),q.2⟩)
     exact⟨hb,le1.trans fU,ok2,⟨c1.mono fU (Ext.refl β),c.2⟩,c2⟩
    .cases e
   .cases e
theorem ab1{T T':List (Gd×aC)} (ok:OK B h0 (eff gl T) h β w){x x':SV} (e:frV T x=some (T',x')) (c:bV h β x y):
 ∃h',h.le h'/\OK B h0 (eff gl T') h' β w/\bV h' β x' y:=by
 unfold frV at e;split at e
 .split at e
  .rename_i T1 y1 h1;cases e;obtain⟨h',le,ok',c'⟩:=Ul ok h1 c.1;exact⟨h',le,ok',c',c.2⟩
  .cases e
 .split at e
  .rename_i T1 y1 h1;cases e;obtain⟨ys,rfl,a⟩:=c;obtain⟨h',le,ok',c'⟩:=KA ok h1 a;exact⟨h',le,ok',ys,rfl,c'⟩
  .cases e
 .cases e;exact⟨h,FH.le.refl h,ok,c⟩
theorem ab2{T:List (Gd×aC)} (ok:OK B h0 (eff gl T) h β w){c:RC}{v:SV}{K:List (Gd×aC)->SV->Prop} (k:coV c T v K) (cv:bV h β v y):
 ∃T' v' h' β',K T' v'/\h.le h'/\Ext β β'/\OK B h0 (eff gl T') h' β' w/\bV h' β' v' y:=by
 unfold coV at k;split at k
 .exact⟨T,v,h,β,k,FH.le.refl h,Ext.refl β,ok,cv⟩
 .split at k
  .rename_i T1 v1 h1;split at k
   .rename_i d hd;obtain⟨h',le,ok',c'⟩:=ab1 ok h1 cv;obtain⟨cs,rfl,rd⟩:=toDat_ok hd c';exact⟨T1,_,h',β,k,le,Ext.refl β,ok',iH _ rd⟩
   .cases k
  .cases k
 .rename_i t sh;split at k
  .obtain⟨e,_⟩:=cv;obtain⟨rfl,_⟩:=e;refine⟨_,_,h,β++[.row (.slice none 0 0)],k,FH.le.refl h,Ext.append _ _,?_,?_⟩
   .rw[fM,kG];exact ok.add (r:=.row t sh []) (v:=.row (.slice none 0 0)) (bK w none) (λb hb=>by rw[aT]at hb;simp[au]at hb) (.inl ⟨rfl,rfl⟩)
   .refine⟨⟨.row (.slice none 0 0),?_,rfl⟩,rfl,rfl⟩;have:aJ T=β.length:=by rw[ok.len,fO,aV]
    rw[this];simp
  .exact⟨T,v,h,β,k,FH.le.refl h,Ext.refl β,ok,cv⟩
 .rename_i t sh rest;split at k
  .rename_i x xs;split at k
   .rename_i T' ys hfr;split at k
    .rename_i d htk;split at k
     .rename_i zs hfl;obtain⟨us,e0,a⟩:=cv;cases us with
      | nil=>exact a.elim
      | cons u us=>
        obtain⟨cu,a⟩:=a;obtain⟨h',le,ok',a'⟩:=KA ok hfr a;obtain⟨c1,c2,e1,rd,a2⟩:=lW rest htk a';have ec:c2=[]:=by cases c2 with | nil=>rfl | cons _ _=>exact a2.elim
        subst ec;rw[OO]at e1;subst e1;split at k
        .obtain⟨⟨rfl,_⟩,_⟩:=cu;refine⟨_,_,h',β++[.row (.slice none 0 0)],k,le,Ext.append _ _,?_,?_⟩
         .rw[fM,kG];exact ok'.add (r:=.row t sh []) (v:=.row (.slice none 0 0)) (bK w none) (λb hb=>by rw[aT]at hb;simp[au]at hb) (.inl ⟨rfl,rfl⟩)
         .refine⟨.slice none 0 0 :: us,e0,⟨⟨.row (.slice none 0 0),?_,rfl⟩,rfl,rfl⟩,eY rest hfl rd⟩;have:aJ T'=β.length:=by rw[ok'.len,fO,aV]
          rw[this];simp
        .exact⟨T',_,h',β,k,le,Ext.refl β,ok',u :: us,e0,⟨cu.1.mono le (Ext.refl β),cu.2⟩,eY rest hfl rd⟩
     .cases k
    .cases k
   .cases k
  .cases k
 .rename_i q;split at k
  .rename_i zs hzs;obtain⟨us,e0,a⟩:=(Xl hzs cv:bV h β (.agg zs) y);split at k
   .exact⟨T,_,h,β,k,FH.le.refl h,Ext.refl β,ok,us,e0,a⟩
   .rename_i t sh off;split at k
    .rename_i hz;obtain⟨u,hu,hc⟩:=a.get (show zs[off]?=some (.v (.slice none 0 0)) by rw[<-dI];exact hz)
     obtain⟨⟨rfl,_⟩,_⟩:=hc;refine⟨_,_,h,β++[.row (.slice none 0 0)],k,FH.le.refl h,Ext.append _ _,?_,?_⟩
     .rw[fM,kG];exact ok.add (r:=.row t sh []) (v:=.row (.slice none 0 0)) (bK w none) (λb hb=>by rw[aT]at hb;simp[au]at hb) (.inl ⟨rfl,rfl⟩)
     .refine⟨us,e0,?_⟩;rw[dM];refine(a.mono λ_ _ q=>⟨q.1.mono (FH.le.refl h) (Ext.append _ _),q.2⟩).set1 hu ⟨⟨.row (.slice none 0 0),?_,rfl⟩,rfl,rfl⟩
      have:aJ T=β.length:=by rw[ok.len,fO,aV]
      rw[this];simp
    .exact⟨T,_,h,β,k,FH.le.refl h,Ext.refl β,ok,us,e0,a⟩
  .cases k
theorem Um:∀{cs:List RC}{vs:List SV}{ys:List Value}{T:List (Gd×aC)}{h:FH}{β:List RV}{K:List (Gd×aC)->List SV->Prop},OK B h0 (eff gl T) h β w->coK cs T vs K->aI (bV h β) vs ys ->
 ∃T' vs' h' β',K T' vs'/\h.le h'/\Ext β β'/\OK B h0 (eff gl T') h' β' w/\aI (bV h' β') vs' ys
 | [],vs,ys,T,h,β,K,ok,k,a=>⟨T,vs,h,β,k,FH.le.refl h,Ext.refl β,ok,a⟩
 | _ :: _,[],ys,T,h,β,K,ok,k,a=>⟨T,[],h,β,k,FH.le.refl h,Ext.refl β,ok,a⟩
 | c :: cs,v :: vs,y :: ys,T,h,β,K,ok,k,⟨cv,a⟩=>by
   obtain⟨T1,v1,h1,β1,k1,le1,eb1,ok1,c1⟩:=ab2 ok k cv;obtain⟨T2,vs2,h2,β2,k2,fU,eb2,ok2,c2⟩:=Um ok1 k1 (a.mono λ_ _ q=>q.mono le1 eb1)
   exact⟨T2,v1 :: vs2,h2,β2,k2,le1.trans fU,λi u e=>eb2 i u (eb1 i u e),ok2,c1.mono fU eb2,c2⟩
end
abbrev yN(E:Env) (body:Code) (rs:List ResultVar) (args:List SV) (R:List aC->aW->Prop):Prop:=
 iJ E body { env:=yZ 0 args,T:=[],gl:=[],gs:=[] } λe s=>match e with
  | .normal=>Uk E.cx s rs λvs=>coK E.rc s.T vs λT vs=>XJ T vs R
  | .ret=>Uk E.cx s rs λvs=>coK E.rc s.T vs λT vs=>XJ T vs R
  | _=>False
section
variable {B:Base}{h0:FH}{h:FH}{β:List RV}{w:World}{T:List (Gd×aC)}{gl:List Bool}
def aC.isRow:aC->Prop
 | .row _ _ _=>True
 | .deep _ _ _ _ _ _ _ _=>True
 | .mp _ _ _=>True
 | _=>False
structure qH (T:List aC) (acc:List (Nat×aC)):Prop where
 at_:∀p∈acc,T[p.1]?=some p.2/\p.2.isRow
 dup:∀(i j:Nat) p q,acc[i]?=some p->acc[j]?=some q->p.1=q.1->i=j
def jW(β:List RV) (acc:List (Nat×aC)):List RV:=acc.map λp=>β.getD p.1 .no
theorem vJ:∀{acc:List (Nat×aC)}{i:Nat},Kz i acc=false->∀p∈acc,p.1≠i
 | [],i,_,p,hp=>by simp at hp
 | (j,r) :: l,i,h,p,hp=>by
   simp only[Kz]at h;split at h
   .cases h
   .rename_i hij;rcases jM.1 hp with rfl | hp
    .exact λhh=>A97 hij hh.symm
    .exact vJ h p hp
theorem qH.snoc{T:List aC} (k:qH T acc){i:Nat}{r:aC} (hT:T[i]?=some r) (hr:r.isRow) (hm:Kz i acc=false):qH T (acc++[(i,r)]) where
 at_:=by
  intro p hp;rw[Cj]at hp;rcases hp with hp | hp
  .exact k.at_ p hp
  .simp at hp;subst hp;exact⟨hT,hr⟩
 dup:=by
  intro a b p q ha hb e;rcases aj ha with⟨h1,ha⟩ | ⟨h1,rfl⟩<;>rcases aj hb with⟨h2,hb⟩ | ⟨h2,rfl⟩
  .exact k.dup a b p q ha hb e
  .exact(vJ hm p (kT ha) e).elim
  .exact(vJ hm q (kT hb) e.symm).elim
  .omega
theorem BD(β:List RV) (acc ext:List (Nat×aC)):Ext (jW β acc) (jW β (acc++ext)):=by
 unfold jW;rw[Q7];exact Ext.append _ _
theorem NH(ok:OK B h0 (eff gl T) h β w){x x':SC}{acc':List (Nat×aC)} (e:selC T x acc=some (x',acc')) (k:qH (eff gl T) acc) (c:dG h β x y):
 qH (eff gl T) acc'/\(∃ext,acc'=acc++ext)/\dG h (jW β acc') x' y:=by
 unfold selC at e;split at e
 .cases e;exact⟨k,⟨[],by simp⟩,c⟩
 .cases e;exact⟨k,⟨[],by simp⟩,c⟩
 .cases e;exact⟨k,⟨[],by simp⟩,c⟩
 .cases e;exact⟨k,⟨[],by simp⟩,c⟩
 .cases e;exact⟨k,⟨[],by simp⟩,c⟩
 .rename_i i;split at e
  .rename_i t sh l hT;split at e
   .cases e
   .rename_i hm;cases e;have eF:(eff gl T)[i]?=some (.row t sh l):=by rw[iT,<-dI,hT];rfl
    rw[fM];refine⟨k.snoc eF trivial hm,⟨_,rfl⟩,?_⟩;obtain⟨u,c,cs⟩:=c;refine⟨u,?_,cs⟩;unfold jW;rw[Q7,aV,Jh (by simp)]
    simp[c]
  .rename_i t sh l t2 e2 so own hs hT;split at e
   .cases e
   .rename_i hm;cases e;have eF:(eff gl T)[i]?=some (.deep t sh l t2 e2 so own hs):=by rw[iT,<-dI,hT];rfl
    rw[fM];refine⟨k.snoc eF trivial hm,⟨_,rfl⟩,?_⟩;obtain⟨u,c,cs⟩:=c;refine⟨u,?_,cs⟩;unfold jW;rw[Q7,aV,Jh (by simp)]
    simp[c]
  .rename_i k2 sh l hT;split at e
   .cases e
   .rename_i hm;cases e;have eF:(eff gl T)[i]?=some (.mp k2 sh l):=by rw[iT,<-dI,hT];rfl
    rw[fM];refine⟨k.snoc eF trivial hm,⟨_,rfl⟩,?_⟩;obtain⟨u,c,cs⟩:=c;refine⟨u,?_,cs⟩;unfold jW;rw[Q7,aV,Jh (by simp)]
    simp[c]
  .cases e
 .cases e
theorem IE(ok:OK B h0 (eff gl T) h β w):∀{xs xs':List SC}{acc acc':List (Nat×aC)}{ys:List Value},IB T xs acc=some (xs',acc')->qH (eff gl T) acc->aI (λx y=>dG h β x y/\bZ y) xs ys ->
 qH (eff gl T) acc'/\(∃ext,acc'=acc++ext)/\aI (λx y=>dG h (jW β acc') x y/\bZ y) xs' ys
 | [],xs',acc,acc',[],e,k,_=>by simp[IB]at e;obtain⟨rfl,rfl⟩:=e;exact⟨k,⟨[],by simp⟩,trivial⟩
 | x :: l,xs',acc,acc',y :: ys,e,k,⟨c,r⟩=>by
   unfold IB at e;split at e
   .rename_i x1 ab3 h1;split at e
    .rename_i m aic h2;cases e;obtain⟨k1,⟨ext1,rfl⟩,c1⟩:=NH ok h1 k c.1;obtain⟨k2,⟨ab4,rfl⟩,c2⟩:=IE ok h2 k1 r;exact⟨k2,⟨ext1++ab4,by rw[CJ]⟩,⟨c1.mono (FH.le.refl h) (BD _ _ _),c.2⟩,c2⟩
    .cases e
   .cases e
theorem XK(ok:OK B h0 (eff gl T) h β w){x x':SV}{acc':List (Nat×aC)} (e:abZ T x acc=some (x',acc')) (k:qH (eff gl T) acc) (c:bV h β x y):
 qH (eff gl T) acc'/\(∃ext,acc'=acc++ext)/\bV h (jW β acc') x' y:=by
 unfold abZ at e;split at e
 .split at e
  .rename_i y1 ab3 h1;cases e;obtain⟨k1,e1,c1⟩:=NH ok h1 k c.1;exact⟨k1,e1,c1,c.2⟩
  .cases e
 .split at e
  .rename_i y1 ab3 h1;cases e;obtain⟨vs,e0,a⟩:=c;obtain⟨k1,e1,c1⟩:=IE ok h1 k a;exact⟨k1,e1,vs,e0,c1⟩
  .cases e
 .cases e;exact⟨k,⟨[],by simp⟩,c⟩
 .cases e
theorem IG(ok:OK B h0 (eff gl T) h β w):∀{xs xs':List SV}{acc acc':List (Nat×aC)}{ys:List Value},IC T xs acc=some (xs',acc')->qH (eff gl T) acc->aI (bV h β) xs ys ->
 qH (eff gl T) acc'/\(∃ext,acc'=acc++ext)/\aI (bV h (jW β acc')) xs' ys
 | [],xs',acc,acc',[],e,k,_=>by simp[IC]at e;obtain⟨rfl,rfl⟩:=e;exact⟨k,⟨[],by simp⟩,trivial⟩
 | x :: l,xs',acc,acc',y :: ys,e,k,⟨c,r⟩=>by
   unfold IC at e;split at e
   .rename_i x1 ab3 h1;split at e
    .rename_i m aic h2;cases e;obtain⟨k1,⟨ext1,rfl⟩,c1⟩:=XK ok h1 k c;obtain⟨k2,⟨ab4,rfl⟩,c2⟩:=IG ok h2 k1 r;exact⟨k2,⟨ext1++ab4,by rw[CJ]⟩,bV.mono (FH.le.refl h) (BD _ _ _) c1,c2⟩
    .cases e
   .cases e
theorem FN:∀(l:List (Nat×aC)),Qp l=l.map (·.2)
 | []=>rfl
 | (_,r) :: l=>by simp[Qp,FN l]
theorem OK.pick{T:List aC} (ok:OK B h0 T h β w) (k:qH T acc):OK B h0 (Qp acc) h (jW β acc) w:=by
 have get:∀{i:Nat}{r:aC}{v:RV},(Qp acc)[i]?=some r->(jW β acc)[i]?=some v->∃p,acc[i]?=some p/\T[p.1]?=some r/\β[p.1]?=some v/\r.isRow:=by
  intro i r v e e';rw[FN,Gw]at e;unfold jW at e';rw[Gw]at e';cases hp:acc[i]? with
  | none=>rw[hp]at e;cases e
  | some p=>
    rw[hp]at e e';cases e;cases e';obtain⟨h1,h2⟩:=k.at_ p (kT hp);have gY:p.1 < β.length:=by rw[ok.len];exact(eU.1 h1).1
    exact⟨p,rfl,h1,by simp[gY],h2⟩
 exact {
  below:=ok.below
  dr:=ok.dr
  len:=by rw[FN];simp[jW]
  holds:=by
   intro i r v e e';obtain⟨p,_,h1,h2,hr⟩:=get e e';have:=ok.holds _ _ _ h1 h2;cases r with
   | row _ _ _=>
     cases v with
     | row y=>exact this
     | _=>exact this.elim
   | deep _ _ _ _ _ _ _ _=>
     cases v with
     | deep y us=>exact this
     | _=>exact this.elim
   | mp _ _ _=>
     cases v with
     | row y=>exact this
     | _=>exact this.elim
   | Jd _ _ _ _=>exact hr.elim
   | it _ _ _ _=>exact hr.elim
   | GL _ _ _ _=>exact hr.elim
   | Dk _ _ _ _=>exact hr.elim
   | blk _ _=>exact hr.elim
   | obj _ _ _=>exact hr.elim
   | gone=>exact hr.elim
  own:=by
   intro i r v b e l e' hb;obtain⟨p,_,h1,h2,_⟩:=get e e';exact ok.own _ r v b h1 l h2 hb
  inj:=by
   intro i j r r' u v b e l e' l' f f' hb hb';obtain⟨p,p1,h1,h2,_⟩:=get e f;obtain⟨q,q1,h3,h4,_⟩:=get e' f';exact k.dup i j p q p1 q1 (ok.inj _ _ r r' u v b h1 l h3 l' h2 h4 hb hb')
  hle:=ok.hle
  hw:=ok.hw
  hg:=ok.hg
  kn:=ok.kn }
end
def FP(a:Act):ResultVar->Sem Value
 | .tmp t=>pure (a.tmps.getD t undef)
 | .cell p t=>do loadVar t (<-asAddr (a.tmps.getD p undef))
theorem XL(hc:bT P cx.ti){N:Nat}{h0:FH} (ah:Sat N B h0 s h β w a){r:ResultVar}{K:SV->Prop} (k:resV cx s r K):
 ∃v y,K v/\(FP a r).run P w=.ok y w/\bV h β v y:=by
 unfold resV at k;split at k
 .rename_i t;split at k
  .rename_i v hv;obtain⟨z,q1,q2,_⟩:=ah.env _ _ _ hv;exact⟨v,z,k,by simp[FP,q1],q2 rfl⟩
  .cases k
 .rename_i p t;split at k
  .rename_i q hq;obtain⟨z,q1,q2,_⟩:=ah.env _ _ _ hq;obtain⟨e,k1,k2⟩:=zY hc ah k;split at k1
   .rename_i v;obtain⟨y,r1,r2⟩:=k2 rfl z (q2 rfl).1;refine⟨v,y,k1,?_,r2⟩;have hz:∃ad,z=.pointer (some ad):=by
     have c:=(q2 rfl).1;cases q with
     | v x=>
       unfold qY at k;split at k
       .cases k
       .cases k
     | sl _ _=>
       unfold qY at k;split at k
       .cases k
       .cases k
     | fp _ _=>obtain⟨b,o,_,e,_⟩:=c;exact⟨_,e⟩
     | own _ _=>obtain⟨b,_,e⟩:=c;exact⟨_,e⟩
     | row _=>
       unfold qY at k;split at k
       .cases k
       .cases k
     | jh _ _ _ _=>obtain⟨_,g,_,_,e⟩:=c;exact⟨_,e⟩
     | jX _ _ _ _ _=>obtain⟨_,_,g,_,_,e⟩:=c;exact⟨_,e⟩
     | sub _ _=>
       unfold qY at k;split at k
       .cases k
       .cases k
     | one _ _=>
       unfold qY at k;split at k
       .cases k
       .cases k
     | abs _=>
       unfold qY at k;split at k
       .cases k
       .cases k
     | junk=>
       unfold qY at k;split at k
       .cases k
       .cases k
    obtain⟨ad,rfl⟩:=hz;have hg:a.tmps.getD p undef=.pointer (some ad):=by simp[q1]
    simp only[FP];rw[hg];simpa[Instr.loadAt,Instr.sureAddr,asAddr]using r1 w (jL.refl w)
   .cases k1
  .cases k
theorem NI{cx:Cx}{P:Program} (hc:bT P cx.ti){N:Nat}{B:Base}{h0:FH}{s:St}{h:FH}{β:List RV}{w:World}{a:Act} (ah:Sat N B h0 s h β w a):∀{rs:List ResultVar}{K:List SV->Prop},Uk cx s rs K ->
 ∃vs ys,K vs/\(rs.mapM (FP a)).run P w=.ok ys w/\aI (bV h β) vs ys
 | [],K,k=>⟨[],[],k,rfl,trivial⟩
 | r :: l,K,k=>by
   obtain⟨v,y,k1,r1,c1⟩:=XL hc ah k;obtain⟨vs,ys,k2,r2,c2⟩:=NI hc ah k1;refine⟨v :: vs,y :: ys,k2,?_,c1,c2⟩;rw[List.mapM_cons];simp only[Sem.run_bind,Sem.run_pure];rw[r1];simp only[Result.andThen_ok];rw[r2];rfl
theorem KC(fn:Func) (a:Act):results fn a.tmps=(do let vs <-fn.results.mapM (FP a);pure (if h:vs.size=1 then vs[0] else .tuple vs):Sem Value):=by
 unfold results
 congr 1
theorem yO{fn:Func}{ys:List Value}
 (h:((tl fn.results).mapM (FP a)).run P w=.ok ys w):
 (results fn a.tmps).run P w=.ok (match ys with | [y]=>y | _=>.tuple ys.toArray) w:=by
 rw[KC];have e:(fn.results.mapM (FP a)).run P w=.ok ys.toArray w:=by
  cases hr:fn.results with
  | mk l=>
    rw[hr]at h;have e2:=List.mapM_toArray (m:=Sem) (f:=(FP a)) (l:=l);refine(qy (λx=>Sem.run P x w) e2).trans ?_
    simp only[Sem.run_map];rw[show Sem.run P (List.mapM (FP a) l) w=_ from h];rfl
 simp only[Sem.run_bind];rw[e];simp only[Result.andThen_ok,Sem.run_pure]
 congr 1
 match ys with
 | []=>rfl
 | [y]=>rfl
 | _ :: _ :: _=>simp
abbrev mJ(fn:Func):Code:=match fn.body with
 | some c=>c
 | none=>.skip
theorem yP{P:Program}{fn:Func}{tmps:Array Value}{R:Ending->World->Prop}{N:Nat}{B:World}{h0:FH}{s:St}{h:FH}{β:List RV}:∀(X:List Nat){w:World},X.Nodup->(∀D∈X,B.heap.size<=D/\w.heap[D]?=some (.deferred (some []))) ->
 Sat N (Base.of B) h0 s h β w { tmps:=tmps,defers:=[] }->(∀w',Sat N (Base.of B) h0 s h β w' { tmps:=tmps,defers:=[] }->∃v,(results fn tmps).run P w'=.ok v w'/\R (.returned v) w') ->
 LeavesInM Fence.wide 0 P fn tmps R (X.map (λD=>({ target:=.collected D,args:=#[] }:Deferred))) .returning w
 | [],w,_,_,ah,fin=>fin w ah
 | D :: X,w,hn,hx,ah,fin=>by
   obtain⟨h1,h2⟩:=hx D (by simp)
   have hn:=V3.1 hn;refine⟨λhh=>(by cases hh),.inl ⟨D,w.putObj D (.deferred none),rfl,run_takeDeferred h2,?_⟩⟩
   refine yP X hn.2 (λD' hD'=>?_) ⟨ah.ok.turn h1 (λk u hk=>hk.elim) h2 rfl,ah.env,ah.gs,Jq.nil rfl,ah.sz,ah.gb,ah.gT⟩ fin
   obtain⟨g1,g2⟩:=hx D' (by simp[hD'])
   refine⟨g1,(World.putObj_heap_other ?_).trans g2⟩;rintro rfl;exact hn.1 hD'
abbrev FQ:List Value->List SV
 | []=>[]
 | v :: l=>.c (.v v) :: FQ l
theorem NJ{h:FH}{β:List RV}:∀{l:List Value},(∀v∈l,zO v=true)->aI (bV h β) (FQ l) l
 | [],_=>trivial
 | v :: l,hh=>⟨⟨⟨rfl,ou (hh v (by simp))⟩,ou (hh v (by simp))⟩,NJ λu hu=>hh u (by simp[hu])⟩
theorem aI.append{α β:Type}{R:α->β->Prop}:∀{l l':List α}{m m':List β},aI R l m->aI R l' m'->aI R (l++l') (m++m')
 | [],_,[],_,_,h=>h
 | _ :: _,_,_ :: _,_,⟨a,b⟩,h=>⟨a,aI.append b h⟩
theorem ab5(ok:eH P E){fn:Func}{sv:List SV} (hf:P.funcs[f]?=some fn) (hb:fn.body=some body) (hn:fn.ntmps=E.n) (hle:Nat.ble (aJ ct.ps+aJ sv) E.n=true)
 (k:∀d,ct.pre d->∃ann,yN { E with ann:=ann } body (tl fn.results) (dO (dV ct.ps d) sv) λT e=>(ct.res d).1=T/\(ct.res d).2=e):CTS P E.cx.gd f sv ct:=by
 intro d vs suf h B hw hg hargs hys aS;obtain⟨ann,kk⟩:=k d aS;have ok:eH P { E with ann:=ann }:=⟨ok.prog,ok.hc,ok.Xv,ok.mixed,ok.ti,ok.ct,ok.ip,ok.sq,ok.sf⟩
 have hlen:∀{ss:List Sh}{d:bW ss},(dV ss d).length=aJ ss:=by
  intro ss
  induction ss with
  | nil=>intro d;rfl
  | cons s l ih=>intro d;simp[dV,aJ,ih]
 have hvl:vs.length=aJ ct.ps:=by rw[<-hargs.length,hlen]
 have hvn:(vs++suf).length<=E.n:=by rw[kD,hvl,<-hys.length,<-aV sv];exact lK hle
 replace hargs:aI (bV h []) (dO (dV ct.ps d) sv) (vs++suf):=by
  rw[dW];exact hargs.append hys
 generalize dO (dV ct.ps d) sv=av at hargs kk;clear hvl hys;generalize vs++suf=vs at hargs hvn ⊢;refine callsIn_wide.1 (callsIn_of_wp_marks (F:=Fence.wide) (n:=0) hf hb trivial ?_);have ah:Sat E.n (Base.of B) h { env:=yZ 0 av,T:=[],gl:=[],gs:=[] } h [] B { tmps:=vs.toArray++Array.replicate (fn.ntmps - vs.toArray.size) undef,defers:=[] }:=by
  have look:∀{xs:List SV}{ys:List Value}{n t:Nat}{G:Gd}{e:aW},aI (bV h []) xs ys->fH (yZ n xs) t=some (G,e)->∃y,G=[]/\n<=t/\ys[t - n]?=some y/\iO h [] e y:=by
   intro xs
   induction xs with
   | nil=>intro ys n t G e _ hh;simp[yZ,fH]at hh
   | cons x xs ih=>
     intro ys n t G e a hh;cases ys with
     | nil=>exact a.elim
     | cons y ys=>
       simp only[yZ]at hh;rw[aX]at hh;split at hh
       .rename_i hk;subst hk;cases hh;exact⟨y,rfl,mZ _,by simp,a.1⟩
       .obtain⟨u,h1,h2,h3,h4⟩:=ih a.2 hh;refine⟨u,h1,by omega,?_,h4⟩
        rw[show t - n=(t - (n+1))+1 by omega]
        simpa using h3
  refine⟨⟨Bw.refl (Base.of B),mZ _,rfl,λi r v e _=>by simp[eff]at e,λi r v b e _ _ _=>by simp[eff]at e,λi j r r' u v b e _ _ _ _ _ _ _=>by simp[eff]at e,FH.le.refl h,hw,λb o v hh=>.inl hh,λk o hh=>hh.elim⟩,?_,?_,Jq.nil rfl,?_,?_,?_⟩
  .intro t G e ht;obtain⟨y,rfl,h2,h3,h4⟩:=look hargs ht;simp only[Nat.sub_zero]at h3;refine⟨y,?_,λ_=>h4,λhh=>by cases hh⟩
   rw[Array.getElem?_append_left (by have:=(eU.1 h3).1;simpa using this)]
   simpa using h3
  .intro d i hi;cases hi
  .simp only[VY,CO,Array.size_replicate];omega
  .intro t G e ht;obtain⟨y,rfl,_⟩:=look hargs ht;rfl
  .intro p hp;cases hp
 refine gW body ok hg (.inl rfl) (λ_=>rfl) ah kk λe s' h' β' w' a' B' lb k' le aK sm=>?_
 have fin:Uk E.cx s' (tl fn.results) (λvs=>coK E.rc s'.T vs λT vs=>XJ T vs λT e=>(ct.res d).1=T/\(ct.res d).2=e) ->
  LeavesInM Fence.wide 0 P fn a'.tmps (λen w'=>∃h' β y,en=.returned y/\OK (Base.of B) h (ct.res d).1 h' β w'/\iO h' β (ct.res d).2 y) a'.defers .returning w':=by
  intro kr;obtain⟨X,x1,x2,x3⟩:=aK.defers;rw[x1];have e0:B'.toWorld=B:=lb.1.1;have ea:B'.al=(Base.of B).al:=lb.1.2.1;have nd:∀D∈X,B.heap.size<=D/\w'.heap[D]?=some (.deferred (some [])):=λD hD=>⟨by have:=(x3 D hD).1;rw[ea]at this;exact this,aK.ok.kn D _ (x3 D hD).2⟩
  have fQ:Sat E.n (Base.of B) h s' h' β' w' { tmps:=a'.tmps,defers:=[] }:=
   ⟨aK.ok.Ky (B':=Base.of B) (by rw[e0]) (by rw[ea]) (λk o hh=>hh.elim),aK.env,aK.gs,Jq.nil rfl,aK.sz,aK.gb,aK.gT⟩
  refine yP X x2 nd fQ λw' aK=>?_
  replace kr:=kr
  obtain⟨vs,ys,k1,r1,c1⟩:=NI ok.ti aK kr;obtain⟨T1,vs1,h1,β1,k1,le1,eb1,ok1,c1⟩:=Um aK.ok k1 c1;unfold XJ at k1;split at k1
  .rename_i vs' acc hsel;obtain⟨e1,e2⟩:=k1;obtain⟨ka,_,c2⟩:=IG ok1 hsel ⟨λp hp=>by simp at hp,λi j p q hp=>by simp at hp⟩ c1
   refine⟨_,yO r1,h1,_,_,rfl,by rw[e1];exact ok1.pick ka,?_⟩
   rw[e2]
   match vs',ys,c2 with
   | [],[],c2=>exact⟨[],rfl,c2⟩
   | [v],[y],c2=>exact c2.1
   | _ :: _ :: _,y :: z :: ys,c2=>exact⟨_,rfl,c2⟩
  .cases k1
 cases e with
 | normal=>exact fin k'
 | ret=>exact fin k'
 | exit i=>exact k'.elim
 | goto l=>exact k'.elim
 | panic ch=>exact k'.elim
 | outgrown=>exact k'.elim
theorem Un(ok:eH P E){fn:Func}{suf:List Value} (XM:∀v∈suf,zO v=true) (hf:P.funcs[f]?=some fn) (hb:fn.body=some body) (hn:fn.ntmps=E.n) (hle:Nat.ble (aJ ct.ps+aJ suf) E.n=true)
 (k:∀d,ct.pre d->∃ann,yN { E with ann:=ann } body (tl fn.results) (dO (dV ct.ps d) (FQ suf)) λT e=>(ct.res d).1=T/\(ct.res d).2=e):CTX P E.cx.gd f suf ct:=by
 intro d vs h B hw hg hargs aS;have hl:aJ (FQ suf)=aJ suf:=by
  clear hle k XM
  induction suf with
  | nil=>rfl
  | cons v l ih=>simp[FQ,aJ,ih]
 exact ab5 ok hf hb hn (by rw[hl];exact hle) k d vs suf h B hw hg hargs (NJ XM) aS
theorem aao(ok:eH P E){fn:Func} (hf:P.funcs[f]?=some fn) (hb:fn.body=some body) (hn:fn.ntmps=E.n) (hle:Nat.ble (aJ ct.ps) E.n=true)
 (k:∀d,ct.pre d->∃ann,yN { E with ann:=ann } body (tl fn.results) (dV ct.ps d) λT e=>(ct.res d).1=T/\(ct.res d).2=e):EN P E.cx.gd f ct:=
 (Un (suf:=[]) ok (λv hv=>by cases hv) hf hb hn (by simpa[aJ]using hle) (λd hd=>by
  obtain⟨ann,kk⟩:=k d hd;exact⟨ann,by rw[show dO (dV ct.ps d) (FQ [])=dV ct.ps d by rw[dW];simp[FQ]];exact kk⟩)).ok
abbrev V7:List (Nat×CT)->Nat->Option CT
 | [],_=>none
 | (k,e) :: l,n=>cnd (Nat.beq k n) (some e) (V7 l n)
def Met(P:Program) (gd:Nat->Option (Sigma Sh.den)) (f:FuncId) (c:CT):Prop:=EN P gd f c/\CQ P f
def nT(P:Program) (gd:Nat->Option (Sigma Sh.den)):List (Nat×CT)->Prop
 | []=>True
 | (k,c) :: l=>Met P gd k c/\nT P gd l
theorem Met.more{gd gd':Nat->Option (Sigma Sh.den)}{f:Nat}{c:CT} (h:Met P gd f c) (le:∀g p,gd g=some p->gd' g=some p):Met P gd' f c:=
 ⟨λd vs h' B hw hg=>h.1 d vs h' B hw λg p e=>hg g p (le g p e),h.2⟩
theorem nT.get{P:Program}{gd:Nat->Option (Sigma Sh.den)}:∀{l:List (Nat×CT)}{f:Nat}{c:CT},nT P gd l->V7 l f=some c->Met P gd f c
 | [],_,_,_,e=>by simp[V7]at e
 | (k,x) :: l,t,i,⟨h1,h2⟩,e=>by
   simp only[V7,jo]at e;split at e
   .rename_i hk;have:k=t:=by simpa using hk
    subst this;cases e;exact h1
   .exact nT.get h2 e
abbrev lkI:List (Nat×IP)->Nat->Option IP
 | [],_=>none
 | (k,e) :: l,n=>cnd (Nat.beq k n) (some e) (lkI l n)
def NK(P:Program) (gd:Nat->Option (Sigma Sh.den)) (f:FuncId) (c:IP):Prop:=PL P gd f c/\CQ P f
def BF(P:Program) (gd:Nat->Option (Sigma Sh.den)):List (Nat×IP)->Prop
 | []=>True
 | (k,c) :: l=>NK P gd k c/\BF P gd l
theorem BF.get{P:Program}{gd:Nat->Option (Sigma Sh.den)}:∀{l:List (Nat×IP)}{f:Nat}{c:IP},BF P gd l->lkI l f=some c->NK P gd f c
 | [],_,_,_,e=>by simp[lkI]at e
 | (k,x) :: l,t,i,⟨h1,h2⟩,e=>by
   simp only[lkI,jo]at e;split at e
   .rename_i hk;have:k=t:=by simpa using hk
    subst this;cases e;exact h1
   .exact BF.get h2 e
theorem Uo{il:List (Nat×IP)} (mx:P.follows .mixedOrders=true) (ti:bT P cx.ti) (cm:nT P cx.gd cl) (im:BF P cx.gd il){fn:Func} (hf:P.funcs[f]?=some fn) (hb:fn.body=some (mJ fn)) (hn:fn.ntmps=n) (hle:Nat.ble (aJ ct.ps) n=true)
 (hs:fn.body.isSome=true) (hname:(fn.name == "runtime.NumGoroutine")=false)
 (k:∀d,ct.pre d->∃ann,yN { cx:=cx,n:=n,ct:=V7 cl,ann:=ann,ip:=lkI il,rc:=rc } (mJ fn) (tl fn.results) (dV ct.ps d) λT e=>(ct.res d).1=T/\(ct.res d).2=e):Met P cx.gd f ct:=
 ⟨aao (E:={ cx:=cx,n:=n,ct:=V7 cl,ann:=λ_=>none,ip:=lkI il,rc:=rc }) ⟨λP' e=>(by cases e),λ_ _ _ e=>(by cases e),λ_ _ e=>(by cases e),mx,ti,λf c h=>⟨(cm.get h).1,(cm.get h).2⟩,λf c h=>⟨(im.get h).1,(im.get h).2⟩,λ_ _ e=>(by cases e),λ_ _ e=>(by cases e)⟩ hf hb hn hle k,⟨fn,hf,hs,hname⟩⟩
theorem ab7(mx:P.follows .mixedOrders=true) (ti:bT P cx.ti) (cm:nT P cx.gd cl){fn:Func} (hf:P.funcs[f]?=some fn) (hb:fn.body=some (mJ fn)) (hn:fn.ntmps=n) (hle:Nat.ble (aJ ct.ps) n=true)
 (hs:fn.body.isSome=true) (hname:(fn.name == "runtime.NumGoroutine")=false)
 (k:∀d,ct.pre d->∃ann,yN { cx:=cx,n:=n,ct:=V7 cl,ann:=ann } (mJ fn) (tl fn.results) (dV ct.ps d) λT e=>(ct.res d).1=T/\(ct.res d).2=e):Met P cx.gd f ct:=
 ⟨aao (E:={ cx:=cx,n:=n,ct:=V7 cl,ann:=λ_=>none }) ⟨λP' e=>(by cases e),λ_ _ _ e=>(by cases e),λ_ _ e=>(by cases e),mx,ti,λf c h=>⟨(cm.get h).1,(cm.get h).2⟩,λf c h=>(by cases h),λ_ _ e=>(by cases e),λ_ _ e=>(by cases e)⟩ hf hb hn hle k,⟨fn,hf,hs,hname⟩⟩
def ab8(P:Program) (gd:Nat->Option (Sigma Sh.den)) (g:Nat) (m:MK):Prop:=
 ∀d h lb,m.pre d->aG gd h->capD h m.ss d lb->(m.f d).rel h (.func (.func g) #[] lb.toArray)
abbrev lkM:List (Nat×MK)->Nat->Option MK
 | [],_=>none
 | (k,e) :: l,n=>cnd (Nat.beq k n) (some e) (lkM l n)
def DX(P:Program) (gd:Nat->Option (Sigma Sh.den)):List (Nat×MK)->Prop
 | []=>True
 | (k,c) :: l=>ab8 P gd k c/\DX P gd l
theorem DX.get{P:Program}{gd:Nat->Option (Sigma Sh.den)}:∀{l:List (Nat×MK)}{f:Nat}{c:MK},DX P gd l->lkM l f=some c->ab8 P gd f c
 | [],_,_,_,e=>by simp[lkM]at e
 | (k,x) :: l,t,i,⟨h1,h2⟩,e=>by
   simp only[lkM,jo]at e;split at e
   .rename_i hk;have:k=t:=by simpa using hk
    subst this;cases e;exact h1
   .exact DX.get h2 e
def Qq(P:Program) (gd:Nat->Option (Sigma Sh.den)) (f:FuncId) (suf:List Value) (c:CT):Prop:=CTX P gd f suf c/\CQ P f
abbrev lkH:List (Nat×Nat×CT)->Nat->Nat->Option CT
 | [],_,_=>none
 | (k,g,e) :: l,n,m=>cnd (bY (Nat.beq k n) (Nat.beq g m)) (some e) (lkH l n m)
def DY(P:Program) (gd:Nat->Option (Sigma Sh.den)):List (Nat×Nat×CT)->Prop
 | []=>True
 | (k,g,c) :: l=>Qq P gd k [.func (.func g) #[] #[]] c/\DY P gd l
theorem DY.get{P:Program}{gd:Nat->Option (Sigma Sh.den)}:∀{l:List (Nat×Nat×CT)}{f g:Nat}{c:CT},DY P gd l->lkH l f g=some c->Qq P gd f [.func (.func g) #[] #[]] c
 | [],_,_,_,_,e=>by simp[lkH]at e
 | (k,g',x) :: l,t,g,i,⟨h1,h2⟩,e=>by
   simp only[lkH,jo,ay]at e;split at e
   .rename_i hk;rw[A8]at hk;have e1:k=t:=gI hk.1;have e2:g'=g:=gI hk.2;subst e1;subst e2;cases e;exact h1
   .exact DY.get h2 e
abbrev Ur(P:Program) (cx:Cx) (n:Nat) (cl:List (Nat×CT)) (il:List (Nat×IP)) (hl:List (Nat×Nat×CT)) (ml:List (Nat×MK)) (rc:List RC) (lits:List Nat) (ann:Nat->Option (St->mO)):Env:=
 { cx:=cx,n:=n,ct:=V7 cl,ann:=ann,ip:=lkI il,rc:=rc,lits:=lits,P:=some P,hc:=lkH hl,Xv:=lkM ml }
theorem NM{il:List (Nat×IP)}{hl:List (Nat×Nat×CT)}{ml:List (Nat×MK)}{lits:List Nat}{ann:Nat->Option (St->mO)}
 (mx:P.follows .mixedOrders=true) (ti:bT P cx.ti) (cm:nT P cx.gd cl) (im:BF P cx.gd il) (hm:DY P cx.gd hl) (mm:DX P cx.gd ml):eH P (Ur P cx n cl il hl ml rc lits ann) where
 prog:=λP' e=>by cases e;rfl
 hc:=λf g c e=>hm.get e
 Xv:=λg fx e=>mm.get e
 mixed:=mx
 ti:=ti
 ct:=λf c h=>cm.get h
 ip:=λf c h=>im.get h
 sq:=λf c h=>by cases h
 sf:=λf c h=>by cases h
theorem zA{il:List (Nat×IP)}{hl:List (Nat×Nat×CT)}{ml:List (Nat×MK)}{lits:List Nat}{suf:List Value}
 (mx:P.follows .mixedOrders=true) (ti:bT P cx.ti) (cm:nT P cx.gd cl) (im:BF P cx.gd il) (hm:DY P cx.gd hl) (mm:DX P cx.gd ml){fn:Func} (hf:P.funcs[f]?=some fn) (hb:fn.body=some (mJ fn)) (hn:fn.ntmps=n)
 (hle:Nat.ble (aJ ct.ps+aJ suf) n=true) (hs:fn.body.isSome=true) (hname:(fn.name == "runtime.NumGoroutine")=false) (XM:∀v∈suf,zO v=true)
 (k:∀d,ct.pre d->∃ann,yN (Ur P cx n cl il hl ml rc lits ann) (mJ fn) (tl fn.results) (dO (dV ct.ps d) (FQ suf)) λT e=>(ct.res d).1=T/\(ct.res d).2=e):Qq P cx.gd f suf ct:=
 ⟨Un (E:=Ur P cx n cl il hl ml rc lits λ_=>none) (NM mx ti cm im hm mm) XM hf hb hn hle k,⟨fn,hf,hs,hname⟩⟩
def afQ(P:Program) (gd:Nat->Option (Sigma Sh.den)) (f:FuncId) (q:SQ):Prop:=(∀L,CTS P gd f [.c (.abs (.seq P q.ss L))] (q.ct L))/\CQ P f
abbrev lkQ:List (Nat×SQ)->Nat->Option SQ
 | [],_=>none
 | (k,e) :: l,n=>cnd (Nat.beq k n) (some e) (lkQ l n)
def XN(P:Program) (gd:Nat->Option (Sigma Sh.den)):List (Nat×SQ)->Prop
 | []=>True
 | (k,c) :: l=>afQ P gd k c/\XN P gd l
theorem XN.get{P:Program}{gd:Nat->Option (Sigma Sh.den)}:∀{l:List (Nat×SQ)}{f:Nat}{c:SQ},XN P gd l->lkQ l f=some c->afQ P gd f c
 | [],_,_,_,e=>by simp[lkQ]at e
 | (k,x) :: l,t,i,⟨h1,h2⟩,e=>by
   simp only[lkQ,jo]at e;split at e
   .rename_i hk;have:k=t:=by simpa using hk
    subst this;cases e;exact h1
   .exact XN.get h2 e
def afR(P:Program) (gd:Nat->Option (Sigma Sh.den)) (f:FuncId) (q:SF):Prop:=(∀pre g,CTS P gd f [.c (.abs (.clo P q.ss q.r pre g))] (q.ct pre g))/\CQ P f
abbrev lkF:List (Nat×SF)->Nat->Option SF
 | [],_=>none
 | (k,e) :: l,n=>cnd (Nat.beq k n) (some e) (lkF l n)
def XO(P:Program) (gd:Nat->Option (Sigma Sh.den)):List (Nat×SF)->Prop
 | []=>True
 | (k,c) :: l=>afR P gd k c/\XO P gd l
theorem XO.get{P:Program}{gd:Nat->Option (Sigma Sh.den)}:∀{l:List (Nat×SF)}{f:Nat}{c:SF},XO P gd l->lkF l f=some c->afR P gd f c
 | [],_,_,_,e=>by simp[lkF]at e
 | (k,x) :: l,t,i,⟨h1,h2⟩,e=>by
   simp only[lkF,jo]at e;split at e
   .rename_i hk;have:k=t:=by simpa using hk
    subst this;cases e;exact h1
   .exact XO.get h2 e
theorem Qq.met{gd:Nat->Option (Sigma Sh.den)}{c:CT} (h:Qq P gd f [] c):Met P gd f c:=⟨h.1.ok,h.2⟩
theorem jY(ti:bT P cx.ti) (cm:nT P cx.gd cl){fn:Func} (hf:P.funcs[f]?=some fn)
 (k:∀d,ct.pre d->∃ann,yN (Ur P cx n cl [] [] [] rc [] ann) (mJ fn) (tl fn.results) (dO (dV ct.ps d) (FQ [])) λT e=>(ct.res d).1=T/\(ct.res d).2=e)
 (mx:P.follows .mixedOrders=true:=by kernel_rfl) (hb:fn.body=some (mJ fn):=by kernel_rfl) (hn:fn.ntmps=n:=by rfl) (hle:Nat.ble (aJ ct.ps+aJ ([]:List Value)) n=true:=by kernel_rfl)
 (hs:fn.body.isSome=true:=by kernel_rfl) (hname:(fn.name == "runtime.NumGoroutine")=false:=by kernel_rfl):Met P cx.gd f ct:=
 (zA (il:=[]) (hl:=[]) (ml:=[]) (lits:=[]) (suf:=[]) mx ti cm trivial trivial trivial hf hb hn hle hs hname (by simp) k).met
theorem jA(ti:bT P cx.ti) (cm:nT P cx.gd cl){fn:Func} (hf:P.funcs[f]?=some fn)
 (k:∀d,ct.pre d->∃ann,yN { cx:=cx,n:=n,ct:=V7 cl,ann:=ann } (mJ fn) (tl fn.results) (dV ct.ps d) λT e=>(ct.res d).1=T/\(ct.res d).2=e)
 (mx:P.follows .mixedOrders=true:=by kernel_rfl) (hb:fn.body=some (mJ fn):=by kernel_rfl) (hn:fn.ntmps=n:=by rfl) (hle:Nat.ble (aJ ct.ps) n=true:=by kernel_rfl)
 (hs:fn.body.isSome=true:=by kernel_rfl) (hname:(fn.name == "runtime.NumGoroutine")=false:=by kernel_rfl):Met P cx.gd f ct:=
 ab7 mx ti cm hf hb hn hle hs hname k
abbrev aap(s:St) (o:Oper):Option Nat:=match o.guard with
 | some _=>none
 | none=>match o.op with
   | .call c=>match c.callee with
     | .value (.tmp t)=>match fH s.env t with
       | some ([],.one (.c (.abs (.Rl l))))=>some l
       | _=>none
     | _=>none
   | _=>none
abbrev BG(E:Env) (l:Nat) (ss:List Sh) (L:List (bW ss)) (ops:List Oper):List Oper->Nat->St->(Option Nat->St->Prop)->Prop
 | [],i,s,K=>K (some i) s
 | o :: r,i,s,K=>match aap s o with
   | some l'=>match jC E.n o.dst with
     | false=>False
     | true=>l=l'/\match oJ E.cx s [] (jE o.op) with
       | none=>False
       | some vs=>match allL noRow vs with
         | false=>False
         | true=>match CY s [] vs with
           | none=>False
           | some bs=>match uX ss bs with
             | none=>False
             | some d=>L[i]?=some d/\BG E l ss L ops r (i+1) (s.put o.dst [] (.one (.c (.v (.bool true))))) K/\Xx E ops r (s.put o.dst [] (.one (.c (.v (.bool false))))) λs=>K none s
   | none=>Ie E ops o s λs=>BG E l ss L ops r i s K
abbrev Qr(s:St) (o:Oper):Option Nat:=match o.op with
 | .call c=>match c.callee with
   | .value (.tmp t)=>match fH s.env t with
     | some (_,.one (.c (.abs (.Rl l))))=>some l
     | _=>none
   | _=>none
 | _=>none
abbrev FT(s:St):List Oper->Bool
 | []=>false
 | o :: l=>match o.op with
   | .call c=>match c.callee with
     | .value (.tmp _)=>true
     | _=>FT s l
   | _=>FT s l
abbrev iy(E:Env) (l:Nat) (ss:List Sh) (L:List (bW ss)) (ops:List Oper):OT->Option Nat->St->(Option Nat->St->Prop)->Prop
 | .done,g,s,K=>K g s
 | .op o t,g,s,K=>match g with
   | some i=>match Qr s o with
     | some l'=>match jC E.n o.dst with
       | false=>False
       | true=>match o.op with
         | .call c=>match c.callee with
           | .value (.tmp t')=>l=l'/\rD E.lits s ops o.guard λG s=>match fH s.env t' with
             | some (Gt,.one (.c (.abs (.Rl l2))))=>match oq Gt G with
               | false=>False
               | true=>l'=l2/\match oJ E.cx s G (jE o.op) with
                 | none=>False
                 | some vs=>match allL noRow vs with
                   | false=>False
                   | true=>match CY s G vs with
                     | none=>False
                     | some bs=>match uX ss bs with
                       | none=>False
                       | some d=>br (gv s.gl G) (L[i]?=some d/\iy E l ss L ops t (some (i+1)) (s.put o.dst G (.one (.c (.v (.bool true))))) K/\iy E l ss L ops t none (s.put o.dst G (.one (.c (.v (.bool false))))) K)
                         (iy E l ss L ops t (some i) (s.put o.dst G (.one (.c (.v (.bool false))))) K)
             | _=>False
           | _=>False
         | _=>False
     | none=>ig E ops o s λs=>iy E l ss L ops t (some i) s K
   | none=>ig E ops o s λs=>iy E l ss L ops t none s K
 | .alt o t m,g,s,K=>match g with
   | some i=>match Qr s o with
     | some _=>False
     | none=>(ig E ops o s λs=>iy E l ss L ops t (some i) s K)/\iy E l ss L ops m (some i) s K
   | none=>(ig E ops o s λs=>iy E l ss L ops t none s K)/\iy E l ss L ops m none s K
def FU(ops:Array Oper):Option OT:=
 let t:=Dc ops ops.size (Array.replicate ops.size false)
 if Region.noSelect ops && jl ops t true ops.size (Array.replicate ops.size false) then some (yc ops t) else none
abbrev XP(body:Nat->St->(Exit->Option Nat->St->Prop)->Prop) (ws:List Nat) (la:LA) (gh:la.α->Nat) (i:Nat) (s:St) (K:Exit->Option Nat->St->Prop):Prop:=
 (∃x,la.inv x/\gh x=i/\Df s (la.slots x)/\s.T=jq (la.res x) s.T) /\
 ∀x,la.inv x->match bY (uG (aJ s.T) (jq (la.res x) s.T)) (DN (aJ s.T) ws (la.slots x)) with
   | false=>False
   | true=>body (gh x) (nS ws s (la.slots x) (la.res x)) λe g s'=>match e with
     | .normal=>match g with
       | some j=>match Bq s' (keepR (aJ s.T) ws [] s.env) with
         | true=>∃x',la.inv x'/\gh x'=j/\Df s' (la.slots x')/\og (aJ s.T) s'.T=jq (la.res x') s.T/\la.meas x' < la.meas x
         | false=>False
       | none=>False
     | e=>K e g s'
abbrev yw(E:Env) (l:Nat) (ss:List Sh) (L:List (bW ss)):Code->Nat->St->(Exit->Option Nat->St->Prop)->Prop
 | .skip,i,s,K=>K .normal (some i) s
 | .region id ops draw,i,s,K=>match yX (tl ops) with
   | false=>False
   | true=>match draw with
     | false=>BG E l ss L (tl ops) (tl ops) i s λg s=>K .normal g (clean s)
     | true=>match FT s (tl ops) with
       | false=>match tN ops with
         | some t=>kQ E (tl ops) t s λs=>K .normal (some i) (clean s)
         | none=>False
       | true=>match FU ops with
         | some t=>iy E l ss L (tl ops) t (some i) s λg s=>K .normal g (clean s)
         | none=>False
 | .seq x y,i,s,K=>yw E l ss L x i s λe g s'=>match e with
   | .normal=>match g with
     | some j=>yw E l ss L y j s' K
     | none=>iJ E y s' λe s'=>K e none s'
   | e=>K e g s'
 | .cond c x y,i,s,K=>match bI E.cx s [] c with
   | some (.one (.c (.v (.bool b))))=>br b (yw E l ss L x i s K) (yw E l ss L y i s K)
   | _=>False
 | .block id c,i,s,K=>yw E l ss L c i s λe g s'=>match e with
   | .exit j=>match Nat.beq j id with
     | true=>K .normal g s'
     | false=>K (.exit j) g s'
   | e=>K e g s'
 | .loop c,i,s,K=>match XF E c s with
   | some (.gen la gh)=>XP (yw E l ss L c) (dO la.drop (writes c)) la gh i s K
   | _=>False
 | .exit j,i,s,K=>K (.exit j) (some i) s
 | .ret,i,s,K=>K .ret (some i) s
 | _,_,_,_=>False
def GS(N:Nat) (J:Option Nat->(Nat->Prop)->World->Prop) (h0:FH) (g:Option Nat) (s:St) (h:FH) (β:List RV) (w:World) (a:Act):Prop:=
 ∃(B:Base) (G:Nat->Prop),J g G B.toWorld/\(∀b,G b->b < B.heap.size)/\(∀k,B.al k↔G k\/B.heap.size<=k)/\(∀k o,B.nc k o->B.al k)/\Sat N B h0 s h β w a
section
variable {N:Nat}{J:Option Nat->(Nat->Prop)->World->Prop}{h0:FH}{g:Option Nat}{s:St}{h:FH}{β:List RV}{w:World}{a:Act}
theorem Sat.norm(ah:Sat N B h0 s h β w a):∃B':Base,B'.toWorld=B.toWorld/\B'.al=B.al/\(∀k o,B'.nc k o->B'.al k)/\Sat N B' h0 s h β w a:=by
 obtain⟨X,x1,x2,x3⟩:=ah.defers;refine⟨{ B with nc:=λk o=>k∈X/\o=.deferred (some []),cell:=λk o hh=>by rw[hh.2] },rfl,rfl,λk o hh=>(x3 k hh.1).1,?_⟩
 exact⟨ah.ok.Ky rfl rfl (λk o hh=>by rw[hh.2];exact ah.ok.kn k _ (x3 k hh.1).2),ah.env,ah.gs,⟨X,x1,x2,λD hD=>⟨(x3 D hD).1,hD,rfl⟩⟩,ah.sz,ah.gb,ah.gT⟩
theorem GS.step{B':Base}{G:Nat->Prop} (hJ:J g G B.toWorld) (hG:∀b,G b->b < B.heap.size) (ha:∀k,B.al k↔G k\/B.heap.size<=k) (lb:B.leB B'){s':St}{h':FH}{β':List RV}{w':World}{a':Act} (ah:Sat N B' h0 s' h' β' w' a'):GS N J h0 g s' h' β' w' a':=by
 obtain⟨B2,e1,e2,e3,aY⟩:=ah.norm;have e4:B2.toWorld=B.toWorld:=e1.trans lb.1;refine⟨B2,G,by rw[e4];exact hJ,λb hb=>by rw[e4];exact hG b hb,λk=>?_,e3,aY⟩
 rw[e2,lb.2.1,ha k,e4]
def y5(B:Base) (w:World) (b:Nat):Prop:=B.al b/\b < w.heap.size
theorem GS.now{G:Nat->Prop} (hAb:∀i G G' A A',J i G A->Gs G A A'->Own' G G' A A'->J i G' A') (hJ:J g G B.toWorld) (ha:∀k,B.al k↔G k\/B.heap.size<=k) (ah:Sat N B h0 s h β w a):J g (y5 B w) w:=by
 refine hAb g G _ _ _ hJ ⟨ah.ok.below.os,ah.ok.below.tape,ah.ok.below.output,ah.ok.below.size,ah.ok.dr,λk hk hn=>ah.ok.below.block k hk λhh=>?_⟩ λb hb=>⟨hb.2,(ha b).1 hb.1⟩
 rcases(ha k).1 hh with h1 | h1
 .exact hn h1
 .omega
theorem GS.turn(e3:∀k o,B.nc k o->B.al k) (ah:Sat N B h0 s h β w a){A':World}{g':Option Nat} (hJ:J g' (y5 B w) A') (hw0:HW h0 A') (keep:∀b,y5 B w b->A'.heap[b]?=w.heap[b]?):
 GS N J h0 g' s h β A' a:=by
 have lt:∀b,y5 B w b->b < A'.heap.size:=by
  intro b hb;have h1:=keep b hb;rw[Array.getElem?_eq_getElem hb.2]at h1;exact(zh.1 h1).1
 have kn:∀k o,B.nc k o->A'.heap[k]?=some o:=λk o hk=>by
  have h1:=ah.ok.kn k o hk;rw[keep k ⟨e3 k o hk,(zh.1 h1).1⟩];exact h1
 refine⟨{ A' with nc:=B.nc,cell:=B.cell,al:=λk=>y5 B w k\/A'.heap.size<=k,up:=λ_ hh=>.inr hh },y5 B w,hJ,lt,λk=>Iff.rfl,
  λk o hk=>.inl ⟨e3 k o hk,(zh.1 (ah.ok.kn k o hk)).1⟩,?_⟩
 have own:∀{i:Nat}{r:aC}{v:RV}{b:Nat},(eff s.gl s.T)[i]?=some r->r.live=true->β[i]?=some v->v.has b->y5 B w b:=λe hl e' hb=>
  ⟨(ah.ok.own _ _ _ _ e hl e' hb).1,(ah.ok.own _ _ _ _ e hl e' hb).2.1⟩
 refine⟨⟨⟨rfl,rfl,rfl,mZ _,λ_ _ _=>rfl⟩,mZ _,ah.ok.len,λi r v e e'=>(ah.ok.holds i r v e e').move (FH.le.refl h) (Ext.refl _) λhl b hb=>keep b (own e hl e' hb),
  λi r v b e hl e' hb=>⟨.inl (own e hl e' hb),lt b (own e hl e' hb),(ah.ok.own i r v b e hl e' hb).2.2⟩,ah.ok.inj,ah.ok.hle,λb o v hh=>?_,λb o v hh=>?_,kn⟩,ah.env,ah.gs,?_,ah.sz,ah.gb,ah.gT⟩
 .rcases ah.ok.hg b o v hh with h1 | h1
  .exact hw0 b o v h1
  .have h2:=ah.ok.hw b o v hh;exact(jf (keep b ⟨h1,kX h2⟩)).trans h2
 .rcases ah.ok.hg b o v hh with h1 | h1
  .exact .inl h1
  .have h3:=kX (ah.ok.hw b o v hh);exact .inr (.inl ⟨h1,h3⟩)
 .obtain⟨X,x1,x2,x3⟩:=ah.defers;exact⟨X,x1,x2,λD hD=>⟨.inl ⟨(x3 D hD).1,(zh.1 (ah.ok.kn D _ (x3 D hD).2)).1⟩,(x3 D hD).2⟩⟩
end
theorem FV{h:FH}:∀{ss:List Sh}{vs:List SV}{ys:List Value}{d:bW ss},uX ss vs=some d->aI (bV h []) vs ys->yF h ss d ys
 | [],vs,ys,d,e,x=>by
   unfold uX at e;split at e
   .cases ys with
    | nil=>trivial
    | cons _ _=>exact x.elim
   .cases e
 | s :: l,vs,ys,d,e,x=>by
   unfold uX at e;split at e
   .rename_i v r;cases ys with
    | nil=>exact x.elim
    | cons y ys=>
      split at e
      .rename_i d1 hd;split at e
       .rename_i d2 hr;cases e;obtain⟨cs,e1,rd⟩:=toDat_ok hd x.1;exact⟨⟨cs,e1,rd⟩,FV hr x.2⟩
       .cases e
      .cases e
   .cases e
structure Yl (P:Program) (h0:FH) (l:Nat) (ss:List Sh) (L:List (bW ss)) (J:Option Nat->(Nat->Prop)->World->Prop):Prop where
 hw:∀i G A,J i G A->HW h0 A
 ab:∀i G G' A A',J i G A->Gs G A A'->Own' G G' A A'->J i G' A'
 yl:∀i d vs G A,L[i]?=some d->yF h0 ss d vs->J (some i) G A->YieldAt Fence.wide 0 P l vs.toArray A λe A'=>(∀b,G b->A'.heap[b]?=A.heap[b]?) /\
  ((e=.returned (.bool true)/\J (some (i+1)) G A')\/(e=.returned (.bool false)/\J none G A'))
section
variable {P:Program}{E:Env}{h0:FH}{l:Nat}{ss:List Sh}{L:List (bW ss)}{J:Option Nat->(Nat->Prop)->World->Prop}
theorem yF.flat{h h':FH}:∀{ss:List Sh}{d:bW ss}{vs:List Value},allL iw ss=true->yF h ss d vs->yF h' ss d vs
 | [],_,[],_,_=>trivial
 | [],_,_ :: _,_,x=>x.elim
 | _ :: _,_,[],_,x=>x.elim
 | s :: _,_,_ :: _,f,⟨a,b⟩=>by
   simp only[allL,ay,A8]at f;obtain⟨cs,e,r⟩:=a;exact⟨⟨cs,e,Rd.flat s f.1 r⟩,yF.flat f.2 b⟩
theorem yx(ok:eH P E) (hg:aG E.cx.gd h0) (hy:Yl P h0 l ss L J) (hfl:allL iw ss=true){ops:Array Oper}{n:Nat}{Q:Exit->Act->World->Prop}{K:Option Nat->St->Prop}:∀(r:List Oper) (k i:Nat){s:St}{h:FH}{β:List RV}{w:World}{a:Act},
 (∀j,r[j]?=ops[k+j]?)->yX r=true->GS E.n J h0 (some i) s h β w a->BG E l ss L (tl ops) r i s K ->
 (∀g s' h' β' w' a',K g s'->h.le h'->GS E.n J h0 g s' h' β' w' a'->Same (gJ r) a a'->Q .normal a' w')->wpOpsIn Fence.wide n P ops Q (List.range' k r.length) a w
 | [],k,i,s,h,β,w,a,_,_,gs,kk,next=>next _ _ _ _ _ _ kk (FH.le.refl h) gs (Same.refl _ _)
 | o :: r,k,i,s,h,β,w,a,hl,hn,gs,kk,next=>by
   have h0':ops[k]?=some o:=by simpa using(hl 0).symm
   have hl':∀j,r[j]?=ops[k+1+j]?:=λj=>by have:=hl (j+1);simpa[V4,Q9 1 j]using this
   simp only[yX,ay,A8]at hn;obtain⟨B,G,hJ,hG,ha,hnc,ah⟩:=gs;simp only[zI,List.range'_succ,wpOpsIn,h0'];simp only[BG]at kk;split at kk
   .rename_i l' hyl;split at kk
    .cases kk
    rename_i hd;obtain⟨hll,kk⟩:=kk;subst hll;split at kk
    .cases kk
    rename_i vs hvs;split at kk
    .cases kk
    rename_i hnr;split at kk
    .cases kk
    rename_i bs hbs;split at kk
    .cases kk
    rename_i d hdd;obtain⟨hLi,k1,k2⟩:=kk;unfold aap at hyl;split at hyl
    .cases hyl
    rename_i hgd;split at hyl
    .rename_i c ho;split at hyl
     .rename_i t bH;split at hyl
      .rename_i l2 hlk;cases hyl;have tr:gv s.gl []=true:=rfl;rw[if_pos (by simp[Region.wanted,hgd])]
       obtain⟨z,z1,z2,_⟩:=ah.env t [] _ hlk;have ez:z=.func (.yield l) #[] #[]:=(z2 tr).1;subst ez;have hgh:=hg.mono ah.ok.hle;have hav:=mg ah hgh tr hvs;obtain⟨_,b2⟩:=wJ ah tr hbs hav;have hao:jE o.op=tl c.args:=by simp only[jE,ho]
       rw[hao]at hav b2
       -- the arguments as they were frozen at the beginning
       have hJn:=GS.now hy.ab hJ ha ah;have dv:yF h ss d ((tl c.args).map a.eval):=FV hdd (b2 hnr);have dv0:yF h0 ss d ((tl c.args).map a.eval):=yF.flat hfl dv;obtain⟨fn,tmps,CB,body,hrun,BH⟩:=hy.yl i d _ (y5 B w) w hLi dv0 hJn;have hargs:(c.args.map a.eval)=((tl c.args).map a.eval).toArray:=by cases c.args;simp
       have exec:(execOp a.eval o).run P w=.ok (.round l fn tmps CB body) w:=by
        simp only[execOp,ho,resolve,bH,Act.eval];rw[show a.tmps.getD t undef=.func (.yield l) #[] #[] by simp[z1]]
        simp only[Deferred.ofValue,invoke,Sem.run_bind,Sem.run_pure,Result.andThen_ok];simp only[aaU];rw[hargs];exact hrun
       refine⟨λf _=>trivial,?_⟩
       rw[Oper.semAt_eq _ _ _ (λc' hc'=>by rw[hc']at hn;cases hn.1),exec]
       simp only[Oper.uponIn];refine⟨λhh=>(by cases hh),RoundIn.mono (F:=Fence.wide) (n:=n - 1) ⟨BH.1,λc' cs' hroom=>BH.2 c' cs' (λd' hd'=>by cases hd')⟩ ?_⟩
       rintro e A' ⟨keep,hh⟩;rcases hh with⟨rfl,hJ'⟩ | ⟨rfl,hJ'⟩
       .obtain⟨B2,G2,j1,j2,j3,j4,aY⟩:=GS.turn hnc ah hJ' (hy.hw _ _ _ hJ') keep;have gs3:GS E.n J h0 (some (i+1)) (s.put o.dst [] (.one (.c (.v (.bool true))))) h β A' (a.put o.dst (.bool true)):=⟨B2,G2,j1,j2,j3,j4,aY.put (cZ hd) rfl (λ_=>⟨⟨rfl,rfl,rfl⟩,rfl,rfl⟩) λhh=>by cases hh⟩
        exact yx ok hg hy hfl r (k+1) (i+1) hl' hn.2 gs3 k1 λg s2 h2 β2 w2 a2 k2 fU gs2 sm=>next g s2 h2 β2 w2 a2 k2 fU gs2 sm.put
       .obtain⟨B2,G2,j1,j2,j3,j4,aY⟩:=GS.turn hnc ah hJ' (hy.hw _ _ _ hJ') keep;have Kw:=aY.put (d:=o.dst) (G:=[]) (e:=.one (.c (.v (.bool false)))) (z:=.bool false) (cZ hd) rfl (λ_=>⟨⟨rfl,rfl,rfl⟩,rfl,rfl⟩) λhh=>by cases hh
        exact J3 (R:=λa w=>Q .normal a w) (.inl rfl) (λ_ _ hh=>hh) r (k+1) _ _ hl' hn.2 (Fv ok hg r Kw k2 λs2 h2 β2 w2 a2 k3 fU Uc sm=>next none s2 h2 β2 w2 a2 k3 fU (GS.step j1 j2 j3 (.refl B2) Uc) sm.put)
      .cases hyl
     .cases hyl
    .cases hyl
   .have st:=Bf ok ah (hg.mono ah.ok.hle) kk (wpOpsIn Fence.wide n P ops Q (List.range' (k+1) r.length)) EP λs' h' β' w' v k' le aK=>
     yx ok hg hy hfl r (k+1) i hl' hn.2 (GS.step hJ hG ha (.refl B) aK) k' λg s2 h2 β2 w2 a2 k2 fU gs2 sm=>next g s2 h2 β2 w2 a2 k2 (le.trans fU) gs2 sm.put
    split
    .rename_i hw;rw[if_pos hw]at st;exact H8 (Q:=Q) (.inl rfl) hn.1 st
    .rename_i hw;rw[if_neg hw]at st;exact⟨λf _=>trivial,st⟩
theorem Qs{o:Oper} (hf:iW o.op=true):Qr s o=none:=by
 unfold Qr;split
 .rename_i c ho;rw[ho]at hf;have:c.callee=.builtin .len:=TR hf;rw[this]
 .rfl
theorem GS.drawn{g:Option Nat}{s:St}{h:FH}{β:List RV}{w:World}{a:Act} (gs:GS E.n J h0 g s h β w a) (n:Nat) (hn:w.drawn<=n):GS E.n J h0 g s h β { w with drawn:=n } a:=by
 obtain⟨B,G,hJ,hG,ha,hnc,ah⟩:=gs;exact⟨B,G,hJ,hG,ha,hnc,ah.drawn n hn⟩
theorem Us(ok:eH P E) (hg:aG E.cx.gd h0) (hy:Yl P h0 l ss L J) (hfl:allL iw ss=true){ops:Array Oper}{i:Nat}{o:Oper}{c:Call}{t':Nat}{K:Act->World->Prop}{G:Gd}{GG:Nat->Prop}
 (hJ:J (some i) GG B.toWorld) (hG:∀b,GG b->b < B.heap.size) (ha:∀k,B.al k↔GG k\/B.heap.size<=k) (hnc:∀k o,B.nc k o->B.al k) (ah:Sat E.n B h0 s h β w a)
 (hd:jC E.n o.dst=true) (ho:o.op=.call c) (bH:c.callee=.value (.tmp t')){Gt:Gd} (hlk:fH s.env t'=some (Gt,.one (.c (.abs (.Rl l))))) (hsub:oq Gt G=true) (hgv:gv s.gl G=true) (hgb:qX s.gl.length G=true)
 {vs bs:List SV}{d:bW ss} (hvs:oJ E.cx s G (tl c.args)=some vs) (hnr:allL noRow vs=true) (hbs:CY s G vs=some bs) (hdd:uX ss bs=some d) (hLi:L[i]?=some d)
 (k1:∀h' β' w' a',GS E.n J h0 (some (i+1)) (s.put o.dst G (.one (.c (.v (.bool true))))) h' β' w' a'->h.le h'->(∃v,a'=a.put o.dst v)->K a' w')
 (k2:∀h' β' w' a',GS E.n J h0 none (s.put o.dst G (.one (.c (.v (.bool false))))) h' β' w' a'->h.le h'->(∃v,a'=a.put o.dst v)->K a' w'):
 o.uponIn Fence.wide n P a K EP ((execOp a.eval o).run P w):=by
 obtain⟨z,z1,z2,_⟩:=ah.env t' Gt _ hlk;have ez:z=.func (.yield l) #[] #[]:=(z2 (dX hsub hgv)).1;subst ez;have hgh:=hg.mono ah.ok.hle;have hav:=mg ah hgh hgv hvs;obtain⟨_,b2⟩:=wJ ah hgv hbs hav;have hJn:=GS.now hy.ab hJ ha ah;have dv:yF h ss d ((tl c.args).map a.eval):=FV hdd (b2 hnr);have dv0:yF h0 ss d ((tl c.args).map a.eval):=yF.flat hfl dv;obtain⟨fn,tmps,CB,body,hrun,BH⟩:=hy.yl i d _ (y5 B w) w hLi dv0 hJn;have hargs:(c.args.map a.eval)=((tl c.args).map a.eval).toArray:=by cases c.args;simp
 have exec:(execOp a.eval o).run P w=.ok (.round l fn tmps CB body) w:=by
  simp only[execOp,ho,resolve,bH,Act.eval];rw[show a.tmps.getD t' undef=.func (.yield l) #[] #[] by simp[z1]]
  simp only[Deferred.ofValue,invoke,Sem.run_bind,Sem.run_pure,Result.andThen_ok];simp only[aaU];rw[hargs];exact hrun
 rw[exec];simp only[Oper.uponIn];refine⟨λhh=>(by cases hh),RoundIn.mono (F:=Fence.wide) (n:=n - 1) ⟨BH.1,λc' cs' hroom=>BH.2 c' cs' (λd' hd'=>by cases hd')⟩ ?_⟩
 rintro e A' ⟨keep,hh⟩;rcases hh with⟨rfl,hJ'⟩ | ⟨rfl,hJ'⟩
 .obtain⟨B2,G2,j1,j2,j3,j4,aY⟩:=GS.turn hnc ah hJ' (hy.hw _ _ _ hJ') keep;exact k1 h β A' _ ⟨B2,G2,j1,j2,j3,j4,aY.put (cZ hd) hgb (λ_=>⟨⟨rfl,rfl,rfl⟩,rfl,rfl⟩) λhh=>by rw[hgv]at hh;cases hh⟩ (FH.le.refl h) ⟨_,rfl⟩
 .obtain⟨B2,G2,j1,j2,j3,j4,aY⟩:=GS.turn hnc ah hJ' (hy.hw _ _ _ hJ') keep;exact k2 h β A' _ ⟨B2,G2,j1,j2,j3,j4,aY.put (cZ hd) hgb (λ_=>⟨⟨rfl,rfl,rfl⟩,rfl,rfl⟩) λhh=>by rw[hgv]at hh;cases hh⟩ (FH.le.refl h) ⟨_,rfl⟩
theorem kR(ok:eH P E) (hg:aG E.cx.gd h0) (hy:Yl P h0 l ss L J) (hfl:allL iw ss=true){ops:Array Oper} (hs:Region.noSelect ops=true) (hn:yX ops.toList=true){m:Nat}{R:Act->World->Prop}{K:Option Nat->St->Prop}:∀(t:DT){n:Nat}{listed:Array Bool}{g:Option Nat}{s:St}{h:FH}{β:List RV}{w:World}{a:Act},
 GS E.n J h0 g s h β w a->iy E l ss L (tl ops) (yc ops t) g s K->(∀g' s' h' β' w' a',K g' s'->h.le h'->GS E.n J h0 g' s' h' β' w' a'->Same (gJ ops.toList) a a'->R a' w') ->
 (jl ops t true n listed=true->Fh P m .any ops (rM ops) R n listed a w) /\
 (jl ops t false n listed=true->∀i∈t.alts,nP P m ops i (λa' w'=>(rM ops i=true->jL w w')/\Fh P m .any ops (rM ops) R (n - 1) (listed.setIfInBounds i true) a' w') a w)
 | .done,n,listed,g,s,h,β,w,a,gs,k,next=>by
   refine⟨λhc=>?_,λhc=>by simp[jl]at hc⟩
   simp only[jl,GH,A8,uo]at hc;obtain⟨rfl,hr⟩:=hc;exact⟨by simpa using hr,next _ _ _ _ _ _ k (FH.le.refl h) gs (Same.refl _ _)⟩
 | .fl i t,n,listed,g,s,h,β,w,a,gs,k,next=>by
   refine⟨λhc=>?_,λhc=>by simp[jl]at hc⟩
   simp only[jl,GH,A8,Jc,ne_eq]at hc;obtain⟨⟨hn0,hb⟩,hc⟩:=hc;obtain⟨n,rfl⟩:∃m,n=m+1:=⟨n - 1,by omega⟩
   unfold zx at hb;cases hi:ops[i]? with
   | none=>rw[hi]at hb;simp at hb
   | some o=>
     rw[hi]at hb;simp only[A8]at hb;simp only[yc,hi]at k;have lH:o∈ops.toList:=kT (i:=i) (by simpa using hi)
     obtain⟨⟨⟨hf,hfree⟩,hr⟩,hl⟩:=hb;obtain⟨B,G,hJ,hG,ha,hnc,ah⟩:=gs;have k:ig E (tl ops) o s λs=>iy E l ss L (tl ops) (yc ops t) g s K:=by
      unfold iy at k;cases g with
      | none=>exact k
      | some i'=>simp only at k;rw[Qs hf]at k;exact k
     obtain⟨v,s',hy',k',aK⟩:=pU ok ah (hg.mono ah.ok.hle) hf k;have hq:rM ops i=true:=by
      simp only[rM,hi];exact nI hf
     refine J5 (bl:=J9 ops listed i) hi (Region.noSelect_spec hs) hq n listed a w (Region.free_spec hi hfree) (λe=>?_) (by simpa using hr) hy' (λ_=>jL.refl w)
      ((kR ok hg hy hfl hs hn t (GS.step hJ hG ha (.refl B) aK) k' λg2 s2 h2 β2 w2 a2 k2 fU aY sm=>next g2 s2 h2 β2 w2 a2 k2 fU aY (sm.put_mem lH)).1 hc)
     rw[e]at hl;exact yM (by simpa using hl)
 | .op i t,n,listed,g,s,h,β,w,a,gs,k,next=>by
   have key:n≠0->(ops[i]?).isSome=true->jl ops t true (n - 1) (listed.setIfInBounds i true)=true->nP P m ops i (λa' w'=>(rM ops i=true->jL w w')/\Fh P m .any ops (rM ops) R (n - 1) (listed.setIfInBounds i true) a' w') a w:=by
    intro hn0 hi hc;obtain⟨o,hi⟩:=A77.1 hi;have lH:o∈ops.toList:=kT (i:=i) (by simpa using hi)
    simp only[yc,hi]at k;obtain⟨B,G,hJ,hG,ha,hnc,ah⟩:=gs;have plain:(ig E (tl ops) o s λs=>iy E l ss L (tl ops) (yc ops t) g s K)->nP P m ops i (λa' w'=>(rM ops i=true->jL w w')/\Fh P m .any ops (rM ops) R (n - 1) (listed.setIfInBounds i true) a' w') a w:=by
     intro k;refine aal hn ?_;unfold tC;simp only[hi];refine oP ok ah (hg.mono ah.ok.hle) k _ EP λs' h' β' w' v k' le xW aK=>⟨λe=>xW (by simpa[rM,hi]using e),?_⟩
     exact(kR ok hg hy hfl hs hn t (GS.step hJ hG ha (.refl B) aK) k' λg2 s2 h2 β2 w2 a2 k2 fU aY sm=>next g2 s2 h2 β2 w2 a2 k2 (le.trans fU) aY (sm.put_mem lH)).1 hc
    unfold iy at k;cases g with
    | none=>exact plain k
    | some i'=>
      simp only at k;cases hyl:Qr s o with
      | none=>rw[hyl]at k;exact plain k
      | some l'=>
        rw[hyl]at k;simp only at k;split at k
        .cases k
        rename_i hd;split at k
        .rename_i c ho;split at k
         .rename_i t' bH;obtain⟨hll,k⟩:=k;subst hll;obtain⟨G1,s1,k,fQ,hw1,hgb⟩:=sV ah k;split at k
          .rename_i Gt l2 hlk;split at k
           .cases k
           rename_i hsub;obtain⟨rfl,k⟩:=k;split at k
           .cases k
           rename_i vs hvs;split at k
           .cases k
           rename_i hnr;split at k
           .cases k
           rename_i bs hbs;split at k
           .cases k
           rename_i d hdd;have ab9:rM ops i=false:=by
            simp only[rM,hi,ho,quietly,bH]
           have hao:jE o.op=tl c.args:=by simp only[jE,ho]
           rw[hao]at hvs;unfold nP;simp only[hi];cases hgv:gv s1.gl G1 with
           | true=>
             rw[if_pos (by rw[hw1,hgv])]
             obtain⟨hLi,k1,k2⟩:=(ak.1 k).1 hgv;refine Us ok hg hy hfl (ops:=ops) hJ hG ha hnc fQ hd ho bH hlk hsub hgv hgb hvs hnr hbs hdd hLi (λh' β' w' a' gs' le' ha'=>⟨λe=>(by rw[ab9]at e;cases e),?_⟩) (λh' β' w' a' gs' le' ha'=>⟨λe=>(by rw[ab9]at e;cases e),?_⟩)
             .obtain⟨v,rfl⟩:=ha';exact(kR ok hg hy hfl hs hn t gs' k1 λg2 s2 h2 β2 w2 a2 k2 fU aY sm=>next g2 s2 h2 β2 w2 a2 k2 (le'.trans fU) aY (sm.put_mem lH)).1 hc
             .obtain⟨v,rfl⟩:=ha';exact(kR ok hg hy hfl hs hn t gs' k2 λg2 s2 h2 β2 w2 a2 k2 fU aY sm=>next g2 s2 h2 β2 w2 a2 k2 (le'.trans fU) aY (sm.put_mem lH)).1 hc
           | false=>
             rw[if_neg (by rw[hw1,hgv];simp)]
             have k:=(ak.1 k).2 hgv;have aY:=fQ.put (d:=o.dst) (G:=G1) (e:=.one (.c (.v (.bool false)))) (z:=undef) (cZ hd) hgb (λhh=>by rw[hgv]at hh;cases hh) λ_=>rfl
             refine⟨λe=>(by rw[ab9]at e;cases e),?_⟩
             exact(kR ok hg hy hfl hs hn t (GS.step hJ hG ha (.refl B) aY) k λg2 s2 h2 β2 w2 a2 k2 fU aY sm=>next g2 s2 h2 β2 w2 a2 k2 fU aY (sm.put_mem lH)).1 hc
          .cases k
         .cases k
        .cases k
   refine⟨λhc=>?_,λhc j hj=>?_⟩
   .simp only[jl,OY,OZ,A8,Jc,ne_eq,uo]at hc;obtain⟨⟨⟨hr,hn0⟩,hi⟩,hc⟩:=hc;obtain⟨m,rfl⟩:∃m,n=m+1:=⟨n - 1,by omega⟩
    refine⟨λh0=>by rw[hr]at h0;simp at h0,λj hj=>?_⟩
    rw[hr]at hj;simp at hj;subst hj;exact key hn0 hi hc
   .simp only[jl,Jl,Jo,GH,A8,Jc,ne_eq]at hc;simp only[DT.alts,Wu]at hj;subst hj;exact key hc.1.1 hc.1.2 hc.2
 | .alt i t mm,n,listed,g,s,h,β,w,a,gs,k,next=>by
   have key:n≠0->(ops[i]?).isSome=true->jl ops t true (n - 1) (listed.setIfInBounds i true)=true->jl ops mm false n listed=true ->
    ∀j∈i :: mm.alts,nP P m ops j (λa' w'=>(rM ops j=true->jL w w')/\Fh P m .any ops (rM ops) R (n - 1) (listed.setIfInBounds j true) a' w') a w:=by
    intro hn0 hi hc hm j hj;obtain⟨o,hi⟩:=A77.1 hi;have lH:o∈ops.toList:=kT (i:=i) (by simpa using hi)
    simp only[yc,hi]at k;have k:(ig E (tl ops) o s λs=>iy E l ss L (tl ops) (yc ops t) g s K)/\iy E l ss L (tl ops) (yc ops mm) g s K:=by
     unfold iy at k;cases g with
     | none=>exact k
     | some i'=>
       simp only at k;cases hyl:Qr s o with
       | none=>rw[hyl]at k;exact k
       | some _=>rw[hyl]at k;cases k
    rcases jM.1 hj with rfl | hj
    .obtain⟨B,G,hJ,hG,ha,hnc,ah⟩:=gs;refine aal hn ?_;unfold tC;simp only[hi];refine oP ok ah (hg.mono ah.ok.hle) k.1 _ EP λs' h' β' w' v k' le xW aK=>⟨λe=>xW (by simpa[rM,hi]using e),?_⟩
     exact(kR ok hg hy hfl hs hn t (GS.step hJ hG ha (.refl B) aK) k' λg2 s2 h2 β2 w2 a2 k2 fU aY sm=>next g2 s2 h2 β2 w2 a2 k2 (le.trans fU) aY (sm.put_mem lH)).1 hc
    .exact(kR ok hg hy hfl hs hn mm gs k.2 next).2 hm j hj
   refine⟨λhc=>?_,λhc j hj=>?_⟩
   .simp only[jl,OY,OZ,A8,Jc,ne_eq,uo]at hc;obtain⟨⟨⟨⟨hr,hn0⟩,hi⟩,hc⟩,hm⟩:=hc;obtain⟨q,rfl⟩:∃m,n=m+1:=⟨n - 1,by omega⟩
    refine⟨λh0=>by rw[hr]at h0;simp at h0,λj hj=>?_⟩
    rw[hr]at hj;exact key hn0 hi hc hm j hj
   .simp only[jl,Jl,Jo,GH,A8,Jc,ne_eq]at hc;exact key hc.1.1.1 hc.1.1.2 hc.1.2 hc.2 j hj
theorem Ut(ok:eH P E) (hg:aG E.cx.gd h0) (hy:Yl P h0 l ss L J) (hfl:allL iw ss=true){ops:Array Oper}{id:Nat}{ol:OT} (ho:FU ops=some ol) (hn:yX ops.toList=true){i:Nat}{K:Option Nat->St->Prop}{Q:Exit->Act->World->Prop}
 (gs:GS E.n J h0 (some i) s h β w a) (k:iy E l ss L (tl ops) ol (some i) s K)
 (next:∀g' s' h' β' w' a',K g' s'->h.le h'->GS E.n J h0 g' s' h' β' w' a'->Same (gJ (tl ops)) a a'->Q .normal a' w'):(Code.region id ops true).wpIn Fence.wide n P Q a w:=by
 unfold FU at ho;have et:tl ops=ops.toList:=by cases ops;rfl
 simp only at ho;split at ho
 .rename_i hp;cases ho;simp only[A8,uo]at hp;refine wpIn_region_any ok.mixed (Np (sf:=rM ops) (R:=λa w=>Q .normal a w) hn (λ_ _ hh=>hh) _ _ _ _ ?_)
  exact(kR ok hg hy hfl hp.1 hn (R:=λa w=>Q .normal a w) (Dc ops ops.size (Array.replicate ops.size false)) (gs.drawn (w.drawn+1) (LQ _)) k λg' s' h' β' w' a' k' le gs' sm=>next _ _ _ _ _ _ k' le gs' (by rw[et];exact sm)).1 hp.2
 .cases ho
theorem pY(ok:eH P E) (hg:aG E.cx.gd h0) (hr:E.rd=false) (hy:Yl P h0 l ss L J) (hfl:allL iw ss=true){n:Nat}:∀(c:Code){i:Nat}{s:St}{h:FH}{β:List RV}{w:World}{a:Act}{K:Exit->Option Nat->St->Prop}{Q:Exit->Act->World->Prop},GS E.n J h0 (some i) s h β w a ->
 yw E l ss L c i s K->(∀e g s' h' β' w' a',K e g s'->h.le h'->GS E.n J h0 g s' h' β' w' a'->Same (writes c) a a'->Q e a' w')->c.wpIn Fence.wide n P Q a w
 | .skip,i,s,h,β,w,a,K,Q,gs,k,next=>wpIn_skip (next _ _ _ _ _ _ _ k (FH.le.refl h) gs (Same.refl _ _))
 | .exit j,i,s,h,β,w,a,K,Q,gs,k,next=>wpIn_exit (next _ _ _ _ _ _ _ k (FH.le.refl h) gs (Same.refl _ _))
 | .ret,i,s,h,β,w,a,K,Q,gs,k,next=>wpIn_ret (next _ _ _ _ _ _ _ k (FH.le.refl h) gs (Same.refl _ _))
 | .region id ops false,i,s,h,β,w,a,K,Q,gs,k,next=>by
   simp only[yw]at k;split at k
   .cases k
   rename_i hnd;have et:tl ops=ops.toList:=by cases ops;rfl
   refine wpIn_region ?_;have:=yx (n:=n) (Q:=Q) ok hg hy hfl (ops:=ops) (tl ops) 0 i (λj=>by rw[et];simp) hnd gs k λg s' h' β' w' a' k' le gs' sm=>next .normal g _ _ _ _ _ k' le (by
    obtain⟨B2,G2,j1,j2,j3,j4,aY⟩:=gs';exact⟨B2,G2,j1,j2,j3,j4,aY.clean⟩) sm
   rw[List.range_eq_range'];rw[et]at this;simpa using this
 | .region id ops true,i,s,h,β,w,a,K,Q,gs,k,next=>by
   simp only[yw]at k;split at k
   .cases k
   rename_i hnd;have et:tl ops=ops.toList:=by cases ops;rfl
   cases hya:FT s (tl ops) with
   | true=>
     rw[hya]at k;simp only at k;cases hd:FU ops with
     | none=>rw[hd]at k;cases k
     | some t=>
       rw[hd]at k;exact Ut ok hg hy hfl hd (by rw[et]at hnd;exact hnd) gs k λg s' h' β' w' a' k' le gs' sm=>next .normal g _ _ _ _ _ k' le (by
        obtain⟨B2,G2,j1,j2,j3,j4,aY⟩:=gs';exact⟨B2,G2,j1,j2,j3,j4,aY.clean⟩) sm
   | false=>
   rw[hya]at k;simp only at k;obtain⟨B,G,hJ,hG,ha,hnc,ah⟩:=gs;cases hd:tN ops with
   | none=>rw[hd]at k;cases k
   | some t=>
     rw[hd]at k;exact Ns ok hg hd ah k (.inl rfl) (by rw[et]at hnd;exact hnd) λs' h' β' w' a' k' le aK sm=>next .normal _ _ _ _ _ _ k' le (GS.step hJ hG ha (.refl B) aK.clean) sm
 | .seq x y,i,s,h,β,w,a,K,Q,gs,k,next=>by
   refine wpIn_seq (pY ok hg hr hy hfl x gs k λe g s' h' β' w' a' k' le gs' sm=>?_)
   cases e with
   | normal=>
     cases g with
     | some j=>exact pY ok hg hr hy hfl y gs' k' λe g s2 h2 β2 w2 a2 k2 fU gs2 qW=>next e g s2 h2 β2 w2 a2 k2 (le.trans fU) gs2 (sm.left.trans qW.right)
     | none=>
       obtain⟨B,G,hJ,hG,ha,hnc,ah⟩:=gs';exact gW y ok hg (.inl rfl) (λ_=>rfl) ah k' λe s2 h2 β2 w2 a2 B2 lb k2 fU aY qW=>next e none s2 h2 β2 w2 a2 k2 (le.trans fU) (GS.step hJ hG ha lb.1 aY) (sm.left.trans qW.right)
   | exit j=>exact next _ _ _ _ _ _ _ k' le gs' sm.left
   | goto l=>exact next _ _ _ _ _ _ _ k' le gs' sm.left
   | ret=>exact next _ _ _ _ _ _ _ k' le gs' sm.left
   | panic ch=>exact next _ _ _ _ _ _ _ k' le gs' sm.left
   | outgrown=>exact next _ _ _ _ _ _ _ k' le gs' sm.left
 | .cond c x y,i,s,h,β,w,a,K,Q,gs,k,next=>by
   simp only[yw]at k;split at k
   .rename_i b hb;obtain⟨B,G,hJ,hG,ha,hnc,ah⟩:=gs;have hc:a.eval c=.bool b:=(aH ah (hg.mono ah.ok.hle) (show gv s.gl []=true from rfl) hb).1.1
    refine wpIn_cond_split hc (λht=>pY ok hg hr hy hfl x ⟨B,G,hJ,hG,ha,hnc,ah⟩ ((ak.1 k).1 ht) λe g s' h' β' w' a' k' le gs' sm=>next _ _ _ _ _ _ _ k' le gs' sm.left)
     (λhf=>pY ok hg hr hy hfl y ⟨B,G,hJ,hG,ha,hnc,ah⟩ ((ak.1 k).2 hf) λe g s' h' β' w' a' k' le gs' sm=>next _ _ _ _ _ _ _ k' le gs' sm.right)
   .cases k
 | .block id c,i,s,h,β,w,a,K,Q,gs,k,next=>by
   refine wpIn_block (pY ok hg hr hy hfl c gs k λe g s' h' β' w' a' k' le gs' sm=>?_)
   cases e with
   | normal=>exact next _ _ _ _ _ _ _ k' le gs' sm
   | exit j=>
     simp only at k';simp only[Exit.inBlock];split at k'
     .rename_i hi;have:j=id:=gI hi;rw[if_pos this];exact next _ _ _ _ _ _ _ k' le gs' sm
     .rename_i hi;have:¬j=id:=λhh=>by rw[hh]at hi;simp at hi
      rw[if_neg this];exact next _ _ _ _ _ _ _ k' le gs' sm
   | goto l=>exact next _ _ _ _ _ _ _ k' le gs' sm
   | ret=>exact next _ _ _ _ _ _ _ k' le gs' sm
   | panic ch=>exact next _ _ _ _ _ _ _ k' le gs' sm
   | outgrown=>exact next _ _ _ _ _ _ _ k' le gs' sm
 | .loop c,i,s,h,β,w,a,K,Q,gs,k,next=>by
   simp only[yw]at k;split at k
   .rename_i la gh _;obtain⟨⟨x,i1,i2,i3,i4⟩,k2⟩:=k;have good:∀x,la.inv x->uG (aJ s.T) (jq (la.res x) s.T)=true/\DN (aJ s.T) (dO la.drop (writes c)) (la.slots x)=true /\
     yw E l ss L c (gh x) (nS (dO la.drop (writes c)) s (la.slots x) (la.res x)) (λe g s'=>match e with
      | .normal=>match g with
        | some j=>match Bq s' (keepR (aJ s.T) (dO la.drop (writes c)) [] s.env) with
          | true=>∃x',la.inv x'/\gh x'=j/\Df s' (la.slots x')/\og (aJ s.T) s'.T=jq (la.res x') s.T/\la.meas x' < la.meas x
          | false=>False
        | none=>False
      | e=>K e g s'):=by
     intro x hx;have:=k2 x hx;split at this
     .cases this
     .rename_i hc;rw[ay,A8]at hc;exact⟨hc.1,hc.2,this⟩
    obtain⟨B,G,hJ,hG,ha,hnc,ah⟩:=gs;have D0:∀h' a',h.le h'->Same (writes c) a a'->∀t e,fH (nJ (dO la.drop (writes c)) [] s.env) t=some ([],e)->∃z,a'.tmps[t]?=some z/\iO h' [] e z:=by
     intro h' a' le sm t e ht;obtain⟨_,hw,hl,_,hf⟩:=jJ ht;obtain⟨z,q1,q2,_⟩:=ah.env t [] e hl;exact⟨z,by rw[sm t (by rw[jT,pz]at hw;exact hw.2)];exact q1,(iO.jV [] hf (q2 rfl)).mono le (Ext.refl _)⟩
    refine wpIn_loop_ghost (λm a' w'=>∃x h' β',la.meas x=m/\la.inv x/\h.le h'/\GS E.n J h0 (some (gh x)) (nS (dO la.drop (writes c)) s (la.slots x) (la.res x)) h' β' w' a'/\Same (writes c) a a') (la.meas x) ?_ ?_
    .obtain⟨g1,g2,_⟩:=good x i1;refine⟨x,h,_,rfl,i1,FH.le.refl h,⟨B,G,by rw[i2];exact hJ,hG,ha,hnc,wX ah ?_ g1 g2 i3 (λp hp=>(oW p hp).2) (D0 h a (FH.le.refl h) (Same.refl _ _))⟩,Same.refl _ _⟩
     rw[<-i4,jc,aV,List.take_length]
    .rintro m a' w' ⟨x,h',β',rfl,hx,le,gs',sm⟩;obtain⟨g1,g2,kk⟩:=good x hx;refine pY ok hg hr hy hfl c gs' kk λe g s2 h2 β2 w2 a2 k2 fU gs2 qW=>?_
     cases e with
     | normal=>
       simp only at k2;cases g with
       | none=>exact k2.elim
       | some j=>
         simp only at k2;split at k2
         .rename_i hR;obtain⟨x',j1,jg,j2,j3,j4⟩:=k2;obtain⟨g1',g2',_⟩:=good x' j1;obtain⟨B2,G2,q1,q2,q3,q4,aY⟩:=gs2;refine⟨la.meas x',j4,x',h2,_,rfl,j1,le.trans fU,⟨B2,G2,by rw[jg];exact q1,q2,q3,q4,wX aY j3 g1' g2' j2 (oV hR) (D0 h2 a2 (le.trans fU) (sm.trans qW))⟩,sm.trans qW⟩
         .cases k2
     | exit j=>exact next _ _ _ _ _ _ _ k2 (le.trans fU) gs2 (sm.trans qW)
     | goto l=>exact next _ _ _ _ _ _ _ k2 (le.trans fU) gs2 (sm.trans qW)
     | ret=>exact next _ _ _ _ _ _ _ k2 (le.trans fU) gs2 (sm.trans qW)
     | panic ch=>exact next _ _ _ _ _ _ _ k2 (le.trans fU) gs2 (sm.trans qW)
     | outgrown=>exact next _ _ _ _ _ _ _ k2 (le.trans fU) gs2 (sm.trans qW)
   .cases k
 | .rangeFunc _ _ _ _,i,s,h,β,w,a,K,Q,gs,k,next=>k.elim
 | .scope _,i,s,h,β,w,a,K,Q,gs,k,next=>k.elim
 | .label _,i,s,h,β,w,a,K,Q,gs,k,next=>k.elim
 | .goto _,i,s,h,β,w,a,K,Q,gs,k,next=>k.elim
 | .refuse _,i,s,h,β,w,a,K,Q,gs,k,next=>k.elim
end
abbrev Qu:(ss:List Sh)->bW ss->List SV
 | [],_=>[]
 | s :: l,d=>.c (.fp s d.1) :: Qu l d.2
theorem NP{h:FH}:∀{ss:List Sh}{d:bW ss}{ys:List Value},capD h ss d ys->aI (bV h []) (Qu ss d) ys
 | [],_,[],_=>trivial
 | [],_,_ :: _,x=>x.elim
 | _ :: _,_,[],x=>x.elim
 | _ :: _,_,_ :: _,⟨⟨b,cs,e,r,at_⟩,x⟩=>⟨⟨⟨b,0,cs,e,r,at_⟩,by subst e;exact gq _⟩,NP x⟩
abbrev Uu{ss:List Sh} (L:List (bW ss)) (e:Exit) (g:Option Nat):Prop:=match e with
 | .normal=>match g with
   | none=>True
   | some i=>i=aJ L
 | .ret=>match g with
   | none=>True
   | some i=>i=aJ L
 | _=>False
theorem DZ{P:Program}{fn:Func} (hrs:tl fn.results=[]){tmps:Array Value}{R:Ending->World->Prop}{J:World->Prop}{Gf:Nat->Prop} (ab:∀A A',J A->Gs Gf A A'->(∀b,Gf b->b < A'.heap.size)->J A') (hR:∀w v,J w->R (.returned v) w):
 ∀(X:List Nat){w:World},X.Nodup->(∀D∈X,Gf D/\w.heap[D]?=some (.deferred (some [])))->(∀b,Gf b->b < w.heap.size)->J w ->
 LeavesInM Fence.wide 0 P fn tmps R (X.map (λD=>({ target:=.collected D,args:=#[] }:Deferred))) .returning w
 | [],w,_,_,_,hJ=>⟨_,yO (a:={ tmps:=tmps,defers:=[] }) (ys:=[]) (by rw[hrs];rfl),hR _ _ hJ⟩
 | D :: X,w,hn,hx,gY,hJ=>by
   obtain⟨h1,h2⟩:=hx D (by simp)
   have hn:=V3.1 hn;refine⟨λhh=>(by cases hh),.inl ⟨D,w.putObj D (.deferred none),rfl,run_takeDeferred h2,?_⟩⟩
   have hlt':∀b,Gf b->b < (w.putObj D (.deferred none)).heap.size:=λb hb=>by simpa using gY b hb
   refine DZ hrs ab hR X hn.2 (λD' hD'=>?_) hlt' (ab _ _ hJ ⟨rfl,rfl,rfl,by simp,mZ _,λk _ hk=>World.putObj_heap_other (by rintro rfl;exact hk h1)⟩ hlt')
   obtain⟨g1,g2⟩:=hx D' (by simp[hD'])
   refine⟨g1,(World.putObj_heap_other ?_).trans g2⟩;rintro rfl;exact hn.1 hD'
theorem Uw(ok:eH P E) (hr:E.rd=false){g:FuncId}{fn:Func} (hf:P.funcs[g]?=some fn) (hb:fn.body=some body) (hname:(fn.name == "runtime.NumGoroutine")=false) (hn:fn.ntmps=E.n) (hrs:tl fn.results=[])
 {ss:List Sh}{L:List (bW ss)} (hfl:allL iw ss=true){cs:List Sh}{ds:bW cs} (hle:Nat.ble (aJ cs+1) E.n=true)
 (k:∃ann,∀l,yw { E with ann:=ann } l ss L body 0 { env:=yZ 0 (.c (.abs (.Rl l)) :: Qu cs ds),T:=[],gl:=[],gs:=[] } λe g _=>Uu L e g)
 (hg:aG E.cx.gd h){lb:List Value} (cap:capD h cs ds lb):Gives P h ss L (.func (.func g) #[] lb.toArray):=by
 obtain⟨ann,k⟩:=k;refine⟨g,lb.toArray,rfl,⟨fn,hf,by rw[hb];rfl,hname⟩,λl J W h1 h2 h3 h4=>?_⟩
 have okE:eH P { E with ann:=ann }:=⟨ok.prog,ok.hc,ok.Xv,ok.mixed,ok.ti,ok.ct,ok.ip,ok.sq,ok.sf⟩
 have hy:Yl P h l ss L J:=⟨h1,h2,h3⟩;have hcl:lb.length=cs.length:=by
  have:∀{cs:List Sh}{ds:bW cs}{lb:List Value},capD h cs ds lb->lb.length=cs.length:=by
   intro cs
   induction cs with
   | nil=>intro ds lb x;cases lb with | nil=>rfl | cons _ _=>exact x.elim
   | cons p l ih=>intro ds lb x;cases lb with | nil=>exact x.elim | cons v m=>simp[ih x.2]
  exact this cap
 have hln:lb.length+1<=E.n:=by have:=lK hle;rw[aV]at this;omega
 have eargs:(#[.func (.yield l) #[] #[]]++lb.toArray:Array Value)=(.func (.yield l) #[] #[] :: lb).toArray:=by simp
 rw[eargs];refine callsIn_of_wp_marks (F:=Fence.wide) (n:=0) hf hb trivial ?_;have hav:aI (bV h []) (.c (.abs (.Rl l)) :: Qu cs ds) (.func (.yield l) #[] #[] :: lb):=⟨⟨rfl,rfl,rfl⟩,NP cap⟩;have look:∀{xs:List SV}{ys:List Value}{n t:Nat}{G:Gd}{e:aW},aI (bV h []) xs ys->fH (yZ n xs) t=some (G,e)->∃y,G=[]/\n<=t/\ys[t - n]?=some y/\iO h [] e y:=by
  intro xs
  induction xs with
  | nil=>intro ys n t G e _ hh;simp[yZ,fH]at hh
  | cons x xs ih=>
    intro ys n t G e a hh;cases ys with
    | nil=>exact a.elim
    | cons y ys=>
      simp only[yZ]at hh;rw[aX]at hh;split at hh
      .rename_i hk;subst hk;cases hh;exact⟨y,rfl,mZ _,by simp,a.1⟩
      .obtain⟨u,h1,h2,h3,h4⟩:=ih a.2 hh;refine⟨u,h1,by omega,?_,h4⟩
       rw[show t - n=(t - (n+1))+1 by omega]
       simpa using h3
 have ah:Sat E.n (Base.of W) h { env:=yZ 0 (.c (.abs (.Rl l)) :: Qu cs ds),T:=[],gl:=[],gs:=[] } h [] W { tmps:=(.func (.yield l) #[] #[] :: lb).toArray++Array.replicate (fn.ntmps - (.func (.yield l) #[] #[] :: lb:List Value).toArray.size) undef,defers:=[] }:=by
  refine⟨⟨Bw.refl (Base.of W),mZ _,rfl,λi r v e _=>by simp[eff]at e,λi r v b e _ _ _=>by simp[eff]at e,λi j r r' u v b e _ _ _ _ _ _ _=>by simp[eff]at e,FH.le.refl h,h1 _ _ _ h4,λb o v hh=>.inl hh,λk o hh=>hh.elim⟩,?_,?_,Jq.nil rfl,?_,?_,?_⟩
  .intro t G e ht;obtain⟨y,rfl,h2,h3,h4⟩:=look hav ht;simp only[Nat.sub_zero]at h3;refine⟨y,?_,λ_=>h4,λhh=>by cases hh⟩
   rw[Array.getElem?_append_left (by have:=(eU.1 h3).1;simpa using this)]
   simpa using h3
  .intro d i hi;cases hi
  .simp only[VY,CO,Array.size_replicate,zI];omega
  .intro t G e ht;obtain⟨y,rfl,_⟩:=look hav ht;rfl
  .intro p hp;cases hp
 have gs0:GS E.n J h (some 0) { env:=yZ 0 (.c (.abs (.Rl l)) :: Qu cs ds),T:=[],gl:=[],gs:=[] } h [] W { tmps:=(.func (.yield l) #[] #[] :: lb).toArray++Array.replicate (fn.ntmps - (.func (.yield l) #[] #[] :: lb:List Value).toArray.size) undef,defers:=[] }:=
  ⟨Base.of W,λ_=>False,h4,λb hb=>hb.elim,λk=>by simp,λk o hh=>hh.elim,ah⟩
 refine pY okE hg hr hy hfl body gs0 (k l) λe g' s' h' β' w' a' ke le gs' sm=>?_
 obtain⟨B,G,hJ,hG,ha,hnc,aK⟩:=gs';obtain⟨X,x1,x2,x3⟩:=aK.defers;have hJn:=GS.now h2 hJ ha aK;have fin:Uu L .ret g'->LeavesInM Fence.wide 0 P fn a'.tmps (λe W'=>(∃v,e=.returned v)/\∃G,J (some L.length) G W'\/J none G W') a'.defers .returning w':=by
  intro hh;rw[x1];refine DZ hrs (J:=λw=>J g' (y5 B w') w) (Gf:=y5 B w') (λA A' hA hgs gY=>h2 _ _ _ _ _ hA hgs λb hb=>⟨gY b hb,.inl hb⟩) (λw v hA=>⟨⟨v,rfl⟩,y5 B w',?_⟩) X x2 (λD hD=>⟨⟨(x3 D hD).1,(zh.1 (aK.ok.kn D _ (x3 D hD).2)).1⟩,aK.ok.kn D _ (x3 D hD).2⟩) (λb hb=>hb.2) hJn
  cases g' with
  | none=>exact .inr hA
  | some i=>
    have hh:i=aJ L:=hh;rw[aV]at hh;subst hh;exact .inl hA
 cases e with
 | normal=>exact fin ke
 | ret=>exact fin ke
 | exit i=>exact ke.elim
 | goto l=>exact ke.elim
 | panic ch=>exact ke.elim
 | outgrown=>exact ke.elim
theorem yF.cn{h:FH}:∀{ss:List Sh}{d:bW ss}{ys:List Value},yF h ss d ys->aI (bV h []) (dV ss d) ys
 | [],_,[],_=>trivial
 | [],_,_ :: _,x=>x.elim
 | _ :: _,_,[],x=>x.elim
 | s :: l,d,y :: ys,⟨⟨cs,e,r⟩,b⟩=>⟨by rw[e];exact iH s r,yF.cn b⟩
end Go.lM
namespace Go.lM
open Go
theorem aA{n:Int}:Je .i64 n↔-9223372036854775808<=n/\n<=9223372036854775807:=by
 unfold Je;simp only[IntKind.wrap,IntKind.bits,IntKind.signed];constructor<;>intro h<;>simp at *<;>omega
theorem lJ{n b:Nat}:wE n b↔n * b<=140737488355328:=Iff.rfl
theorem acd(d:ByteArray) (j:Nat):d[j]?=d.data.toList[j]?:=by
 by_cases h:j < d.size
 .rw[getElem?_pos d j h,Array.getElem?_toList,getElem?_pos d.data j h];rfl
 .rw[getElem?_neg d j h,Array.getElem?_toList,getElem?_neg d.data j h]
theorem wZ{h:FH}{k:IntKind}:∀{l:List Int}{cs:List Value},eX (Rd h (.int k)) cs l↔cs=l.map (Value.int k)
 | [],cs=>by simp[eX]
 | x :: l,cs=>by
   simp only[eX,Rd,Es];constructor
   .rintro⟨c,r,rfl,rfl,hr⟩;rw[(wZ (h:=h)).1 hr];rfl
   .rintro rfl;exact⟨[.int k x],l.map (Value.int k),rfl,rfl,(wZ (h:=h)).2 rfl⟩
def iY(l:List Int):List Int:=l.mergeSort λx y=>decide (x<=y)
abbrev BI:IP:={ sh:=.int .i64,ps:=[],pre:=λl _=>l.length < 4611686018427387904,res:=λl _=>iY l,back:=false }
abbrev yA:IP:={ sh:=.int .i64,ps:=[],pre:=λl _=>l.length < 4611686018427387904,res:=λl _=>Lib.compact l,back:=true }
theorem II(l:List Int):(Lib.compact l).length<=l.length:=by
 unfold Lib.compact Lib.compactUpTo;rw[WE];refine o9 (List.length_filter_le _ _) (by simp)
theorem D5{w:World}{g n:Nat}{os:Array Obj} (d:Array Int):Gb w (Sort.grow (Sort.putRow (Value.int .i64) (Sort.ahead w n) g 0 d) os) (some g):=
 ⟨grownBy_sortedI d,by simp[Sort.grow,Sort.putRow,Sort.mapBlock,Sort.ahead]⟩
theorem NQ{h:FH}{w:World}{t:TypeId}{l:List Int}{g cap:Nat}{cur:Array Value} (hb:w.heap[g]?=some (.cells cur t (0,0))) (hc:l.length<=cap) (hcap:1<=cap/\cap<=maxLen) (hsz:cur.size=cap * 1){ts:List Int} (hts:ts.length=l.length){k:Nat} (hk:k<=ts.length){n:Nat}{os:Array Obj}:
 Holds h [] (Sort.grow (Sort.putRow (Value.int .i64) (Sort.ahead w n) g 0 ts.toArray) os) (.row t (.int .i64) (ts.take k)) (.row (.slice (some ⟨g,0,none⟩) (ts.take k).length cap)):=by
 refine .inr (.inr ⟨g,cap,_,rfl,heap_sortedI _ hb,by rw[mY];omega,hcap,by simp[Sort.putCells,hsz,Sh.size],wZ.2 ?_⟩)
 have e:=take_putCellsI cur ts (by omega)
 rw[Rf,mY,show min k ts.length=k by omega]
 have:(Sort.putCells (Value.int .i64) 0 ts.toArray cur).toList.take k=((Sort.putCells (Value.int .i64) 0 ts.toArray cur).toList.take ts.length).take k:=by rw[List.take_take,show min k ts.length=k by omega]
 rw[this,e,List.map_take]
theorem Qv{P:Program}{gd:Nat->Option (Sigma Sh.den)}{f:FuncId}{cz:CT} (hz:EN P gd f cz) (ez:cz={ ps:=[.sl (.int .i64)],pre:=λd=>d.1=[],res:=λd=>([],.iQ []) })
 (hs:∀(blk cap:Nat) (zs:List Int) (w:World),Sort.Holds (Value.int .i64) w blk 0 zs.toArray->blk < w.heap.size->zs.length < 4611686018427387904 ->
  Calls P f #[.slice (some ⟨blk,0,none⟩) zs.length cap] w λe w'=>e=.returned (.tuple #[])/\∃n os,w'=Sort.grow (Sort.putRow (Value.int .i64) (Sort.ahead w n) blk 0 (iY zs).toArray) os):
 PL P gd f BI:=by
 intro t l d v vs h w hw hg hold hfr hvs aS;subst ez;cases vs with
 | cons _ _=>exact hvs.elim
 | nil=>
   have zero:∀v:Value,nY h (Rd h (.int .i64)) v []->(Holds h [] w (.row t (.int .i64) []) (.row v))->Calls P f #[v] w (λen w'=>∃v' y,en=.returned y/\Gb w w' (au v)/\(∀b,au v'=some b->au v=some b\/(w.heap.size<=b/\b < w'.heap.size)) /\
    Holds h [] w' (.row t (.int .i64) (iY [])) (.row v')/\(BI.back=true->y=v')/\(BI.back=false->y=.tuple #[]/\v'=v)):=by
    intro v hv hold;refine(hz ([],()) [v] h w hw hg ⟨⟨hv,hv.bZ⟩,trivial⟩ rfl).mono ?_;rintro en w' ⟨h',β',y,rfl,ok,he⟩;obtain⟨ys,rfl,ha⟩:=he;cases ys with
    | cons _ _=>exact ha.elim
    | nil=>
      refine⟨v,_,rfl,?_,λb hb=>.inl hb,?_,λhh=>(by cases hh),λ_=>⟨rfl,rfl⟩⟩
      .exact⟨⟨ok.below.os,ok.below.tape,ok.below.output,ok.below.size,λk hk _=>(Bw.bel ok.below).block k hk⟩,ok.dr⟩
      .rw[show iY []=[] by simp[iY]]
       rcases hold with e | e | ⟨g,cap,cur,rfl,e1,e2,e3,e4,r⟩
       .exact .inl e
       .exact .inr (.inl e)
       .refine .inr (.inr ⟨g,cap,cur,rfl,?_,e2,e3,e4,r⟩);rw[(Bw.bel ok.below).block g (zh.1 e1).1];exact e1
   rcases hold with⟨rfl,rfl⟩ | ⟨ra,rfl,rfl⟩ | ⟨g,cap,cur,rfl,e1,e2,e3,e4,r⟩
   .exact zero _ (.inl ⟨rfl,rfl⟩) (.inl ⟨rfl,rfl⟩)
   .exact zero _ (.inr (.inl ⟨ra,0,rfl,rfl,zJ _⟩)) (.inr (.inl ⟨ra,rfl,rfl⟩))
   .have hr:=wZ.1 r;rw[Rf]at hr;have hgs:g < w.heap.size:=(zh.1 e1).1;refine(hs g cap l w (holds_of_blockI e1 hr) hgs aS).mono ?_;rintro en w' ⟨rfl,n,os,rfl⟩;have hl:(iY l).length=l.length:=by simp[iY]
    refine⟨.slice (some ⟨g,0,none⟩) l.length cap,_,rfl,by rw[aO e3.1];exact D5 _,λb hb=>.inl hb,?_,λhh=>(by cases hh),λ_=>⟨rfl,rfl⟩⟩
    have:=NQ (h:=h) (n:=n) (os:=os) e1 e2 e3 e4 hl (mZ _);rw[List.take_length,hl]at this;exact this
theorem FW{P:Program}{gd:Nat->Option (Sigma Sh.den)}{f:FuncId}
 (hz:∀(a:Option Addr) (cap:Nat) w,Calls P f #[.slice a 0 cap] w λe w'=>e=.returned (.slice a 0 cap)/\w'=w)
 (hs:∀(blk cap:Nat) (zs:List Int) (w:World),Sort.Holds (Value.int .i64) w blk 0 zs.toArray->zs.length<=9223372036854775807->zs.length<=cap ->
  Calls P f #[.slice (some ⟨blk,0,none⟩) zs.length cap] w λe w'=>e=.returned (.slice (some ⟨blk,0,none⟩) (Lib.compact zs).length cap) /\
   ∃q,w'=Sort.putRow (Value.int .i64) (Sort.ahead w q) blk 0 (Lib.compact zs++List.replicate (zs.length - (Lib.compact zs).length) 0).toArray):
 PL P gd f yA:=by
 intro t l d v vs h w hw hg hold hfr hvs aS;cases vs with
 | cons _ _=>exact hvs.elim
 | nil=>
   rcases hold with⟨rfl,rfl⟩ | ⟨ra,rfl,rfl⟩ | ⟨g,cap,cur,rfl,e1,e2,e3,e4,r⟩
   .refine(hz none 0 w).mono ?_;rintro en w' ⟨rfl,rfl⟩;exact⟨.slice none 0 0,_,rfl,bK _ _,λb hb=>.inl hb,.inl ⟨rfl,rfl⟩,λ_=>rfl,λhh=>(by cases hh)⟩
   .refine(hz (some ra) 0 w).mono ?_;rintro en w' ⟨rfl,rfl⟩;exact⟨.slice (some ra) 0 0,_,rfl,bK _ _,λb hb=>.inl hb,.inr (.inl ⟨ra,rfl,rfl⟩),λ_=>rfl,λhh=>(by cases hh)⟩
   .have hr:=wZ.1 r;rw[Rf]at hr;have aS:l.length < 4611686018427387904:=aS;refine(hs g cap l w (holds_of_blockI e1 hr) (by omega) e2).mono ?_
    rintro en w' ⟨rfl,q,rfl⟩;have hc:=II l;have hl:(Lib.compact l++List.replicate (l.length - (Lib.compact l).length) 0).length=l.length:=by simp;omega
    have:=NQ (h:=h) (n:=q) (os:=#[]) e1 e2 e3 e4 hl (k:=(Lib.compact l).length) (by omega)
    rw[QW,Sort.grow_empty]at this;refine⟨.slice (some ⟨g,0,none⟩) (Lib.compact l).length cap,_,rfl,?_,λb hb=>.inl (by rw[aO e3.1]at hb ⊢;exact hb),this,λ_=>rfl,λhh=>by cases hh⟩
    have:=D5 (w:=w) (g:=g) (n:=q) (os:=#[]) (Lib.compact l++List.replicate (l.length - (Lib.compact l).length) 0).toArray;rw[aO e3.1]
    rwa [Sort.grow_empty]at this
def KD{α β:Type} (f:α->Option β):List α->Option (List β)
 | []=>some []
 | x :: l=>match f x with
   | some y=>match KD f l with
     | some m=>some (y :: m)
     | none=>none
   | none=>none
def xg{H:Type}:(s:Sh)->DataW H->Option s.den
 | .int k,d=>match d with
   | .lit (.int k' n)=>if k=k' then some n else none
   | _=>none
 | .bool,d=>match d with
   | .lit (.bool b)=>some b
   | _=>none
 | .str,d=>match d with
   | .lit (.string l)=>some ⟨l.toArray⟩
   | _=>none
 | .any,_=>none
 | .sl s,d=>match d with
   | .nil=>some []
   | .slice es _=>KD (xg s) es
   | _=>none
 | .pair a b,d=>match d with
   | .agg (p :: ps)=>match xg a p with
     | some x=>match xg b (.agg ps) with
       | some y=>some (x,y)
       | none=>none
     | none=>none
   | _=>none
 | .unit,d=>match d with
   | .agg []=>some ()
   | _=>none
 | .arr n s,d=>match d with
   | .agg ps=>if ps.length=n then KD (xg s) ps else none
   | _=>none
 | .mp _ _,_=>none
def V8:(s:Sh)->s.den->Prop
 | .int k,n=>(Lit.int k n).wf=true
 | .bool,_=>True
 | .str,b=>b.size<=maxLen
 | .any,_=>True
 | .sl s,l=>l.length<=maxLen/\∀x∈l,V8 s x
 | .pair a b,p=>V8 a p.1/\V8 b p.2
 | .unit,_=>True
 | .arr n s,l=>l.length=n/\∀x∈l,V8 s x
 | .mp _ _,_=>True
def pq(P:Program):Sh->(TypeId->Bool)×(List Field->Nat->Bool)
 | .int k=>(λt=>match P.underlying t with | some (.int k')=>decide (k=k') | _=>false,λ_ _=>false)
 | .bool=>(λt=>match P.underlying t with | some .bool=>true | _=>false,λ_ _=>false)
 | .str=>(λt=>match P.underlying t with | some .string=>true | _=>false,λ_ _=>false)
 | .any=>(λ_=>false,λ_ _=>false)
 | .mp _ _=>(λ_=>false,λ_ _=>false)
 | .sl s=>(λt=>match P.underlying t with | some (.slice e)=>(pq P s).1 e && P.cellsOf e == s.size && decide (1<=s.size) | _=>false,λ_ _=>false)
 | .arr n s=>(λt=>match P.underlying t with | some (.array m e)=>m == n && (pq P s).1 e && P.cellsOf e == s.size && P.cellsOf t == n * s.size | _=>false,λ_ _=>false)
 | .pair a b=>(λt=>match P.underlying t with
  | some (.struct fs)=>P.cellsOf t == a.size+b.size && (match fs.toList with
    | f :: r=>f.offset == 0 && P.cellsOf f.type == a.size && (pq P a).1 f.type && (pq P b).2 r a.size
    | []=>false)
  | _=>false,
   λfs off=>match fs with
    | f :: r=>f.offset == off && P.cellsOf f.type == a.size && (pq P a).1 f.type && (pq P b).2 r (off+a.size)
    | []=>false)
 | .unit=>(λt=>match P.underlying t with
  | some (.struct fs)=>P.cellsOf t == 0 && fs.toList.isEmpty
  | _=>false,
   λfs _=>fs.isEmpty)
section
variable {H:Type}{enc:TypeId×Value->H}{P:Program}{W:World}{sp:Nat->Bool}{held:Bool}
def OpT(enc:TypeId×Value->H) (P:Program) (W:World) (sp:Nat->Bool) (held:Bool) (s:Sh) (t:TypeId):Prop:=
 ∀(fuel:Nat) (cs:List Value) (x:DataW H×List MemPlace),DataW.trod enc P W 0 sp held fuel t cs=some x->∃y,xg s x.1=some y/\Rd (FH.all W) s cs y/\V8 s y
theorem BJ{s:Sh}{e:TypeId}{n:Nat}{a:Addr} (hs:OpT enc P W sp held s e):∀(elems:List (DataW H×List MemPlace)) (k:Nat),
 (∀i,i < elems.length->(W.cells? 0 (a.add ((k+i) * s.size)) s.size).bind (DataW.trod enc P W 0 sp held n e)=elems[i]?) ->
 ∃CS L,KD (xg s) (elems.map (·.1))=some L/\eX (Rd (FH.all W) s) CS L/\L.length=elems.length/\(∀j u,CS[j]?=some u->W.cell? (a.add (k * s.size+j))=some u)/\∀x∈L,V8 s x
 | [],k,_=>⟨[],[],rfl,rfl,rfl,λj u e=>by simp at e,λx hx=>by simp at hx⟩
 | x :: elems,k,he=>by
   have h0:=he 0 (by simp)
   simp only[O1,WA,Option.bind_eq_some_iff]at h0;obtain⟨cs,hc,hx⟩:=h0;obtain⟨y,y1,y2,y3⟩:=hs _ _ _ hx;obtain⟨CS,L,l1,l2,l3,l4,l5⟩:=BJ hs elems (k+1) (λi hi=>by
    have:=he (i+1) (by simpa using hi)
    rw[show k+1+i=k+(i+1) by omega]
    simpa using this)
   obtain⟨_,c2,c3⟩:=World.cells?_some hc;refine⟨cs++CS,y :: L,?_,⟨cs,CS,rfl,y2,l2⟩,by simp[l3],?_,?_⟩
   .simp only[Es,KD,y1,l1]
   .intro j u hu
    by_cases hj:j < cs.length
    .rw[QM hj]at hu;have:=c3 j (by omega)
     rw[hu]at this;rw[<-this,Addr.add_add]
    .rw[Jh (by omega)]at hu
     have:=l4 (j - cs.length) u hu;rw[show k * s.size+j=(k+1) * s.size+(j - cs.length) by rw[uN];omega]
     exact this
   .intro z hz;rcases jM.1 hz with rfl | hz
    .exact y3
    .exact l5 z hz
theorem IJ{s:Sh}{e:TypeId}{m:Nat} (hs:OpT enc P W sp held s e):∀(xs:List (DataW H×List MemPlace)) (cs:List Value),cs.length=xs.length * s.size ->
 (∀i,i < xs.length->DataW.trod enc P W 0 sp held m e ((cs.drop (i * s.size)).take s.size)=xs[i]?) ->
 ∃L,KD (xg s) (xs.map (·.1))=some L/\eX (Rd (FH.all W) s) cs L/\L.length=xs.length/\∀x∈L,V8 s x
 | [],cs,hl,_=>⟨[],rfl,by simpa[eX]using hl,rfl,λx hx=>by simp at hx⟩
 | x :: xs,cs,hl,he=>by
   have h0:=he 0 (by simp)
   simp only[GI,Wv,WA]at h0;obtain⟨y,y1,y2,y3⟩:=hs _ _ _ h0;obtain⟨L,l1,l2,l3,l4⟩:=IJ hs xs (cs.drop s.size) (by rw[yT,hl,zI,uN];omega) (λi hi=>by
    have:=he (i+1) (by simpa using hi)
    rw[OX,show s.size+i * s.size=(i+1) * s.size by rw[uN];omega]
    simpa using this)
   refine⟨y :: L,by simp only[Es,KD,y1,l1],⟨cs.take s.size,cs.drop s.size,(VX _ _).symm,y2,l2⟩,by simp[l3],?_⟩
   intro z hz;rcases jM.1 hz with rfl | hz
   .exact y3
   .exact l4 z hz
def OpF(enc:TypeId×Value->H) (P:Program) (W:World) (sp:Nat->Bool) (held:Bool) (s:Sh) (fs:List Field) (off:Nat):Prop:=
 ∀(n:Nat) (cs:List Value) (xs:List (DataW H×List MemPlace)),cs.length=off+s.size->xs.length=fs.length ->
   (∀(i:Nat) (f:Field),fs[i]?=some f->DataW.trod enc P W 0 sp held n f.type ((cs.drop f.offset).take (P.cellsOf f.type))=xs[i]?) ->
   ∃y,xg s (.agg (xs.map (·.1)))=some y/\Rd (FH.all W) s (cs.drop off) y/\V8 s y
theorem D6{a b:Sh}{f:Field}{r:List Field}{off:Nat} (h1:f.offset=off) (h2:P.cellsOf f.type=a.size) (ha:OpT enc P W sp held a f.type) (hb:OpF enc P W sp held b r (off+a.size)):
 OpF enc P W sp held (.pair a b) (f :: r) off:=by
 intro n cs xs hl hx he;cases xs with
 | nil=>simp at hx
 | cons x xs=>
   have h0:=he 0 f rfl;rw[h1,h2]at h0;obtain⟨y,y1,y2,y3⟩:=ha _ _ _ h0;obtain⟨z,z1,z2,z3⟩:=hb n cs xs (by rw[hl];simp only[Sh.size];omega) (by simpa using hx) (λi g hg=>by simpa using he (i+1) g (by simpa using hg))
   refine⟨(y,z),?_,⟨(cs.drop off).take a.size,cs.drop (off+a.size),?_,y2,z2⟩,y3,z3⟩
   .simp only[Es,xg,y1,z1]
   .rw[<-OX];exact(VX _ _).symm
theorem oZ:∀(s:Sh),(∀t,(pq P s).1 t=true->OpT enc P W sp held s t)/\(∀fs off,(pq P s).2 fs off=true->OpF enc P W sp held s fs off)
 | .int k=>by
   refine⟨λt ht fuel cs x h=>?_,λfs off hf=>by simp[pq]at hf⟩
   simp only[pq]at ht;split at ht
   .rename_i k' hu;simp only[iE]at ht;subst ht;obtain⟨n,rfl,rfl,hw⟩:=DataW.trod_int hu h;exact⟨n,by simp[xg],rfl,hw⟩
   .cases ht
 | .bool=>by
   refine⟨λt ht fuel cs x h=>?_,λfs off hf=>by simp[pq]at hf⟩
   simp only[pq]at ht;split at ht
   .rename_i hu;obtain⟨b,rfl,rfl⟩:=DataW.trod_bool hu h;exact⟨b,rfl,rfl,trivial⟩
   .cases ht
 | .str=>by
   refine⟨λt ht fuel cs x h=>?_,λfs off hf=>by simp[pq]at hf⟩
   simp only[pq]at ht;split at ht
   .rename_i hu;obtain⟨b,rfl,rfl,hb⟩:=DataW.trod_string hu h;exact⟨b,rfl,rfl,hb⟩
   .cases ht
 | .any=>⟨λt ht=>by simp[pq]at ht,λfs off hf=>by simp[pq]at hf⟩
 | .mp _ _=>⟨λt ht=>by simp[pq]at ht,λfs off hf=>by simp[pq]at hf⟩
 | .sl s=>by
   refine⟨λt ht fuel cs x h=>?_,λfs off hf=>by simp[pq]at hf⟩
   simp only[pq]at ht;split at ht
   .rename_i e hu;simp only[A8,uo,iE]at ht;obtain⟨⟨ht,hc⟩,h1⟩:=ht;have ih:=(oZ s).1 e ht;rcases DataW.trod_slice hu h with⟨rfl,rfl⟩ | ⟨a,len,cap,elems,rest,n,_,rfl,rfl,_,hle,hcap,hlen,hel,_,_⟩
    .exact⟨[],rfl,⟨_,rfl,.inl ⟨rfl,rfl⟩⟩,zJ _,λx hx=>by simp at hx⟩
    .rw[hc]at hel;obtain⟨CS,L,l1,l2,l3,l4,l5⟩:=BJ (n:=n) (a:=a) ih elems 0 (λi hi=>by rw[yU];exact hel i (by omega))
     refine⟨L,l1,⟨_,rfl,?_⟩,by rw[l3];omega,l5⟩
     by_cases h0:len=0
     .have:L=[]:=QL (by omega)
      subst this;subst h0;exact .inr (.inl ⟨a,cap,rfl,rfl,hcap⟩)
     .have hsz:=eX.size (λ_ _=>Rd.size s) l2
      have hpos:0 < CS.length:=by rw[hsz,l3,hlen];exact Nat.mul_pos (by omega) (by omega)
      have hcell:=l4 0 _ (kW hpos);have hspot:a.spot=none:=by
       unfold World.cell? at hcell;split at hcell
       .split at hcell
        .cases hcell
        .rename_i hn;simpa[Addr.add]using hn
       .cases hcell
      obtain⟨ab,ao,asp⟩:=a;simp only at hspot;subst hspot;refine .inr (.inr ⟨ab,ao,cap,by rw[l3,hlen],by omega,hcap,CS,l2,λj u hu=>?_⟩)
      have:=l4 j u hu;refine Rj ?_ (eX.all (λ_ _=>Rd.one s) l2 u (kT hu)).2
      rw[<-this]
      by_cases hj:j=0<;>simp[Addr.add,hj]
   .cases ht
 | .arr m s=>by
   refine⟨λt ht fuel cs x h=>?_,λfs off hf=>by simp[pq]at hf⟩
   simp only[pq]at ht;split at ht
   .rename_i m' e hu;simp only[A8,uo]at ht;obtain⟨⟨⟨rfl,ht⟩,hc⟩,hct⟩:=ht;have ih:=(oZ s).1 e ht;obtain⟨xs,n,_,rfl,hl,hx,he⟩:=DataW.trod_array hu h;rw[hc]at he;have hcl:cs.length=xs.length * s.size:=by rw[hl,hct,hx]
    obtain⟨L,l1,l2,l3,l4⟩:=IJ (m:=n) ih xs cs hcl (λi hi=>he i (by omega))
    exact⟨L,by simp[xg,hx,l1],⟨by omega,l2⟩,⟨by omega,l4⟩⟩
   .cases ht
 | .pair a b=>by
   have iha:=oZ a;have ihb:=oZ b;constructor
   .intro t ht fuel cs x h;simp only[pq]at ht;split at ht
    .rename_i fs hu;simp only[A8,uo]at ht;obtain⟨hc,ht⟩:=ht;split at ht
     .rename_i f r hfs;simp only[A8,uo]at ht;obtain⟨⟨⟨t1,t2⟩,t3⟩,t4⟩:=ht;obtain⟨xs,n,_,rfl,hl,hx,he⟩:=DataW.trod_struct hu h;have:=D6 (off:=0) t1 t2 (iha.1 _ t3) (ihb.2 r _ (by simpa using t4)) n cs xs (by rw[hl,hc];simp) (by rw[hx,<-hfs];simp) (λi g hg=>he i g (by rw[<-hfs]at hg;simpa using hg))
      simpa using this
     .cases ht
    .cases ht
   .intro fs off hf;simp only[pq]at hf;split at hf
    .rename_i f r;simp only[A8,uo]at hf;obtain⟨⟨⟨t1,t2⟩,t3⟩,t4⟩:=hf;exact D6 t1 t2 (iha.1 _ t3) (ihb.2 _ _ t4)
    .cases hf
 | .unit=>by
   constructor
   .intro t ht fuel cs x h;simp only[pq]at ht;split at ht
    .rename_i fs hu;simp only[A8,uo,List.isEmpty_iff]at ht;obtain⟨hc,ht⟩:=ht;obtain⟨xs,n,_,rfl,hl,hx,he⟩:=DataW.trod_struct hu h;have hx0:xs=[]:=QL (by rw[hx,<-OL,ht];rfl)
     subst hx0;have:cs=[]:=QL (by omega)
     subst this;exact⟨(),rfl,rfl,trivial⟩
    .cases ht
   .intro fs off hf n cs xs hl hx he;simp only[pq,List.isEmpty_iff]at hf;subst hf;have:xs=[]:=QL (by simpa using hx)
    subst this;refine⟨(),rfl,?_,trivial⟩;show cs.drop off=[];rw[List.drop_eq_nil_iff];simp only[Sh.size]at hl;omega
end
end Go.lM
namespace Go.lM
open Go Go.RowKit Go.ChangeShapes Go.WideShapes
variable {t:TypeId}
section
variable {H:Type}{enc:TypeId×Value->H}{P:Program}{W:World}{sp:Nat->Bool}{held:Bool}
theorem cells_one{v:Value} (h:∀cs,v≠.agg cs):v.cells=#[v]:=by
 cases v<;>first | rfl | exact absurd rfl (h _)
theorem Ux{s:Sh}{v:Value}{d:DataW H}{ps:List MemPlace}{r:Reach}{b0:Nat} (hs:(pq P s).1 t=true) (hval:Value.okWide P W r b0 t v) (h:DataW.Trod enc P W 0 sp held t v d ps):
 ∃y,xg s d=some y/\bV (FH.all W) [] (iG s y) v/\V8 s y:=by
 obtain⟨fuel,hf⟩:=h;obtain⟨y,y1,y2,y3⟩:=(oZ s).1 t hs _ _ _ hf;refine⟨y,y1,?_,y3⟩;have e:v=mkV s v.cells.toList:=by
  have one:s.isAgg=false->(∀cs,v≠.agg cs)->v=mkV s v.cells.toList:=by
   intro h1 h2;rw[cells_one h2];simp[mkV,h1]
  cases s with
  | int k=>
    refine one rfl λcs hc=>?_
    simp only[pq]at hs;split at hs
    .rename_i hu;subst hc;simp[Value.okWide,hu,Cell.okWide,Cell.ok]at hval
    .cases hs
  | bool=>
    refine one rfl λcs hc=>?_
    simp only[pq]at hs;split at hs
    .rename_i hu;subst hc;simp[Value.okWide,hu,Cell.okWide,Cell.ok]at hval
    .cases hs
  | str=>
    refine one rfl λcs hc=>?_
    simp only[pq]at hs;split at hs
    .rename_i hu;subst hc;simp[Value.okWide,hu,Cell.okWide,Cell.ok]at hval
    .cases hs
  | any=>simp[pq]at hs
  | mp _ _=>simp[pq]at hs
  | sl s=>
    refine one rfl λcs hc=>?_
    simp only[pq]at hs;split at hs
    .rename_i hu;subst hc;simp[Value.okWide,hu,Cell.okWide,Cell.ok]at hval
    .cases hs
  | pair a b=>
    simp only[pq]at hs;split at hs
    .rename_i hu;simp only[Value.okWide,hu]at hval;obtain⟨cs,rfl,_⟩:=hval;simp[mkV,Sh.isAgg,Value.cells]
    .cases hs
  | unit=>
    simp only[pq]at hs;split at hs
    .rename_i hu;simp only[Value.okWide,hu]at hval;obtain⟨cs,rfl,_⟩:=hval;simp[mkV,Sh.isAgg,Value.cells]
    .cases hs
  | arr n s=>
    simp only[pq]at hs;split at hs
    .rename_i hu;simp only[Value.okWide,hu]at hval;obtain⟨cs,rfl,_⟩:=hval;simp[mkV,Sh.isAgg,Value.cells]
    .cases hs
 rw[e];exact iH s y2
def yQ:(ss:List Sh)->List (DataW H)->Option (bW ss)
 | [],ds=>match ds with
   | []=>some ()
   | _=>none
 | s :: ss,ds=>match ds with
   | d :: r=>match xg s d with
     | some x=>match yQ ss r with
       | some y=>some (x,y)
       | none=>none
     | none=>none
   | []=>none
def ace:(ss:List Sh)->bW ss->Prop
 | [],_=>True
 | s :: ss,d=>V8 s d.1/\ace ss d.2
def Qw(P:Program):List Sh->List TypeId->Bool
 | [],[]=>true
 | s :: ss,t :: ts=>(pq P s).1 t && Qw P ss ts
 | _,_=>false
theorem D7:∀{ss:List Sh}{ds:List (DataW H)}{d:bW ss},yQ ss ds=some d->ds.length=ss.length
 | [],[],_,_=>rfl
 | [],_ :: _,_,h=>by simp[yQ]at h
 | _ :: _,[],_,h=>by simp[yQ]at h
 | s :: ss,x :: ds,d,h=>by
   simp only[yQ]at h;split at h
   .split at h
    .rename_i hr;simp[D7 hr]
    .cases h
   .cases h
theorem D8{r:Reach}{b0:Nat}:∀{ss:List Sh}{ts:List TypeId}{vs:List Value}{ds:List (DataW H)}{ps:List MemPlace},Qw P ss ts=true ->
 (∀(j:Nat) t v,ts[j]?=some t->vs[j]?=some v->Value.okWide P W r b0 t v)->DataW.TrodAll enc P W 0 sp held ts vs ds ps ->
 ∃d:bW ss,yQ ss ds=some d/\aI (bV (FH.all W) []) (dV ss d) vs/\ace ss d
 | [],[],vs,ds,ps,_,_,h=>by
   obtain⟨rfl,rfl,rfl⟩:=trodAll_nil h;exact⟨(),rfl,trivial,trivial⟩
 | s :: ss,t :: ts,vs,ds,ps,hs,hval,h=>by
   obtain⟨v,vs,d,ds,p,q,rfl,rfl,rfl,h1,h2⟩:=trodAll_cons h;simp only[Qw,A8]at hs;obtain⟨y,y1,y2,y3⟩:=Ux hs.1 (hval 0 t v rfl rfl) h1;obtain⟨z,z1,z2,z3⟩:=D8 hs.2 (λj t v e e'=>hval (j+1) t v (by simpa using e) (by simpa using e')) h2
   exact⟨(y,z),by simp only[yQ,y1,z1],⟨y2,z2⟩,y3,z3⟩
 | [],_ :: _,_,_,_,hs,_,_=>by simp[Qw]at hs
 | _ :: _,[],_,_,_,hs,_,_=>by simp[Qw]at hs
theorem IK:∀{laid:List (String×DataW Unit)}{ps:List MemPlace}{n:String}{D:DataW Unit},DataW.LaidVars P W laid ps->(n,D)∈laid ->
 ∃g t cs fuel p,P.globalNamed n=some g/\(P.globals[g]?).map (·.type)=some t/\W.var? P n=some cs/\DataW.trod (λ_=>()) P W 0 (λ_=>true) false fuel t cs.toList=some (D,p)
 | [],_,_,_,_,hm=>by simp at hm
 | (n',D') :: r,ps,n,D,h,hm=>by
   obtain⟨g,t,cs,fuel,p,q,h1,h2,h3,h4,h5,_⟩:=h;rcases jM.1 hm with e | hm
   .cases e;exact⟨g,t,cs,fuel,p,h1,h2,h3,h4⟩
   .exact IK h5 hm
theorem D9{laid:List (String×DataW Unit)} (hL:laidMetH P laid W) (hnone:(laid.filter λx=>x.2.handleName?.isSome)=[]){n:String}{D:DataW Unit} (hm:(n,D)∈laid){g:Nat}{s:Sh}{y:s.den}
 (hg:P.globalNamed n=some g) (ht:(P.globals[g]?).map (·.type)=some t) (hs:(pq P s).1 t=true) (hd:xg s D=some y):∃cs,Rd (FH.all W) s cs y/\At (FH.all W) g 0 cs:=by
 unfold laidMetH at hL;rw[hnone]at hL;obtain⟨ps,hv,_⟩:=hL;obtain⟨g',t',cs,fuel,p,h1,h2,h3,h4⟩:=IK hv hm;rw[hg]at h1;cases h1;rw[ht]at h2;cases h2;obtain⟨y',y1,y2,_⟩:=(oZ s).1 t hs _ _ _ h4;simp only at y1;rw[hd]at y1;cases y1;refine⟨_,y2,λj u hu=>?_⟩
 unfold World.var? at h3;rw[hg,Option.bind_some]at h3;split at h3
 .rename_i cs' _ _ he;cases h3;show vis W g (0+j)=some u;refine lN he ?_ (Rd.one s y2 u (kT hu)).2;simpa using hu
 .cases h3
def lay(cs:Array Value):Obj->Obj
 | .cells _ t frozen=>.cells cs t frozen
 | o=>o
theorem KE{W':World} (hB:Below W.heap.size W W'){b o:Nat} (hb:b < W.heap.size):W'.frozen? ⟨b,o,none⟩=W.frozen? ⟨b,o,none⟩:=by
 simp only[World.frozen?,hB.block b hb]
theorem KF{W':World} (hB:Below W.heap.size W W'){p:MemPlace} (hb:p.block < W.heap.size):W.sameAt W' p:=by
 cases p with
 | cell b o=>
   show W'.cell? ⟨b,o,none⟩=W.cell? ⟨b,o,none⟩;simp only[World.cell?];rw[hB.block b hb]
 | map b=>exact hB.block b hb
theorem uI{W':World}{sp:Nat->Bool}:∀{ts:List TypeId}{vs:List Value}{ds:List (DataW H)}{ps:List MemPlace},DataW.TrodAll enc P W 0 sp held ts vs ds ps->(∀p∈ps,W.sameAt W' p) ->
 DataW.TrodAll enc P W' 0 sp held ts vs ds ps
 | [],_,_,_,h,_=>by obtain⟨rfl,rfl,rfl⟩:=trodAll_nil h;rfl
 | _ :: _,_,_,_,h,hs=>by
   obtain⟨v,vs,d,ds,p,q,rfl,rfl,rfl,⟨fuel,h1⟩,h2⟩:=trodAll_cons h;exact⟨p,q,⟨fuel,DataW.trod_carry _ _ _ _ h1 λx hx=>hs x (by simp[hx])⟩,uI h2 λx hx=>hs x (by simp[hx]),rfl⟩
theorem Qx{fn:Func}{s:ChangeSpec}{apart fresh handsOn again:Bool}{W':World}{args:Array Value}{ds gs:List (DataW H)}{before:List MemPlace}
 (hl:laidOutB P=true) (hm:mapsRowed P=true) (hz:∀t e,t < P.types.size->P.underlying t=some (.slice e)->0 < P.cellsOf e) (hts:∀t∈fn.params.toList,t < P.types.size)
 (hres:fn.resultTypes=#[t]) (ht:P.underlying t=some .bool) (hvars:s.vars=[]) (hfn:s.fn H (ds++gs)={ results:=[.lit (.bool true)],args:=ds })
 (hW:DataW.Whole enc P fn.params.toList s.vars apart W args.toList ds gs before) (hB:Below W.heap.size W W'):
 s.post enc P fn apart fresh handsOn again W args (.bool true) W':=by
 have gY:=hW.lt;have hW':=hW;obtain⟨pa,pv,hA,hV,hps,hfz,hnd⟩:=hW;rw[hvars]at hV;obtain⟨rfl,rfl⟩:gs=[]/\pv=[]:=by
  cases gs with
  | nil=>exact⟨rfl,hV⟩
  | cons _ _=>exact hV.elim
 rw[OO]at hps;subst hps;have same:∀p∈before,W.sameAt W' p:=λp hp=>KF hB (gY p hp)
 have hargs:∀sp:Nat->Bool,(∀p∈before,sp p.block=true)->DataW.TrodAll enc P W' 0 sp true fn.params.toList args.toList ds before:=λsp hsp=>
  uI (DataW.TrodAll.respare (kids_rows hl hm) hz hts hA hsp) same
 have aaq:∀(b:Nat) (sp:Nat->Bool) (hd:Bool),DataW.TrodAll enc P W' b sp hd fn.resultTypes.toList ((Value.bool true).resultList fn.resultTypes.size) [.lit (.bool true)] []:=by
  intro b sp hd;rw[hres];exact trodAll_cons_mk (shut_bool ht true) (ds:=[]) (p':=[]) (show DataW.TrodAll enc P W' b sp hd [] [] [] [] from rfl)
 have hv:∀sp:Nat->Bool,DataW.TrodVars enc P W' sp s.vars (s.fn H (ds++[])).vars []:=by
  intro sp;rw[hvars,hfn];rfl
 have hold:∀p∈before,(λb=>decide (b < W.heap.size)) p.block=true:=λp hp=>by simpa using gY p hp
 refine⟨ds,[],before,[],before,[],hW',by rw[hfn];exact aaq _ _ _,by rw[hfn];exact hargs _ hold,hv _,hB.frame _,λ_=>?_⟩
 refine⟨ok_one hres rfl (okWide_bool_mk ht true),[.lit (.bool true)]++ds,[],([]++before)++[],⟨[]++before,[],trodAll_append (hargs _ (λ_ _=>rfl)) (aaq _ _ _),by rw[hvars];rfl,rfl,?_,?_⟩,?_⟩
 .intro b off hp;have hp:MemPlace.cell b off∈before:=by simpa using hp
  rw[KE (b:=b) (o:=off) hB (gY _ hp)];exact hfz b off hp
 .intro ha;have:=hnd ha;simpa using this
 .intro p hp _;simpa using hp
theorem Qy{gd:Nat->Option (Sigma Sh.den)}{f:Nat}{fn:Func}{ct:CT} (met:Met P gd f ct){s:ChangeSpec}{apart fresh handsOn again:Bool}{args:Array Value}{ds gs:List (DataW H)}{before:List MemPlace}{r:Reach}{b0:Nat}
 (hl:laidOutB P=true) (hm:mapsRowed P=true) (hz:∀t e,t < P.types.size->P.underlying t=some (.slice e)->0 < P.cellsOf e) (hts:∀t∈fn.params.toList,t < P.types.size)
 (hres:fn.resultTypes=#[t]) (ht:P.underlying t=some .bool) (hvars:s.vars=[])
 (aii:Qw P ct.ps fn.params.toList=true) (hct:∀d,ct.res d=([],.one (.c (.v (.bool true)))))
 (hfn:∀d:bW ct.ps,yQ ct.ps ds=some d->ace ct.ps d->s.fn H ds={ results:=[.lit (.bool true)],args:=ds }/\ct.pre d)
 (hval:∀(j:Nat) t v,fn.params[j]?=some t->args[j]?=some v->Value.okWide P W r b0 t v)
 (hW:DataW.Whole enc P fn.params.toList s.vars apart W args.toList ds gs before) (hG:aG gd (FH.all W)):
 Calls P f args W λe W'=>∃v,e=.returned v/\s.post enc P fn apart fresh handsOn again W args v W':=by
 have hA:=hW;obtain⟨pa,pv,hA,hV,_⟩:=hA;rw[hvars]at hV;obtain rfl:gs=[]:=by
  cases gs with
  | nil=>rfl
  | cons _ _=>exact hV.elim
 obtain⟨d,d1,d2,d3⟩:=D8 aii (λj t v e e'=>hval j t v (by simpa using e) (by simpa using e')) hA
 obtain⟨h1,h2⟩:=hfn d d1 d3;have:=met.1 d args.toList (FH.all W) W (λb o v e=>e) hG d2 h2
 rw[show args.toList.toArray=args by simp]at this
 refine this.mono ?_;rintro en W' ⟨h',β,y,rfl,ok,he⟩;rw[hct]at ok he;obtain⟨⟨rfl,_⟩,_⟩:=he;exact⟨_,rfl,Qx hl hm hz hts hres ht hvars (by rw[OO];exact h1) hW (Bw.bel ok.below)⟩
end
end Go.lM
