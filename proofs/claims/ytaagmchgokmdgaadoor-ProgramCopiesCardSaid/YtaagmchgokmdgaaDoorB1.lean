/- Part 1 of the proof. Conditions: the rows'. -/
import Derived.WalkKit
import Derived.RangeFuncCalls
import Derived.OrdersIn
import Derived.Laws.StructEq
import Derived.ChangeKeysEq
set_option linter.unusedSimpArgs false
set_option linter.unusedVariables false
set_option maxRecDepth 1000000
set_option maxHeartbeats 8000000
abbrev A8:=@Bool.and_eq_true
abbrev fM:=@List.getElem?_eq_some_iff
abbrev fC:=@Nat.eq_of_beq_eq_true
abbrev lH:=@List.getElem?_eq_getElem
abbrev jU:=@List.getElem?_set_ne
abbrev jA:=@List.length_append
abbrev kM:=@Nat.le_of_ble_eq_true
abbrev jB:=@decide_eq_true_eq
abbrev mJ:=@List.getElem?_set_self
abbrev lI:=@List.mem_of_getElem?
abbrev iV:=@List.mem_cons
abbrev qx:=@decide_eq_false_iff_not
abbrev lY:=@List.length_take
abbrev xk:=@Array.getElem?_eq_some_iff
abbrev tC:=@Nat.mul_le_mul_right
abbrev qU:=@List.getElem?_take
abbrev wV:=@List.getElem?_eq_none
abbrev lD:=@Nat.le_refl
abbrev nV:=@Nat.le_trans
abbrev xP:=@Bool.or_eq_false_iff
abbrev Gp:=@List.getElem?_append_right
abbrev xq:=@List.length_drop
abbrev Gq:=@List.mem_or_eq_of_mem_set
abbrev rP:=@Nat.succ_mul
abbrev xu:=@List.length_set
abbrev zT:=@List.ext_getElem?
abbrev zU:=@List.size_toArray
abbrev Gh:=@List.take_of_length_le
abbrev Np:=@List.eq_nil_of_length_eq_zero
abbrev Am:=@List.append_assoc
abbrev qy:=@beq_iff_eq
abbrev zO:=@List.mem_append
abbrev Ea:=@List.getElem?_drop
abbrev Aq:=@List.length_cons
abbrev Ee:=@Nat.lt_of_lt_of_le
abbrev Nq:=@List.getElem?_append_left
abbrev Ar:=@Bool.or_eq_true
abbrev Ef:=@List.getElem?_map
abbrev xw:=@Nat.zero_add
abbrev qV:=@congrArg
abbrev V4:=@Array.getElem?_setIfInBounds_ne
abbrev KD:=@Array.length_toList
abbrev IY:=@Bool.not_eq_true'
abbrev Eb:=@List.map_cons
abbrev Rq:=@Array.getElem?_eq_none
abbrev Nr:=@Bool.not_eq_false'
abbrev IZ:=@List.nil_append
abbrev Rt:=@List.take_append_drop
abbrev BU:=@Nat.zero_le
abbrev RI:=@List.drop_of_length_le
abbrev Ec:=@Nat.add_mul
abbrev KE:=@List.append_nil
abbrev Ns:=@List.all_eq_true
abbrev Xb:=@List.drop_length_add_append
abbrev RJ:=@Nat.ble_eq_true_of_le
abbrev RN:=@List.length_replicate
abbrev V5:=@Nat.le_mul_of_pos_right
abbrev I4:=@Bool.true_and
abbrev Nu:=@Option.map_some
abbrev RP:=@List.getElem?_of_mem
abbrev Ru:=@Array.size_append
abbrev Xc:=@Option.isSome_iff_exists
abbrev Gi:=@bne_iff_ne
abbrev V6:=@List.getElem?_append
abbrev Nv:=@List.take_left
abbrev I5:=@Nat.le_succ
abbrev RQ:=@of_decide_eq_true
abbrev V7:=@Array.toList_append
abbrev Rw:=@Option.some.inj
abbrev Rx:=@List.length_nil
abbrev Ry:=@List.nodup_cons
abbrev A80:=@List.take_append_of_le_length
abbrev V8:=@List.pairwise_cons
abbrev V9:=@List.mem_singleton
abbrev Nw:=@List.mem_map
abbrev Rz:=@Nat.add_assoc
abbrev RS:=@List.drop_zero
abbrev A86:=@List.contains_iff_mem
abbrev RU:=@Prod.mk.injEq
abbrev A88:=@List.drop_append_of_le_length
abbrev A89:=@Nat.ne_of_beq_eq_false
abbrev RX:=@Nat.lt_or_ge
abbrev A91:=@List.take_length_add_append
abbrev Xd:=@Nat.min_eq_left
abbrev Xe:=@List.foldl_cons
abbrev Xf:=@Bool.eq_iff_iff
abbrev A95:=@Option.some.injEq
abbrev A96:=@List.take_add_one
abbrev A97:=@List.findIdx?_eq_some_iff_getElem
abbrev Xg:=@List.mem_range
abbrev Wh:=@Nat.zero_mul
abbrev KF:=@List.take_length
abbrev RY:=@List.getElem?_cons_zero
abbrev Ny:=@Bool.false_eq_true
abbrev KG:=@List.take_zero
abbrev KH:=@List.drop_drop
abbrev KI:=@Bool.not_false
abbrev Gu:=@Bool.true_or
abbrev Xh:=@List.getD_eq_getElem?_getD
abbrev KJ:=@Bool.not_true
abbrev KL:=@Bool.false_or
abbrev Nz:=@decide_eq_false
abbrev NC:=@List.map_append
abbrev Xi:=@List.findIdx?_eq_none_iff
abbrev KN:=@Nat.add_zero
abbrev RZ:=@List.find?_eq_none
abbrev Eh:=@if_false
abbrev ND:=@Nat.add_comm
abbrev Si:=@Option.map_none
abbrev Sj:=@List.length_map
abbrev Xj:=@List.pairwise_append
abbrev Xk:=@List.replicate_succ
abbrev Xl:=@List.takeWhile_cons
abbrev Sl:=@decide_eq_true
abbrev NG:=@Nat.mul_one
abbrev Xm:=@Array.empty_append
namespace Go.lZ
open Go Go.RowKit
variable {a:Act}{b o f cap off j N:Nat}{w w':World}{v y:Value}{t:TypeId}{cs:List Value}{n:Int}{k ik:IntKind}{α:Type}{P:Program}{gl:List Bool}{op:BinOp}
inductive Sh where
 | int (k:IntKind) | bool | str | any | sl (s:Sh) | pair (a b:Sh) | unit | arr (n:Nat) (s:Sh) | mp (k:IntKind) (s:Sh)
 deriving DecidableEq
abbrev Sh.den:Sh->Type
 | .int _=>Int
 | .bool=>Bool
 | .str=>ByteArray
 | .any=>Value
 | .sl s=>List s.den
 | .pair a b=>a.den×b.den
 | .unit=>Unit
 | .arr _ s=>List s.den
 | .mp _ s=>List (Int×s.den)
abbrev Sh.size:Sh->Nat
 | .pair a b=>a.size+b.size
 | .unit=>0
 | .arr n s=>n * s.size
 | .int _=>1
 | .bool=>1
 | .str=>1
 | .any=>1
 | .sl _=>1
 | .mp _ _=>1
abbrev Sh.isAgg:Sh->Bool
 | .pair _ _=>true
 | .unit=>true
 | .arr _ _=>true
 | _=>false
abbrev FH:=Nat->Nat->Option Value
variable {h h' h0:FH}
def FH.le(h h':FH):Prop:=∀b o v,h b o=some v->h' b o=some v
theorem FH.le.refl(h:FH):h.le h:=λ_ _ _ e=>e
theorem FH.le.trans{a b c:FH} (x:a.le b) (y:b.le c):a.le c:=λ_ _ _ e=>y _ _ _ (x _ _ _ e)
def bM(v:Value):Prop:=v.cells=#[v]/\v.oneCell'=true
def aG{α β:Type} (R:α->β->Prop):List α->List β->Prop
 | [],[]=>True
 | a :: l,b :: m=>R a b/\aG R l m
 | _,_=>False
theorem aG.mono{α β:Type}{R R':α->β->Prop} (hR:∀a b,R a b->R' a b):∀{l:List α}{m:List β},aG R l m->aG R' l m
 | [],[],_=>trivial
 | _ :: _,_ :: _,⟨a,b⟩=>⟨hR _ _ a,aG.mono hR b⟩
def KO(e:MapEntry):Value:=.tuple #[e.key,e.val,.int .i64 e.born]
def zV(es:Array MapEntry) (c:Nat):Value:=.tuple #[.agg (es.toList.map KO).toArray,.int .i64 c]
def vis(w:World) (b o:Nat):Option Value:=match w.heap[b]? with
 | some (.cells c _ _)=>match c[o]? with
   | some v=>if v.oneCell'=true then some v else none
   | none=>none
 | some (.map es c)=>if o=0 then some (zV es c) else none
 | _=>none
theorem NH{e e':MapEntry} (h:KO e=KO e'):e=e':=by
 cases e;cases e';simp[KO]at h;obtain⟨a,b,c⟩:=h;have c:=Int.ofNat.inj c;subst a;subst b;subst c;rfl
theorem NI{es es':Array MapEntry}{c c':Nat} (h:zV es c=zV es' c'):es=es'/\c=c':=by
 simp only[zV,Value.tuple.injEq,Array.mk.injEq,List.cons.injEq,Value.agg.injEq,Value.int.injEq,true_and,and_true]at h;refine⟨?_,by omega⟩
 have key:∀(l l':List MapEntry),l.map KO=l'.map KO->l=l':=by
  intro l
  induction l with
  | nil=>intro l' e;cases l'<;>simp_all
  | cons x l ih=>
    intro l' e;cases l' with
    | nil=>simp at e
    | cons y l'=>
      simp only[Eb,List.cons.injEq]at e;rw[NH e.1,ih l' e.2]
 exact Array.toList_inj.1 (key _ _ h.1)
theorem jV(h:vis w b o=some v):b < w.heap.size:=by
 rcases RX b w.heap.size with h1 | h1
 .exact h1
 .simp[vis,Rq h1]at h
theorem iq(e:w'.heap[b]?=w.heap[b]?):vis w' b o=vis w b o:=by
 simp[vis,e]
theorem xQ(h:vis w b o=some v) (h1:v.oneCell'=true):w.cell? ⟨b,o,none⟩=some v:=by
 unfold vis at h;unfold World.cell?;split at h
 .rename_i c t f hb;simp only[hb];split at h
  .rename_i u hu;split at h
   .cases h;simp[hu]
   .cases h
  .cases h
 .split at h
  .cases h;simp[zV,Value.oneCell']at h1
  .cases h
 .cases h
theorem NJ(h:w.cell? ⟨b,o,none⟩=some v) (h1:v.oneCell'=true):vis w b o=some v:=by
 unfold World.cell? at h;unfold vis;split at h
 .rename_i c t f hb;simp only[hb];simp at h;simp[h,h1]
 .cases h
theorem kP{c:Array Value}{f:Nat×Nat} (hb:w.heap[b]?=some (.cells c t f)) (hv:c[o]?=some v) (h1:v.oneCell'=true):vis w b o=some v:=by
 unfold vis;simp[hb,hv,h1]
theorem Sm{es:Array MapEntry}{c:Nat} (h:vis w b 0=some (zV es c)):w.heap[b]?=some (.map es c):=by
 unfold vis at h;split at h
 .split at h
  .split at h
   .rename_i h1;cases h;simp[zV,Value.oneCell']at h1
   .cases h
  .cases h
 .rename_i es' c' hb;simp at h;obtain⟨rfl,rfl⟩:=NI h;exact hb
 .cases h
theorem I7{es:Array MapEntry}{c:Nat} (h:w.heap[b]?=some (.map es c)):vis w b 0=some (zV es c):=by
 simp[vis,h]
def BX{α:Type} (l:List (Int×α)):Prop:=l.Pairwise λx y=>x.1 < y.1
structure rQ {α:Type} (k:IntKind) (R:Value->α->Prop) (es:Array MapEntry) (c:Nat) (l:List (Int×α)):Prop where
 up:BX l
 al:∃ks:List (Int×α),ks.Perm l/\aG (λx (e:MapEntry)=>e.key=.int k x.1/\R e.val x.2) ks es.toList
 st:(es.toList.map (·.born)).Nodup
 lt:∀e∈es.toList,e.born < c
def KP{α:Type} (h:FH) (k:IntKind) (R:Value->α->Prop) (v:Value) (l:List (Int×α)):Prop:=
 (v=.map none/\l=[])\/∃b es c,v=.map (some b)/\h b 0=some (zV es c)/\rQ k R es c l
theorem rQ.mono{α:Type}{k:IntKind}{R R':Value->α->Prop} (hR:∀v d,R v d->R' v d){es:Array MapEntry}{c:Nat}{l:List (Int×α)} (x:rQ k R es c l):rQ k R' es c l:=by
 obtain⟨a,⟨ks,b1,b2⟩,d,e⟩:=x;exact⟨a,⟨ks,b1,b2.mono λ_ _ q=>⟨q.1,hR _ _ q.2⟩⟩,d,e⟩
theorem KP.mono{α:Type}{h h':FH} (le:h.le h'){k:IntKind}{R R':Value->α->Prop} (hR:∀v d,R v d->R' v d){v:Value}{l:List (Int×α)}:KP h k R v l->KP h' k R' v l
 | .inl e=>.inl e
 | .inr ⟨b,es,c,e,q,r⟩=>.inr ⟨b,es,c,e,le _ _ _ q,r.mono hR⟩
theorem KP.bM{α:Type}{h:FH}{k:IntKind}{R:Value->α->Prop}{v:Value}{l:List (Int×α)} (x:KP h k R v l):bM v:=by
 rcases x with⟨e,_⟩ | ⟨b,es,c,e,_⟩<;>subst e<;>exact⟨rfl,rfl⟩
def mkV(s:Sh) (cs:List Value):Value:=if s.isAgg then .agg cs.toArray else cs.headD undef
def dQ{α:Type} (R:List Value->α->Prop):List Value->List α->Prop
 | cs,[]=>cs=[]
 | cs,d :: l=>∃c r,cs=c++r/\R c d/\dQ R r l
def At(h:FH) (b o:Nat) (cs:List Value):Prop:=∀j u,cs[j]?=some u->h b (o+j)=some u
def mM{α:Type} (h:FH) (R:List Value->α->Prop) (v:Value) (l:List α):Prop:=
 (v=.slice none 0 0/\l=[])\/(∃a cap,v=.slice (some a) 0 cap/\l=[]/\cap<=maxLen) \/
 ∃b off cap,v=.slice (some ⟨b,off,none⟩) l.length cap/\l.length<=cap/\cap<=maxLen/\∃cs,dQ R cs l/\At h b off cs
def Rd(h:FH):(s:Sh)->List Value->s.den->Prop
 | .int k,cs,n=>cs=[.int k n]
 | .bool,cs,b=>cs=[.bool b]
 | .str,cs,b=>cs=[.string b]
 | .any,cs,v=>cs=[v]/\bM v
 | .unit,cs,_=>cs=[]
 | .pair a b,cs,(x,y)=>∃c1 c2,cs=c1++c2/\Rd h a c1 x/\Rd h b c2 y
 | .arr n s,cs,l=>l.length=n/\dQ (Rd h s) cs l
 | .sl s,cs,l=>∃v,cs=[v]/\mM h (Rd h s) v l
 | .mp k s,cs,l=>∃v,cs=[v]/\KP h k (λu d=>∃cs,u=mkV s cs/\Rd h s cs d) v l
theorem At.mono(le:h.le h') (x:At h b o cs):At h' b o cs:=λj u e=>le _ _ _ (x j u e)
theorem dQ.mono{α:Type}{R R':List Value->α->Prop} (hR:∀c d,R c d->R' c d):∀{l:List α}{cs:List Value},dQ R cs l->dQ R' cs l
 | [],_,h=>h
 | _ :: _,_,⟨c,r,e,h1,h2⟩=>⟨c,r,e,hR _ _ h1,dQ.mono hR h2⟩
theorem mM.mono{α:Type}{h h':FH} (le:h.le h'){R R':List Value->α->Prop} (hR:∀c d,R c d->R' c d){v:Value}{l:List α} (x:mM h R v l):mM h' R' v l:=by
 rcases x with x | x | ⟨b,off,cap,e,h1,h2,cs,h3,h4⟩
 .exact .inl x
 .exact .inr (.inl x)
 .exact .inr (.inr ⟨b,off,cap,e,h1,h2,cs,h3.mono hR,h4.mono le⟩)
theorem Rd.mono{h h':FH} (le:h.le h'):∀(s:Sh){cs:List Value}{d:s.den},Rd h s cs d->Rd h' s cs d
 | .int _,_,_,x=>x
 | .bool,_,_,x=>x
 | .str,_,_,x=>x
 | .any,_,_,x=>x
 | .unit,_,_,x=>x
 | .pair a b,_,(_,_),⟨c1,c2,e,h1,h2⟩=>⟨c1,c2,e,Rd.mono le a h1,Rd.mono le b h2⟩
 | .arr _ s,_,_,⟨e,x⟩=>⟨e,x.mono λ_ _=>Rd.mono le s⟩
 | .sl s,_,_,⟨v,e,x⟩=>⟨v,e,x.mono le λ_ _=>Rd.mono le s⟩
 | .mp k s,_,_,⟨v,e,x⟩=>⟨v,e,x.mono le λ_ _ ⟨cs,q,r⟩=>⟨cs,q,Rd.mono le s r⟩⟩
theorem dQ.size{α:Type}{R:List Value->α->Prop}{k:Nat} (hR:∀c d,R c d->c.length=k):∀{l:List α}{cs:List Value},dQ R cs l->cs.length=l.length * k
 | [],_,h=>by simp[show _=[] from h]
 | _ :: _,_,⟨c,r,e,h1,h2⟩=>by
   have:=dQ.size hR h2;rw[e,jA,hR _ _ h1,this,Aq,rP];omega
theorem Rd.size{h:FH}:∀(s:Sh){cs:List Value}{d:s.den},Rd h s cs d->cs.length=s.size
 | .int _,_,_,x=>by simp[show _=[_] from x]
 | .bool,_,_,x=>by simp[show _=[_] from x]
 | .str,_,_,x=>by simp[show _=[_] from x]
 | .any,_,_,x=>by simp[show _=[_] from x.1]
 | .unit,_,_,x=>by simp[show _=[] from x]
 | .pair a b,_,(_,_),⟨c1,c2,e,h1,h2⟩=>by rw[e,jA,Rd.size a h1,Rd.size b h2]
 | .arr _ s,_,_,⟨e,x⟩=>by rw[dQ.size (λ_ _=>Rd.size s) x,e]
 | .sl s,_,_,⟨v,e,x⟩=>by simp[e]
 | .mp k s,_,_,⟨v,e,x⟩=>by simp[e]
theorem aW(k:IntKind) (n:Int):bM (.int k n):=⟨rfl,rfl⟩
theorem bH(b:Bool):bM (.bool b):=⟨rfl,rfl⟩
theorem dS(b:ByteArray):bM (.string b):=⟨rfl,rfl⟩
theorem mM.bM{α:Type}{h:FH}{R:List Value->α->Prop}{v:Value}{l:List α} (x:mM h R v l):bM v:=by
 rcases x with⟨e,_⟩ | ⟨a,cap,e,_⟩ | ⟨b,off,cap,e,_⟩<;>subst e<;>exact⟨rfl,rfl⟩
theorem dQ.all{α:Type}{R:List Value->α->Prop}{p:Value->Prop} (hR:∀c d,R c d->∀v∈c,p v):∀{l:List α}{cs:List Value},dQ R cs l->∀v∈cs,p v
 | [],_,h,v,hv=>by simp[show _=[] from h]at hv
 | _ :: _,_,⟨c,r,e,h1,h2⟩,v,hv=>by
   rw[e,zO]at hv;exact hv.elim (hR _ _ h1 v) (dQ.all hR h2 v)
theorem Rd.one{h:FH}:∀(s:Sh){cs:List Value}{d:s.den},Rd h s cs d->∀v∈cs,lZ.bM v
 | .int _,_,_,x,v,hv=>by simp[show _=[_] from x]at hv;subst hv;exact aW _ _
 | .bool,_,_,x,v,hv=>by simp[show _=[_] from x]at hv;subst hv;exact bH _
 | .str,_,_,x,v,hv=>by simp[show _=[_] from x]at hv;subst hv;exact dS _
 | .any,_,_,x,v,hv=>by simp[show _=[_] from x.1]at hv;subst hv;exact x.2
 | .unit,_,_,x,v,hv=>by simp[show _=[] from x]at hv
 | .pair a b,_,(_,_),⟨c1,c2,e,h1,h2⟩,v,hv=>by
   rw[e,zO]at hv;exact hv.elim (Rd.one a h1 v) (Rd.one b h2 v)
 | .arr _ s,_,_,⟨_,x⟩,v,hv=>dQ.all (λ_ _=>Rd.one s) x v hv
 | .sl s,_,_,⟨u,e,x⟩,v,hv=>by simp[e]at hv;subst hv;exact x.bM
 | .mp k s,_,_,⟨u,e,x⟩,v,hv=>by simp[e]at hv;subst hv;exact x.bM
theorem dQ.append{α:Type}{R:List Value->α->Prop}:∀{l l':List α}{cs cs':List Value},dQ R cs l->dQ R cs' l'->dQ R (cs++cs') (l++l')
 | [],_,_,_,h,h'=>by simp[show _=[] from h];exact h'
 | _ :: _,_,_,_,⟨c,r,e,h1,h2⟩,h'=>⟨c,r++_,by rw[e,Am],h1,dQ.append h2 h'⟩
theorem dQ.split{α:Type}{R:List Value->α->Prop}{k:Nat} (hR:∀c d,R c d->c.length=k):∀{l l':List α}{cs:List Value},dQ R cs (l++l')->dQ R (cs.take (l.length * k)) l/\dQ R (cs.drop (l.length * k)) l'
 | [],_,_,h=>by simpa[dQ]using h
 | d :: l,l',_,⟨c,r,e,h1,h2⟩=>by
   have hc:=hR _ _ h1;obtain⟨i1,i2⟩:=dQ.split hR h2;have e1:(d :: l).length * k=c.length+l.length * k:=by rw[Aq,rP,hc];omega
   rw[e1,e,A91,Xb];exact⟨⟨c,_,rfl,h1,i1⟩,i2⟩
theorem dQ.get{α:Type}{R:List Value->α->Prop}{k:Nat} (hR:∀c d,R c d->c.length=k):∀{l:List α}{cs:List Value}{j:Nat}{d:α},dQ R cs l->l[j]?=some d->R ((cs.drop (j * k)).take k) d/\(j+1) * k<=cs.length
 | [],_,_,_,_,e=>by simp at e
 | x :: l,_,0,d,⟨c,r,e,h1,h2⟩,hj=>by
   have hc:=hR _ _ h1;simp at hj;subst hj;simp only[Wh,RS];refine⟨?_,?_⟩
   .rw[e,show k=c.length from hc.symm,Nv];exact h1
   .rw[e,jA];omega
 | x :: l,_,j+1,d,⟨c,r,e,h1,h2⟩,hj=>by
   have hc:=hR _ _ h1;have ih:=dQ.get hR h2 (show l[j]?=some d by simpa using hj)
   have e1:(j+1) * k=c.length+j * k:=by rw[rP,hc];omega
   refine⟨?_,?_⟩
   .rw[e,e1,Xb];exact ih.1
   .rw[e,jA,rP,hc];have:=ih.2;omega
theorem At.sub(x:At h b o cs) (i k:Nat):At h b (o+i) ((cs.drop i).take k):=by
 intro j u e;rw[qU]at e;split at e
 .rw[Ea]at e;rw[Rz];exact x _ _ e
 .cases e
abbrev bg:List Sh->Type
 | []=>Unit
 | s :: l=>s.den×bg l
def DV(h:FH) (s:Sh) (d:s.den) (v:Value):Prop:=∃cs,v=mkV s cs/\Rd h s cs d
def wG(h:FH):(ss:List Sh)->bg ss->List Value->Prop
 | [],_,[]=>True
 | s :: l,d,v :: vs=>DV h s d.1 v/\wG h l d.2 vs
 | _,_,_=>False
theorem DV.mono{h h':FH} (le:h.le h'){s:Sh}{d:s.den}{v:Value} (x:DV h s d v):DV h' s d v:=by
 obtain⟨cs,e,r⟩:=x;exact⟨cs,e,r.mono le s⟩
theorem wG.mono{h h':FH} (le:h.le h'):∀{ss:List Sh}{d:bg ss}{vs:List Value},wG h ss d vs->wG h' ss d vs
 | [],_,[],_=>trivial
 | [],_,_ :: _,x=>x.elim
 | _ :: _,_,[],x=>x.elim
 | _ :: _,_,_ :: _,⟨a,b⟩=>⟨a.mono le,wG.mono le b⟩
def capD(h:FH):(ss:List Sh)->bg ss->List Value->Prop
 | [],_,[]=>True
 | s :: l,d,y :: m=>(∃b cs,y=.pointer (some ⟨b,0,none⟩)/\Rd h s cs d.1/\At h b 0 cs)/\capD h l d.2 m
 | _,_,_=>False
theorem capD.mono{h h':FH} (le:h.le h'):∀{ss:List Sh}{d:bg ss}{ys:List Value},capD h ss d ys->capD h' ss d ys
 | [],_,[],_=>trivial
 | [],_,_ :: _,x=>x.elim
 | _ :: _,_,[],x=>x.elim
 | s :: _,_,_ :: _,⟨⟨b,cs,e,r,a⟩,x⟩=>⟨⟨b,cs,e,r.mono le s,a.mono le⟩,capD.mono le x⟩
def HW(h:FH) (w:World):Prop:=∀b o v,h b o=some v->vis w b o=some v
theorem HW.mono(le:h.le h') (x:HW h' w):HW h w:=λb o v e=>x b o v (le b o v e)
structure Gb (w w':World) (row:Option Nat):Prop extends World.grownBy w w' row where
 dr:w.drawn<=w'.drawn
theorem jh(w:World) (o:Obj) (row:Option Nat):Gb w (w.alloc o) row:=⟨World.grownBy_alloc _ _ _,lD _⟩
abbrev ours:Obj->Bool
 | .cells _ _ _=>true
 | .map _ _=>true
 | .mapIter _ _ _ _=>true
 | _=>false
def zW(P:Program) (f:FuncId):Prop:=∃fn,P.funcs[f]?=some fn/\fn.body.isSome=true/\(fn.name == "runtime.NumGoroutine")=false
structure Gs (G:Nat->Prop) (A A':World):Prop where
 os:A'.os=A.os
 tape:A'.tape=A.tape
 output:A'.output=A.output
 size:A.heap.size<=A'.heap.size
 dr:A.drawn<=A'.drawn
 block:∀k,k < A.heap.size->¬G k->A'.heap[k]?=A.heap[k]?
def Own'(G G':Nat->Prop) (A A':World):Prop:=∀b,G' b->b < A'.heap.size/\(G b\/A.heap.size<=b)
def Gives(P:Program) (h:FH) (ss:List Sh) (L:List (bg ss)) (y:Value):Prop:=
 ∃g lb,y=.func (.func g) #[] lb/\zW P g/\∀(l:Nat) (J:Option Nat->(Nat->Prop)->World->Prop) (W:World),
   (∀i G A,J i G A->HW h A)->(∀i G G' A A',J i G A->Gs G A A'->Own' G G' A A'->J i G' A') ->
   (∀i d vs G A,L[i]?=some d->wG h ss d vs->J (some i) G A->YieldAt Fence.wide 0 P l vs.toArray A λe A'=>(∀b,G b->A'.heap[b]?=A.heap[b]?) /\
    ((e=.returned (.bool true)/\J (some (i+1)) G A')\/(e=.returned (.bool false)/\J none G A'))) ->
   J (some 0) (λ_=>False) W->CallsIn Fence.wide 0 P g (#[.func (.yield l) #[] #[]]++lb) W λe W'=>(∃v,e=.returned v)/\∃G,J (some L.length) G W'\/J none G W'
def NK(P:Program) (h:FH) (ss:List Sh) (r:Sh) (pre:bg ss->Prop) (f:bg ss->r.den) (y:Value):Prop:=
 ∃g lb,y=.func (.func g) #[] lb/\zW P g/\∀(d:bg ss) (vs:List Value) (h':FH) (w:World),h.le h'->HW h' w->wG h' ss d vs->pre d ->
   Calls P g (vs.toArray++lb) w λen w'=>∃v,en=.returned v/\DV (λ_ _=>none) r (f d) v/\Below w.heap.size w w'/\w.drawn<=w'.drawn
inductive Au where
 | seq (P:Program) (ss:List Sh) (L:List (bg ss))
 | clo (P:Program) (ss:List Sh) (r:Sh) (pre:bg ss->Prop) (f:bg ss->r.den)
 | NM (l:Nat)
 | KQ (s:Sh) (l:List s.den)
def Au.rel(h:FH):Au->Value->Prop
 | .seq P ss L,y=>Gives P h ss L y
 | .clo P ss r pre f,y=>NK P h ss r pre f y
 | .NM l,y=>y=.func (.yield l) #[] #[]
 | .KQ s l,y=>mM h (Rd h s) y l/\∃a n,y=.slice a n n
theorem Au.tH(le:h.le h'):∀{x:Au}{y:Value},x.rel h y->x.rel h' y
 | .seq P ss L,y,⟨g,lb,e,f,k⟩=>⟨g,lb,e,f,λl J W h1 h2 h3 h4=>k l J W (λi G A a=>(h1 i G A a).mono le) h2 (λi d vs G A hi hd hj=>h3 i d vs G A hi (hd.mono le) hj) h4⟩
 | .clo P ss r pre f,y,⟨g,lb,e,fi,k⟩=>⟨g,lb,e,fi,λd vs h'' w l1=>k d vs h'' w (le.trans l1)⟩
 | .NM l,y,e=>e
 | .KQ s l,y,⟨x,e⟩=>⟨x.mono le λ_ _=>Rd.mono le s,e⟩
theorem Au.Sr:∀{x:Au}{y:Value},x.rel h y->bM y
 | .seq P ss L,y,⟨g,lb,e,_⟩=>by subst e;exact⟨rfl,rfl⟩
 | .clo P ss r pre f,y,⟨g,lb,e,_⟩=>by subst e;exact⟨rfl,rfl⟩
 | .NM l,y,e=>by subst e;exact⟨rfl,rfl⟩
 | .KQ s l,y,⟨x,_⟩=>x.bM
structure MK where
 ss:List Sh
 f:bg ss->Au
 pre:bg ss->Prop:=λ_=>True
inductive SC where
 | v (x:Value)
 | sl (s:Sh) (l:List s.den)
 | fp (s:Sh) (d:s.den)
 | one (s:Sh) (d:s.den)
 | own (i off:Nat)
 | row (i:Nat)
 | iw (i j sz off:Nat)
 | sub (i j:Nat)
 | jC (i j k sz off:Nat)
 | abs (x:Au)
 | junk
inductive SV where
 | c (x:SC)
 | agg (xs:List SC)
 | dat (s:Sh) (d:s.den)
 | und
inductive bK where
 | one (x:SV)
 | l7 (xs:List SV)
variable {K:bK->Prop}
inductive ay where
 | blk (t:TypeId) (cs:List SC)
 | row (t:TypeId) (s:Sh) (l:List s.den)
 | obj (t:TypeId) (s:Sh) (d:s.den)
 | deep (t:TypeId) (s:Sh) (l:List s.den) (tt:TypeId) (e:Sh) (off:Nat) (own:Nat->Bool) (hs:List Nat)
 | mp (k:IntKind) (s:Sh) (l:List (Int×s.den))
 | Gj (k:IntKind) (s:Sh) (l:List (Int×s.den)) (n:Int)
 | it (k:IntKind) (s:Sh) (l dn:List (Int×s.den))
 | Ei (t:TypeId) (k:IntKind) (l:List Int) (base:Nat)
 | Aw (t:TypeId) (s:Sh) (l:List s.den) (off:Nat)
 | gone
variable {T:List ay}{r:ay}
inductive RV where
 | blk (b:Nat)
 | row (v:Value)
 | deep (v:Value) (us:Nat->Value)
 | no
variable {β:List RV}
def ak:Value->Option Nat
 | .slice (some a) _ c=>if c=0 then none else some a.block
 | .map (some b)=>some b
 | _=>none
theorem aJ{g n:Nat}{x:Option Nat} (h:1<=cap):ak (.slice (some ⟨g,o,x⟩) n cap)=some g:=by
 simp[ak];omega
def RV.block:RV->Option Nat
 | .blk b=>some b
 | .row v=>ak v
 | .deep v _=>ak v
 | .no=>none
def RV.sub:RV->Nat->Prop
 | .deep _ us,b=>∃j,ak (us j)=some b
 | _,_=>False
def RV.has(v:RV) (b:Nat):Prop:=v.block=some b\/v.sub b
def RV.sl:RV->Option Value
 | .row v=>some v
 | .deep v _=>some v
 | _=>none
theorem iy{c:Nat}:(RV.blk c).has b↔c=b:=by simp[RV.has,RV.block,RV.sub]
theorem aN:(RV.row v).has b↔ak v=some b:=by simp[RV.has,RV.block,RV.sub]
theorem Gv:¬RV.no.has b:=by simp[RV.has,RV.block,RV.sub]
theorem aI{us:Nat->Value}:(RV.deep v us).has b↔ak v=some b\/∃j,ak (us j)=some b:=by simp[RV.has,RV.block,RV.sub]
theorem mO{g n:Nat}{x:Option Nat} (h:1<=cap):(RV.row (.slice (some ⟨g,o,x⟩) n cap)).block=some g:=aJ (n:=n) h
def bU(h:FH) (β:List RV):SC->Value->Prop
 | .v x,y=>y=x/\bM x
 | .sl s l,y=>mM h (Rd h s) y l
 | .fp s d,y=>∃b o cs,y=.pointer (some ⟨b,o,none⟩)/\Rd h s cs d/\At h b o cs
 | .one s d,y=>Rd h s [y] d
 | .own i off,y=>∃b,β[i]?=some (.blk b)/\y=.pointer (some ⟨b,off,none⟩)
 | .row i,y=>∃v,β[i]?=some v/\v.sl=some y
 | .iw i j sz off,y=>∃v g,β[i]?=some v/\v.block=some g/\y=.pointer (some ⟨g,j * sz+off,none⟩)
 | .sub i j,y=>∃v us,β[i]?=some (.deep v us)/\us j=y
 | .jC i j k sz off,y=>∃v us g,β[i]?=some (.deep v us)/\ak (us j)=some g/\y=.pointer (some ⟨g,k * sz+off,none⟩)
 | .abs x,y=>x.rel h y
 | .junk,_=>True
def bI(h:FH) (β:List RV):SV->Value->Prop
 | .c x,y=>bU h β x y/\bM y
 | .agg xs,y=>∃ys,y=.agg ys.toArray/\aG (λx y=>bU h β x y/\bM y) xs ys
 | .dat s d,y=>s.isAgg=true/\∃cs,y=.agg cs.toArray/\Rd h s cs d
 | .und,y=>y=undef
def gJ(h:FH) (β:List RV):bK->Value->Prop
 | .one x,y=>bI h β x y
 | .l7 xs,y=>∃ys,y=.tuple ys.toArray/\aG (bI h β) xs ys
def jG(h:FH) (w:World) (t:TypeId) (s:Sh) (l:List s.den) (v:Value):Prop:=
 (v=.slice none 0 0/\l=[])\/(∃a,v=.slice (some a) 0 0/\l=[]) \/
  ∃g cap cur,v=.slice (some ⟨g,0,none⟩) l.length cap/\w.heap[g]?=some (.cells cur t (0,0))/\l.length<=cap/\(1<=cap/\cap<=maxLen) /\
    cur.size=cap * s.size/\dQ (Rd h s) (cur.toList.take (l.length * s.size)) l
def jH:(s:Sh)->Nat->(e:Sh)->s.den->List e.den->s.den->Prop
 | .sl s,o,e,_,x,d=>o=0/\∃q:e=s,q▸x=d
 | .pair a b,o,e,(p,q),x,(p',q')=>(a.size<=o/\p=p'/\jH b (o - a.size) e q x q')\/(o < a.size/\q=q'/\jH a o e p x p')
 | _,_,_,_,_,_=>False
def jW:Value:=.slice none 0 0
def vF(h:FH) (w:World) (s:Sh) (tt:TypeId) (e:Sh) (off:Nat) (own hole:Bool) (u:Value) (cs:List Value) (d:s.den):Prop:=match hole with
 | false=>match own with
   | false=>Rd h s cs d/\ak u=none
   | true=>∃d0 x,Rd h s (cs.set off jW) d0/\jH s off e d0 x d/\cs[off]?=some u/\jG h w tt e x u
 | true=>ak u=none/\∃d0 x,Rd h s (cs.set off jW) d0/\jH s off e d0 x d/\∃y,cs[off]?=some y/\bM y
abbrev kE(j:Nat):List Nat->Bool
 | []=>false
 | k :: l=>decide (j=k) || kE j l
def dh(h:FH) (w:World) (t:TypeId) (s:Sh) (l:List s.den) (tt:TypeId) (e:Sh) (off:Nat) (own:Nat->Bool) (hs:List Nat) (v:Value) (us:Nat->Value):Prop:=
 (∀j k b,ak (us j)=some b->ak (us k)=some b->j=k)/\(∀j b,ak (us j)=some b->j < l.length/\∃o,w.heap[b]?=some o/\ours o=true) /\
 ((v=.slice none 0 0/\l=[])\/(∃a,v=.slice (some a) 0 0/\l=[]) \/
   ∃g cap cur,v=.slice (some ⟨g,0,none⟩) l.length cap/\w.heap[g]?=some (.cells cur t (0,0))/\l.length<=cap/\(1<=cap/\cap<=maxLen) /\
     cur.size=cap * s.size/\(∀j,ak (us j)≠some g)/\∀j d,l[j]?=some d->vF h w s tt e off (own j) (kE j hs) (us j) ((cur.toList.drop (j * s.size)).take s.size) d)
def I8{α:Type} (k:IntKind) (R:Value->α->Prop) (es:Array MapEntry) (seen:Array Nat) (dn:List (Int×α)):Prop:=
 seen.toList.Nodup/\aG (λx st=>∃e∈es.toList,e.born=st/\e.key=.int k x.1/\R e.val x.2) dn seen.toList
def DW(h:FH) (s:Sh) (v:Value) (d:s.den):Prop:=∃cs,v=mkV s cs/\Rd h s cs d
theorem DW.mono{h h':FH} (le:h.le h'){s:Sh}{v:Value}{d:s.den}:DW h s v d->DW h' s v d
 | ⟨cs,e,r⟩=>⟨cs,e,r.mono le s⟩
def Sv{α:Type} (h:FH) (k:IntKind) (R:Value->α->Prop) (m:Option Nat) (c:Nat) (seen:Array Nat) (l dn:List (Int×α)):Prop:=
 (m=none/\l=[]/\dn=[])\/∃b es,m=some b/\h b 0=some (zV es c)/\rQ k R es c l/\I8 k R es seen dn/\∀x∈dn,x∈l
theorem I8.mono{α:Type}{k:IntKind}{R R':Value->α->Prop} (hR:∀v d,R v d->R' v d){es:Array MapEntry}{seen:Array Nat}{dn:List (Int×α)} (x:I8 k R es seen dn):I8 k R' es seen dn:=
 ⟨x.1,x.2.mono λ_ _ ⟨e,h1,h2,h3,h4⟩=>⟨e,h1,h2,h3,hR _ _ h4⟩⟩
theorem Sv.mono{α:Type}{h h':FH} (le:h.le h'){k:IntKind}{R R':Value->α->Prop} (hR:∀v d,R v d->R' v d){m:Option Nat}{c:Nat}{seen:Array Nat}{l dn:List (Int×α)}:Sv h k R m c seen l dn->Sv h' k R' m c seen l dn
 | .inl e=>.inl e
 | .inr ⟨b,es,e,q,r,t,z⟩=>.inr ⟨b,es,e,le _ _ _ q,r.mono hR,t.mono hR,z⟩
def Xn(w:World) (t:TypeId) (k:IntKind) (l:List Int) (base:Nat) (v:Value):Prop:=
 (v=.slice none 0 0/\l=[])\/(∃a,v=.slice (some a) 0 0/\l=[]) \/
  ∃g cap cur,v=.slice (some ⟨g,base,none⟩) l.length cap/\w.heap[g]?=some (.cells cur t (0,0))/\l.length<=cap/\(1<=cap/\cap<=maxLen) /\
    cur.size=base+cap/\∀(j:Nat) (n:Int),l[j]?=some n->cur[base+j]?=some (.int k n)
def xR(h:FH) (w:World) (t:TypeId) (s:Sh) (l:List s.den) (off:Nat) (v:Value) (us:Nat->Value):Prop:=
 jG h w t s l v/\off<=l.length/\∃(ad:Option Addr) (cap:Nat),v=.slice ad l.length cap/\l.length<=cap/\us=λ_=>.slice (if cap=off then ad else ad.map (·.add (off * s.size))) (l.length - off) (cap - off)
theorem xR.blk{s:Sh}{l:List s.den}{us:Nat->Value} (x:xR h w t s l off v us) (hb:ak (us j)=some b):ak v=some b:=by
 obtain⟨r,ho,ad,cap,e,hc,eu⟩:=x;subst eu
 by_cases hcap:cap=off
 .have hz:∀(x:Option Addr) (n:Nat),ak (.slice x n 0)=none:=by intro x n;cases x<;>simp[ak]
  rw[hcap,Nat.sub_self,hz]at hb;cases hb
 .rw[if_neg hcap]at hb;cases ad with
  | none=>simp[ak]at hb
  | some a=>
    have e0:(a.add (off * s.size)).block=a.block:=by unfold Addr.add;split<;>rfl
    simp only[Nu,ak]at hb;rw[e];simp only[ak];split at hb
    .cases hb
    .rw[if_neg (by omega)];rw[<-hb,e0]
def Holds(h:FH) (β:List RV) (w:World):ay->RV->Prop
 | .blk t cs,.blk b=>∃ys:List Value,w.heap[b]?=some (.cells ys.toArray t (0,0))/\aG (λx y=>bU h β x y/\bM y) cs ys
 | .row t s l,.row v=>jG h w t s l v
 | .obj t s d,.blk b=>∃ys:List Value,w.heap[b]?=some (.cells ys.toArray t (0,0))/\Rd h s ys d
 | .deep t s l tt e off own hs,.deep v us=>dh h w t s l tt e off own hs v us
 | .mp k s l,.row v=>∃b es c,v=.map (some b)/\w.heap[b]?=some (.map es c)/\rQ k (DW h s) es c l
 | .Gj k s l n,.deep v us=>∃b es c e,v=.map (some b)/\w.heap[b]?=some (.map es c)/\rQ k (DW h s) es c l/\e∈es.toList/\e.key=.int k n/\us=λ_=>.int .i64 e.born
 | .it k s l dn,.blk r=>∃m c seen,w.heap[r]?=some (.mapIter m c seen c)/\Sv h k (DW h s) m c seen l dn
 | .Ei t k l base,.row v=>Xn w t k l base v
 | .Aw t s l off,.deep v us=>xR h w t s l off v us
 | .gone,_=>True
 | _,_=>False
abbrev ay.live:ay->Bool
 | .gone=>false
 | _=>true
structure Base extends World where
 nc:Nat->Obj->Prop
 cell:∀k o,nc k o->ours o=false
 al:Nat->Prop
 up:∀k,heap.size<=k->al k
variable {B:Base}
instance:CoeOut Base World:=⟨Base.toWorld⟩
abbrev Base.of(B:World):Base:={ B with nc:=λ_ _=>False,cell:=λ_ _ h=>h.elim,al:=λk=>B.heap.size<=k,up:=λ_ h=>h }
structure Bw (B:Base) (w:World):Prop where
 os:w.os=B.os
 tape:w.tape=B.tape
 output:w.output=B.output
 size:B.heap.size<=w.heap.size
 block:∀k,k < B.heap.size->¬B.al k->w.heap[k]?=B.heap[k]?
theorem Bw.refl(B:Base):Bw B B.toWorld:=⟨rfl,rfl,rfl,lD _,λ_ _ _=>rfl⟩
theorem Bw.bel{B:World} (x:Bw (Base.of B) w):Below B.heap.size B w:=⟨x.os,x.tape,x.output,x.size,λk hk=>x.block k hk (by show¬B.heap.size<=k;omega)⟩
theorem Bw.below(x:Bw B w) (y:Below w.heap.size w w'):Bw B w':=
 ⟨y.os.trans x.os,y.tape.trans x.tape,y.output.trans x.output,nV x.size y.size,λk hk ha=>(y.block k (Ee hk x.size)).trans (x.block k hk ha)⟩
theorem Bw.grown{row:Option Nat} (x:Bw B w) (hg:World.grownBy w w' row) (hr:∀k,row=some k->B.al k):Bw B w':=
 ⟨hg.os.trans x.os,hg.tape.trans x.tape,hg.output.trans x.output,nV x.size hg.size,λk hk ha=>(hg.block k (Ee hk x.size) (λe=>ha (hr k e.symm))).trans (x.block k hk ha)⟩
structure OK (B:Base) (h0:FH) (T:List ay) (h:FH) (β:List RV) (w:World):Prop where
 below:Bw B w
 dr:B.drawn<=w.drawn
 len:β.length=T.length
 holds:∀(i:Nat) r v,T[i]?=some r->β[i]?=some v->Holds h β w r v
 own:∀(i:Nat) r v b,T[i]?=some r->r.live=true->β[i]?=some v->v.has b->B.al b/\b < w.heap.size/\∀o,h b o=none
 inj:∀(i j:Nat) r r' u v b,T[i]?=some r->r.live=true->T[j]?=some r'->r'.live=true->β[i]?=some u->β[j]?=some v->u.has b->v.has b->i=j
 hle:h0.le h
 hw:∀b o v,h b o=some v->vis w b o=some v
 hg:∀b o v,h b o=some v->h0 b o=some v\/B.al b
 kn:∀k o,B.nc k o->w.heap[k]?=some o
theorem aG.length{α β:Type}{R:α->β->Prop}:∀{l:List α}{m:List β},aG R l m->l.length=m.length
 | [],[],_=>rfl
 | _ :: _,_ :: _,⟨_,b⟩=>by simp[aG.length b]
theorem aG.get{α β:Type}{R:α->β->Prop}:∀{l:List α}{m:List β}{i:Nat}{a:α},aG R l m->l[i]?=some a->∃b,m[i]?=some b/\R a b
 | [],[],_,_,_,e=>by simp at e
 | _ :: _,y :: _,0,_,⟨a,_⟩,e=>by simp at e;subst e;exact⟨y,rfl,a⟩
 | _ :: _,_ :: _,i+1,_,⟨_,b⟩,e=>by simpa using aG.get b (by simpa using e)
def Ext(β β':List RV):Prop:=∀(i:Nat) v,β[i]?=some v->β'[i]?=some v
theorem Ext.refl(β:List RV):Ext β β:=λ_ _ e=>e
theorem Ext.append(β γ:List RV):Ext β (β++γ):=λi v e=>by
 rw[Nq (by exact(fM.1 e).1)];exact e
theorem bU.mono{h h':FH}{β β':List RV} (le:h.le h') (eb:Ext β β'):∀{x:SC}{y:Value},bU h β x y->bU h' β' x y
 | .v _,_,e=>e
 | .sl s _,_,e=>mM.mono le (λ_ _=>Rd.mono le s) e
 | .fp s _,_,⟨b,o,cs,e,r,a⟩=>⟨b,o,cs,e,r.mono le s,a.mono le⟩
 | .one s _,_,r=>Rd.mono le s r
 | .own _ _,_,⟨b,e,e'⟩=>⟨b,eb _ _ e,e'⟩
 | .row _,_,⟨v,e,e'⟩=>⟨v,eb _ _ e,e'⟩
 | .iw _ _ _ _,_,⟨v,g,e,e'⟩=>⟨v,g,eb _ _ e,e'⟩
 | .sub _ _,_,⟨v,us,e,e'⟩=>⟨v,us,eb _ _ e,e'⟩
 | .jC _ _ _ _ _,_,⟨v,us,g,e,e'⟩=>⟨v,us,g,eb _ _ e,e'⟩
 | .abs _,_,e=>Au.tH le e
 | .junk,_,_=>trivial
theorem bI.mono{h h':FH}{β β':List RV} (le:h.le h') (eb:Ext β β'):∀{x:SV}{y:Value},bI h β x y->bI h' β' x y
 | .c _,_,⟨e,o⟩=>⟨e.mono le eb,o⟩
 | .agg _,_,⟨ys,e,a⟩=>⟨ys,e,a.mono λ_ _ ⟨p,q⟩=>⟨p.mono le eb,q⟩⟩
 | .dat s _,_,⟨g,cs,e,r⟩=>⟨g,cs,e,r.mono le s⟩
 | .und,_,e=>e
theorem gJ.mono{h h':FH}{β β':List RV} (le:h.le h') (eb:Ext β β'):∀{x:bK}{y:Value},gJ h β x y->gJ h' β' x y
 | .one _,_,e=>bI.mono le eb e
 | .l7 _,_,⟨ys,e,a⟩=>⟨ys,e,a.mono λ_ _=>bI.mono le eb⟩
theorem Holds.cells:∀{r:ay}{v:RV},Holds h β w r v->r.live=true->v.has b->∃o,w.heap[b]?=some o/\ours o=true
 | .blk _ _,.blk c,⟨ys,e,_⟩,_,hb=>by rw[iy]at hb;subst hb;exact⟨_,e,rfl⟩
 | .obj _ _ _,.blk c,⟨ys,e,_⟩,_,hb=>by rw[iy]at hb;subst hb;exact⟨_,e,rfl⟩
 | .row _ _ _,.row v,.inl ⟨e,_⟩,_,hb=>by rw[aN]at hb;subst e;simp[ak]at hb
 | .row _ _ _,.row v,.inr (.inl ⟨a,e,_⟩),_,hb=>by rw[aN]at hb;subst e;simp[ak]at hb
 | .row _ _ _,.row v,.inr (.inr ⟨g,cap,cur,e,e1,_,e3,_⟩),_,hb=>by
   rw[aN]at hb;subst e;rw[aJ e3.1]at hb;cases hb;exact⟨_,e1,rfl⟩
 | .deep _ _ _ _ _ _ _ _,.deep v us,⟨_,c,e⟩,_,hb=>by
   rw[aI]at hb;rcases hb with hb | ⟨j,hb⟩
   .rcases e with⟨e,_⟩ | ⟨a,e,_⟩ | ⟨g,cap,cur,e,e1,_,e3,_⟩
    .subst e;simp[ak]at hb
    .subst e;simp[ak]at hb
    .subst e;rw[aJ e3.1]at hb;cases hb;exact⟨_,e1,rfl⟩
   .exact(c j b hb).2
 | .mp _ _ _,.row v,⟨b',es,c,e,e1,_⟩,_,hb=>by
   rw[aN]at hb;subst e;simp only[ak]at hb;cases hb;exact⟨_,e1,rfl⟩
 | .Gj _ _ _ _,.deep v us,⟨b',es,c,x,e,e1,_,_,_,eu⟩,_,hb=>by
   rw[aI]at hb;subst e;subst eu;rcases hb with hb | ⟨j,hb⟩
   .simp only[ak]at hb;cases hb;exact⟨_,e1,rfl⟩
   .simp[ak]at hb
 | .it _ _ _ _,.blk c,⟨m,cl,seen,e,_⟩,_,hb=>by rw[iy]at hb;subst hb;exact⟨_,e,rfl⟩
 | .Ei _ _ _ _,.row v,.inl ⟨e,_⟩,_,hb=>by rw[aN]at hb;subst e;simp[ak]at hb
 | .Ei _ _ _ _,.row v,.inr (.inl ⟨a,e,_⟩),_,hb=>by rw[aN]at hb;subst e;simp[ak]at hb
 | .Ei _ _ _ _,.row v,.inr (.inr ⟨g,cap,cur,e,e1,_,e3,_⟩),_,hb=>by
   rw[aN]at hb;subst e;rw[aJ e3.1]at hb;cases hb;exact⟨_,e1,rfl⟩
 | .Aw _ _ _ _,.deep v us,x,_,hb=>by
   have hb:ak v=some b:=by
    rw[aI]at hb;rcases hb with hb | ⟨j,hb⟩
    .exact hb
    .exact x.blk hb
   rcases x.1 with⟨e,_⟩ | ⟨a,e,_⟩ | ⟨g,cap,cur,e,e1,_,e3,_⟩
   .subst e;simp[ak]at hb
   .subst e;simp[ak]at hb
   .subst e;rw[aJ e3.1]at hb;cases hb;exact⟨_,e1,rfl⟩
 | .gone,_,_,hl,_=>by cases hl
theorem OK.kept(ok:OK B h0 T h β w){row:Option Nat} (hg:Gb w w' row)
 (hr:∀b,row=some b->∃o,w.heap[b]?=some o/\ours o=true):∀k o,B.nc k o->w'.heap[k]?=some o:=by
 intro k o hk;have h1:=ok.kn k o hk;refine(hg.block k (xk.1 h1).1 λe=>?_).trans h1
 obtain⟨o',e1,e2⟩:=hr k e.symm;rw[h1]at e1;cases e1;rw[B.cell k o hk]at e2;cases e2
def wW{α:Type}:List (Int×α)->Int->Option α
 | [],_=>none
 | (k,v) :: l,n=>if k=n then some v else wW l n
section
variable {α:Type}
theorem Sz{x:Int×α}{l:List (Int×α)}:BX (x :: l)↔(∀y∈l,x.1 < y.1)/\BX l:=V8
theorem NP{l:List (Int×α)} (h:BX l){d:α}:wW l n=some d↔(n,d)∈l:=by
 induction l with
 | nil=>simp[wW]
 | cons x l ih=>
   obtain⟨k,v⟩:=x;obtain⟨h1,h2⟩:=Sz.1 h;simp only[wW,iV,RU];split
   .rename_i hk;subst hk;constructor
    .intro e;cases e;exact .inl ⟨rfl,rfl⟩
    .rintro(⟨_,e⟩ | hm)
     .rw[e]
     .have:=h1 _ hm;simp at this
   .rename_i hk;rw[ih h2];constructor
    .exact .inr
    .rintro(⟨e,_⟩ | hm)
     .exact absurd e.symm hk
     .exact hm
theorem KR{l:List (Int×α)}:wW l n=none↔∀x∈l,x.1≠n:=by
 induction l with
 | nil=>simp[wW]
 | cons x l ih=>
   obtain⟨k,v⟩:=x;simp only[wW,iV,forall_eq_or_imp];split
   .rename_i hk;simp[hk]
   .rename_i hk;rw[ih];simp[hk]
open Instr in
theorem I9{k:IntKind}{R:Value->α->Prop}{kk:IntKind}{n:Int}:∀{ks:List (Int×α)}{es:List MapEntry} (i:Nat),aG (λx (e:MapEntry)=>e.key=.int k x.1/\R e.val x.2) ks es ->
 (∃j e d,es[j]?=some e/\ks[j]?=some (n,d)/\R e.val d/\e.key=.int k n/\findNow (.int kk) (.int k n) es i=some (some (i+j,e.val)))\/((∀x∈ks,x.1≠n)/\findNow (.int kk) (.int k n) es i=some none)
 | [],[],i,_=>.inr ⟨λx hx=>(by cases hx),rfl⟩
 | (m,d) :: ks,e :: es,i,⟨⟨h1,h2⟩,h3⟩=>by
   have h1:e.key=.int k m:=h1
   by_cases hm:m=n
   .subst hm;refine .inl ⟨0,e,d,rfl,rfl,h2,h1,?_⟩;simp[findNow,sameNow,h1]
   .have hb:sameNow (.int kk) (.int k n) e.key=some false:=by
     rw[h1];simp[sameNow];omega
    rcases I9 (kk:=kk) (n:=n) (i+1) h3 with⟨j,e',d',a1,a2,a3,a4,a5⟩ | ⟨a1,a2⟩
    .refine .inl ⟨j+1,e',d',by simpa using a1,by simpa using a2,a3,a4,?_⟩
     simp only[findNow,hb];rw[a5,show i+1+j=i+(j+1) by omega]
    .refine .inr ⟨λx hx=>?_,?_⟩
     .rcases iV.1 hx with rfl | hx
      .exact hm
      .exact a1 x hx
     .simp only[findNow,hb];exact a2
variable {k:IntKind}{R:Value->α->Prop}{es:Array MapEntry}{c:Nat}{l:List (Int×α)}
theorem rQ.find(m:rQ k R es c l) (kk:IntKind) (n:Int):
 (∃j e d,es[j]?=some e/\wW l n=some d/\R e.val d/\e.key=.int k n/\Instr.findNow (.int kk) (.int k n) es.toList 0=some (some (j,e.val)))\/(wW l n=none/\Instr.findNow (.int kk) (.int k n) es.toList 0=some none):=by
 obtain⟨up,⟨ks,p,al⟩,_,_⟩:=m;rcases I9 (kk:=kk) (n:=n) 0 al with⟨j,e,d,a1,a2,a3,a4,a5⟩ | ⟨a1,a2⟩
 .exact .inl ⟨j,e,d,by simpa using a1,(NP up).2 (p.mem_iff.1 (lI a2)),a3,a4,by simpa using a5⟩
 .exact .inr ⟨KR.2 λx hx=>a1 x (p.mem_iff.2 hx),a2⟩
theorem aG.snoc{α β:Type}{R:α->β->Prop}{a:α}{b:β}:∀{l:List α}{m:List β},aG R l m->R a b->aG R (l++[a]) (m++[b])
 | [],[],_,r=>⟨r,trivial⟩
 | _ :: _,_ :: _,⟨h1,h2⟩,r=>⟨h1,aG.snoc h2 r⟩
theorem rQ.empty:rQ k R #[] 0 ([]:List (Int×α)):=⟨List.Pairwise.nil,⟨[],.refl _,trivial⟩,List.nodup_nil,λe he=>by simp at he⟩
theorem rQ.len(m:rQ k R es c l):es.size=l.length:=by
 obtain⟨up,⟨ks,p,al⟩,st,lt⟩:=m;have:∀{α β:Type}{R:α->β->Prop}{l:List α}{m:List β},aG R l m->l.length=m.length:=by
  intro α β R l
  induction l with
  | nil=>intro m h;cases m with
    | nil=>rfl
    | cons _ _=>exact h.elim
  | cons x l ih=>intro m h;cases m with
    | nil=>exact h.elim
    | cons _ _=>simp[ih h.2]
 have:=this al;rw[p.length_eq]at this;simpa using this.symm
end
theorem jG.move(le:h.le h'){s:Sh}{l:List s.den}:jG h w t s l v->(∀b,ak v=some b->w'.heap[b]?=w.heap[b]?)->jG h' w' t s l v
 | .inl e,_=>.inl e
 | .inr (.inl e),_=>.inr (.inl e)
 | .inr (.inr ⟨g,cap,cur,e,e1,e2,e3,e4,r⟩),k=>.inr (.inr ⟨g,cap,cur,e,by rw[k g (by rw[e];exact aJ e3.1)];exact e1,e2,e3,e4,r.mono λ_ _=>Rd.mono le s⟩)
theorem vF.move{h h':FH}{w w':World} (le:h.le h'){s:Sh}{tt:TypeId}{e:Sh}{off:Nat}{own hole:Bool}{u:Value}{cs:List Value}{d:s.den}
 (x:vF h w s tt e off own hole u cs d) (k:∀b,ak u=some b->w'.heap[b]?=w.heap[b]?):vF h' w' s tt e off own hole u cs d:=by
 unfold vF at *;cases hole with
 | false=>
   cases own with
   | false=>exact⟨x.1.mono le s,x.2⟩
   | true=>
     obtain⟨d0,y,r,p,c,q⟩:=x;exact⟨d0,y,r.mono le s,p,c,q.move le k⟩
 | true=>
   obtain⟨x0,d0,y,rd,p,z⟩:=x;exact⟨x0,d0,y,rd.mono le s,p,z⟩
theorem dh.move{h h':FH}{w w':World} (le:h.le h'){t:TypeId}{s:Sh}{l:List s.den}{tt:TypeId}{e:Sh}{off:Nat}{own:Nat->Bool}{hs:List Nat}{v:Value}{us:Nat->Value}
 (x:dh h w t s l tt e off own hs v us) (k:∀b,(RV.deep v us).has b->w'.heap[b]?=w.heap[b]?):dh h' w' t s l tt e off own hs v us:=by
 obtain⟨x1,x2,x3⟩:=x;refine⟨x1,λj b hb=>⟨(x2 j b hb).1,by rw[k b (aI.2 (.inr ⟨j,hb⟩))];exact(x2 j b hb).2⟩,?_⟩
 rcases x3 with x3 | x3 | ⟨g,cap,cur,e0,e1,e2,e3,e4,e5,e6⟩
 .exact .inl x3
 .exact .inr (.inl x3)
 .refine .inr (.inr ⟨g,cap,cur,e0,?_,e2,e3,e4,e5,λj d hd=>(e6 j d hd).move le λb hb=>k b (aI.2 (.inr ⟨j,hb⟩))⟩)
  rw[k g (aI.2 (.inl (by rw[e0];exact aJ e3.1)))];exact e1
theorem Xn.move{l:List Int}{n:Nat} (x:Xn w t k l n v) (f:∀b,ak v=some b->w'.heap[b]?=w.heap[b]?):Xn w' t k l n v:=by
 rcases x with x | x | ⟨g,cap,cur,e0,e1,e2,e3,e4⟩
 .exact .inl x
 .exact .inr (.inl x)
 .exact .inr (.inr ⟨g,cap,cur,e0,by rw[f g (by rw[e0];exact aJ e3.1)];exact e1,e2,e3,e4⟩)
theorem xR.move{h h':FH}{w w':World} (le:h.le h'){t:TypeId}{s:Sh}{l:List s.den}{off:Nat}{v:Value}{us:Nat->Value} (x:xR h w t s l off v us) (k:∀b,(RV.deep v us).has b->w'.heap[b]?=w.heap[b]?):xR h' w' t s l off v us:=
 ⟨x.1.move le λb hb=>k b (aI.2 (.inl hb)),x.2⟩
theorem Holds.move{h h':FH}{β β':List RV}{w w':World} (le:h.le h') (eb:Ext β β'):
 ∀{r:ay}{v:RV},Holds h β w r v->(r.live=true->∀b,v.has b->w'.heap[b]?=w.heap[b]?)->Holds h' β' w' r v
 | .blk _ _,.blk b,⟨ys,e,a⟩,k=>⟨ys,by rw[k rfl b (iy.2 rfl)];exact e,a.mono λ_ _ ⟨p,q⟩=>⟨p.mono le eb,q⟩⟩
 | .row _ _ _,.row v,x,k=>jG.move le x λb hb=>k rfl b (aN.2 hb)
 | .obj _ s _,.blk b,⟨ys,e,r⟩,k=>⟨ys,by rw[k rfl b (iy.2 rfl)];exact e,r.mono le s⟩
 | .deep _ _ _ _ _ _ _ _,.deep _ _,x,k=>dh.move le x (k rfl)
 | .mp _ s _,.row v,⟨b,es,c,e,e1,m⟩,k=>⟨b,es,c,e,by rw[k rfl b (aN.2 (by rw[e];rfl))];exact e1,m.mono λ_ _=>DW.mono le⟩
 | .Gj _ s _ _,.deep v us,⟨b,es,c,x,e,e1,m,h1,h2,h3⟩,k=>⟨b,es,c,x,e,by rw[k rfl b (aI.2 (.inl (by rw[e];rfl)))];exact e1,m.mono λ_ _=>DW.mono le,h1,h2,h3⟩
 | .it _ s _ _,.blk r,⟨m,c,seen,e,x⟩,k=>⟨m,c,seen,by rw[k rfl r (iy.2 rfl)];exact e,x.mono le λ_ _=>DW.mono le⟩
 | .Ei _ _ _ _,.row v,x,k=>Xn.move x λb hb=>k rfl b (aN.2 hb)
 | .Aw _ _ _ _,.deep _ _,x,k=>xR.move le x (k rfl)
 | .gone,_,_,_=>trivial
theorem aj{l:List α}{x y:α}{i:Nat} (e:(l++[x])[i]?=some y):(i < l.length/\l[i]?=some y)\/(i=l.length/\x=y):=by
 by_cases hi:i < l.length
 .rw[Nq hi]at e;exact .inl ⟨hi,e⟩
 .rw[Gp (by omega)]at e
  by_cases h0:i - l.length=0
  .rw[h0]at e;simp at e;exact .inr ⟨by omega,e⟩
  .rw[wV (by simp;omega)]at e;cases e
theorem frozen_kept{row:Option Nat} (hw:∀b o v,h b o=some v->vis w b o=some v) (hg:Gb w w' row)
 (hr:∀k,row=some k->∀o,h k o=none):∀b o v,h b o=some v->vis w' b o=some v:=by
 intro b o v e;refine(iq (hg.block b (jV (hw b o v e)) λhb=>?_)).trans (hw b o v e)
 have:=hr b hb.symm o;rw[this]at e;cases e
theorem OK.add(ok:OK B h0 T h β w){v:RV}
 (hg:Gb w w' none) (hv:∀b,v.has b->w.heap.size<=b/\b < w'.heap.size) (hold:Holds h (β++[v]) w' r v):
 OK B h0 (T++[r]) h (β++[v]) w' where
 below:=ok.below.grown hg.togrownBy (by intro k e;cases e)
 dr:=nV ok.dr hg.dr
 len:=by simp[ok.len]
 holds:=by
  intro i r' v' e e';rcases aj e with⟨hi,e⟩ | ⟨hi,rfl⟩
  .rcases aj e' with⟨_,e'⟩ | ⟨hj,_⟩
   .refine(ok.holds i r' v' e e').move (FH.le.refl h) (Ext.append _ _) λhl b hb=>?_
    have:=ok.own i r' v' b e hl e' hb;exact hg.block b this.2.1 (by simp)
   .have:=ok.len;omega
  .rcases aj e' with⟨hj,_⟩ | ⟨_,rfl⟩
   .have:=ok.len;omega
   .exact hold
 own:=by
  intro i r' v' b e hl e' hb;rcases aj e' with⟨hj,e'⟩ | ⟨hj,rfl⟩
  .rcases aj e with⟨_,e⟩ | ⟨hi,rfl⟩
   .obtain⟨h1,h2,h3⟩:=ok.own i r' v' b e hl e' hb;exact⟨h1,Ee h2 hg.size,h3⟩
   .have:=ok.len;omega
  .obtain⟨h1,h2⟩:=hv b hb;refine⟨B.up _ (nV ok.below.size h1),h2,λo=>?_⟩
   cases hh:h b o with
   | none=>rfl
   | some u=>have:=jV (ok.hw b o u hh);omega
 inj:=by
  intro i j r1 r2 u v' b ei hl1 ej hl2 eu ev hu hv';have lt:∀(k:Nat) r'' u' b',T[k]?=some r''->r''.live=true->β[k]?=some u'->u'.has b'->b' < w.heap.size:=λk r'' u' b' e1 e2 e3 e4=>(ok.own k r'' u' b' e1 e2 e3 e4).2.1
  have L:=ok.len;rcases aj ei with⟨hi,ei⟩ | ⟨hi,_⟩<;>rcases aj ej with⟨hj,ej⟩ | ⟨hj,_⟩<;>
   rcases aj eu with⟨hi',eu⟩ | ⟨hi',rfl⟩<;>rcases aj ev with⟨hj',ev⟩ | ⟨hj',rfl⟩<;>first
    | omega
    | exact ok.inj i j r1 r2 u v' b ei hl1 ej hl2 eu ev hu hv'
    | (exfalso;have a1:=lt i r1 u b ei hl1 eu hu;have a2:=hv b hv';omega)
    | (exfalso;have a1:=lt j r2 v' b ej hl2 ev hv';have a2:=hv b hu;omega)
 hle:=ok.hle
 hw:=frozen_kept ok.hw hg (by intro k e;cases e)
 hg:=ok.hg
 kn:=ok.kept hg (by intro b e;cases e)
abbrev SC.free(i:Nat):SC->Bool
 | .own j _=>!Nat.beq i j
 | .row j=>!Nat.beq i j
 | .iw j _ _ _=>!Nat.beq i j
 | .sub j _=>!Nat.beq i j
 | .jC j _ _ _ _=>!Nat.beq i j
 | _=>true
theorem bU.set{h:FH}{β:List RV}{i:Nat}{v:RV}:∀{x:SC}{y:Value},x.free i=true->bU h β x y->bU h (β.set i v) x y
 | .v _,_,_,e=>e
 | .sl s _,_,_,e=>e
 | .fp s _,_,_,e=>e
 | .one s _,_,_,e=>e
 | .own j _,_,f,⟨b,e,e'⟩=>⟨b,by rw[jU (by rintro rfl;simp at f)];exact e,e'⟩
 | .row j,_,f,⟨u,e,e'⟩=>⟨u,by rw[jU (by rintro rfl;simp at f)];exact e,e'⟩
 | .iw j _ _ _,_,f,⟨v,g,e,e'⟩=>⟨v,g,by rw[jU (by rintro rfl;simp at f)];exact e,e'⟩
 | .sub j _,_,f,⟨v,us,e,e'⟩=>⟨v,us,by rw[jU (by rintro rfl;simp at f)];exact e,e'⟩
 | .jC j _ _ _ _,_,f,⟨v,us,g,e,e'⟩=>⟨v,us,g,by rw[jU (by rintro rfl;simp at f)];exact e,e'⟩
 | .abs _,_,_,e=>e
 | .junk,_,_,_=>trivial
abbrev qA(i:Nat):List SC->Bool
 | []=>true
 | x :: l=>x.free i && qA i l
theorem aG.set{h:FH}{β:List RV}{i:Nat}{v:RV}:∀{xs:List SC}{ys:List Value},qA i xs=true->aG (λx y=>bU h β x y/\bM y) xs ys->aG (λx y=>bU h (β.set i v) x y/\bM y) xs ys
 | [],[],_,_=>trivial
 | _ :: _,_ :: _,f,⟨a,b⟩=>by
   simp only[qA,A8]at f;exact⟨⟨a.1.set f.1,a.2⟩,aG.set f.2 b⟩
abbrev ay.free(i:Nat):ay->Bool
 | .blk _ cs=>qA i cs
 | _=>true
theorem Holds.set{h:FH}{β:List RV}{w:World}{i:Nat}{v':RV}:∀{r:ay}{v:RV},r.free i=true->Holds h β w r v->Holds h (β.set i v') w r v
 | .blk _ _,.blk _,f,⟨ys,e,a⟩=>⟨ys,e,a.set f⟩
 | .row _ _ _,.row _,_,e=>e
 | .obj _ _ _,.blk _,_,e=>e
 | .deep _ _ _ _ _ _ _ _,.deep _ _,_,e=>e
 | .mp _ _ _,.row _,_,e=>e
 | .Gj _ _ _ _,.deep _ _,_,e=>e
 | .it _ _ _ _,.blk _,_,e=>e
 | .Ei _ _ _ _,.row _,_,e=>e
 | .Aw _ _ _ _,.deep _ _,_,e=>e
 | .gone,_,_,_=>trivial
theorem fH{α:Type}:∀{l:List α}{i:Nat}{u:α},l[i]?=some u->l.set i u=l
 | _ :: _,0,_,e=>by simp at e;simp[e]
 | _ :: _,i+1,_,e=>by simp at e;simp[fH e]
theorem OK.upd(ok:OK B h0 T h β w){i:Nat}{r':ay}{u v:RV}
 (hT:T[i]?=some r) (hl:r.live=true) (hu:β[i]?=some u){row:Option Nat} (hg:Gb w w' row) (iI:∀k,row=some k->u.has k)
 (hv:∀b,v.has b->u.has b\/(w.heap.size<=b/\b < w'.heap.size))
 (free:v=u\/∀j rj,j≠i->T[j]?=some rj->rj.free i=true) (hold:Holds h (β.set i v) w' r' v):
 OK B h0 (T.set i r') h (β.set i v) w':=by
 have hi:i < T.length:=(fM.1 hT).1;have hi':i < β.length:=by rw[ok.len];exact hi
 have xU:∀b,u.has b->B.al b/\b < w.heap.size/\∀o,h b o=none:=λb hb=>ok.own i r u b hT hl hu hb
 have nf:∀b,w.heap.size<=b->∀o,h b o=none:=by
  intro b hb o;cases hh:h b o with
  | none=>rfl
  | some x=>have:=jV (ok.hw b o x hh);omega
 have NQ:∀b,v.has b->B.al b/\b < w'.heap.size/\∀o,h b o=none:=by
  intro b hb;rcases hv b hb with hb' | ⟨h1,h2⟩
  .obtain⟨a1,a2,a3⟩:=xU b hb';exact⟨a1,Ee a2 hg.size,a3⟩
  .exact⟨B.up _ (nV ok.below.size h1),h2,nf b h1⟩
 exact {
  below:=ok.below.grown hg.togrownBy λk e=>(xU k (iI k e)).1
  dr:=nV ok.dr hg.dr
  len:=by simp[ok.len]
  holds:=by
   intro j rj vj ej gK
   by_cases hj:j=i
   .subst hj;rw[mJ hi]at ej;rw[mJ hi']at gK;cases ej;cases gK;exact hold
   .rw[jU (Ne.symm hj)]at ej gK;have h1:=ok.holds j rj vj ej gK;have h2:Holds h (β.set i v) w rj vj:=by
     rcases free with rfl | free
     .rw[fH hu];exact h1
     .exact h1.set (free j rj hj ej)
    refine h2.move (FH.le.refl h) (Ext.refl _) λhlj b hb=>hg.block b (ok.own j rj vj b ej hlj gK hb).2.1 λe=>hj ?_
    exact ok.inj j i rj r vj u b ej hlj hT hl gK hu hb (iI b e.symm)
  own:=by
   intro j rj vj b ej hlj gK hb
   by_cases hj:j=i
   .subst hj;rw[mJ hi']at gK;cases gK;exact NQ b hb
   .rw[jU (Ne.symm hj)]at ej gK;obtain⟨a1,a2,a3⟩:=ok.own j rj vj b ej hlj gK hb;exact⟨a1,Ee a2 hg.size,a3⟩
  inj:=by
   intro j k r1 r2 u1 u2 b e1 l1 e2 l2 e3 e4 b1 b2
   by_cases hj:j=i<;>by_cases hk:k=i
   .rw[hj,hk]
   .exfalso;subst hj;rw[mJ hi']at e3;cases e3;rw[jU (Ne.symm hk)]at e2 e4;have a:=ok.own k r2 u2 b e2 l2 e4 b2;rcases hv b b1 with hb | hb
    .exact hk (ok.inj k j r2 r u2 u b e2 l2 hT hl e4 hu b2 hb)
    .omega
   .exfalso;subst hk;rw[mJ hi']at e4;cases e4;rw[jU (Ne.symm hj)]at e1 e3;have a:=ok.own j r1 u1 b e1 l1 e3 b1;rcases hv b b2 with hb | hb
    .exact hj (ok.inj j k r1 r u1 u b e1 l1 hT hl e3 hu b1 hb)
    .omega
   .rw[jU (Ne.symm hj)]at e1 e3;rw[jU (Ne.symm hk)]at e2 e4;exact ok.inj j k r1 r2 u1 u2 b e1 l1 e2 l2 e3 e4 b1 b2
  hle:=ok.hle
  hw:=frozen_kept ok.hw hg λk e=>(xU k (iI k e)).2.2
  hg:=ok.hg
  kn:=ok.kept hg λb e=>(ok.holds i r u hT hu).cells hl (iI b e) }
theorem OK.forget(ok:OK B h0 T h β w){i:Nat} (hT:T[i]?=some r):
 OK B h0 (T.set i .gone) h β w where
 below:=ok.below
 dr:=ok.dr
 len:=by simp[ok.len]
 holds:=by
  intro j rj vj ej gK
  by_cases hj:j=i
  .subst hj;rw[mJ (fM.1 hT).1]at ej;cases ej;cases vj<;>trivial
  .rw[jU (Ne.symm hj)]at ej;exact ok.holds j rj vj ej gK
 own:=by
  intro j rj vj b ej hl gK hb
  by_cases hj:j=i
  .subst hj;rw[mJ (fM.1 hT).1]at ej;cases ej;cases hl
  .rw[jU (Ne.symm hj)]at ej;exact ok.own j rj vj b ej hl gK hb
 inj:=by
  intro j k r1 r2 u1 u2 b e1 l1 e2 l2 e3 e4 b1 b2;have key:∀{m:Nat}{rm:ay},(T.set i .gone)[m]?=some rm->rm.live=true->T[m]?=some rm:=by
   intro m rm e l
   by_cases hm:m=i
   .subst hm;rw[mJ (fM.1 hT).1]at e;cases e;cases l
   .rw[jU (Ne.symm hm)]at e;exact e
  exact ok.inj j k r1 r2 u1 u2 b (key e1 l1) l1 (key e2 l2) l2 e3 e4 b1 b2
 hle:=ok.hle
 hw:=ok.hw
 hg:=ok.hg
 kn:=ok.kn
def FH.plus(h:FH) (w:World) (g:Nat):FH:=λb o=>if b=g then vis w b o else h b o
theorem OK.freeze(ok:OK B h0 T h β w){i:Nat}{s:Sh}{l:List s.den}
 (hT:T[i]?=some (.row t s l)) (hu:β[i]?=some (.row y)):
 ∃h',h.le h'/\OK B h0 (T.set i .gone) h' β w/\mM h' (Rd h' s) y l:=by
 have hold:=ok.holds i _ _ hT hu;have ok':=ok.forget hT;rcases hold with⟨e,e'⟩ | ⟨a,e,e'⟩ | ⟨g,cap,cur,e,e1,e2,e3,e4,r⟩
 .exact⟨h,FH.le.refl h,ok',.inl ⟨e,e'⟩⟩
 .exact⟨h,FH.le.refl h,ok',.inr (.inl ⟨a,0,e,e',BU _⟩)⟩
 .subst e;have own:=ok.own i _ _ g hT rfl hu (.inl (mO e3.1));have le:h.le (h.plus w g):=by
   intro b o v hb;unfold FH.plus
   by_cases hbg:b=g
   .subst hbg;rw[own.2.2 o]at hb;cases hb
   .rw[if_neg hbg];exact hb
  refine⟨h.plus w g,le,?_,?_⟩
  .have key:∀{m:Nat}{rm:ay},(T.set i .gone)[m]?=some rm->rm.live=true->T[m]?=some rm/\m≠i:=by
    intro m rm e l
    by_cases hm:m=i
    .subst hm;rw[mJ (fM.1 hT).1]at e;cases e;cases l
    .rw[jU (Ne.symm hm)]at e;exact⟨e,hm⟩
   exact {
    below:=ok'.below
    dr:=ok'.dr
    len:=ok'.len
    holds:=λj rj vj ej gK=>(ok'.holds j rj vj ej gK).move le (Ext.refl _) λ_ _ _=>rfl
    own:=by
     intro j rj vj b ej hl gK hb;obtain⟨ejT,hj⟩:=key ej hl;obtain⟨a1,a2,a3⟩:=ok'.own j rj vj b ej hl gK hb;refine⟨a1,a2,λo=>?_⟩
     unfold FH.plus;rw[if_neg,a3 o];rintro rfl;exact hj (ok.inj j i _ _ _ _ _ ejT hl hT rfl gK hu hb (.inl (mO e3.1)))
    inj:=ok'.inj
    hle:=ok.hle.trans le
    hw:=by
     intro b o v hb;unfold FH.plus at hb;split at hb
     .exact hb
     .exact ok.hw b o v hb
    hg:=by
     intro b o v hb;unfold FH.plus at hb;split at hb
     .rename_i hbg;subst hbg;exact .inr own.1
     .exact ok.hg b o v hb
    kn:=ok.kn }
  .refine .inr (.inr ⟨g,0,cap,rfl,e2,e3.2,_,r.mono λ_ _=>Rd.mono le s,?_⟩)
   intro j u hj;unfold FH.plus;rw[if_pos rfl,xw];have h1:=dQ.all (λ_ _=>Rd.one s) r u (lI hj)
   rw[qU]at hj;split at hj
   .exact kP e1 (by simpa using hj) h1.2
   .cases hj
theorem OK.KT(ok:OK B h0 T h β w){i g:Nat}{v:RV} (hT:T[i]?=some r) (hl:r.live=true) (hu:β[i]?=some v) (hv:v.has g):
 h.le (h.plus w g)/\OK B h0 (T.set i .gone) (h.plus w g) β w:=by
 have ok':=ok.forget hT;have own:=ok.own i r v g hT hl hu hv;have le:h.le (h.plus w g):=by
  intro b o v hb;unfold FH.plus
  by_cases hbg:b=g
  .subst hbg;rw[own.2.2 o]at hb;cases hb
  .rw[if_neg hbg];exact hb
 have key:∀{m:Nat}{rm:ay},(T.set i .gone)[m]?=some rm->rm.live=true->T[m]?=some rm/\m≠i:=by
  intro m rm e l
  by_cases hm:m=i
  .subst hm;rw[mJ (fM.1 hT).1]at e;cases e;cases l
  .rw[jU (Ne.symm hm)]at e;exact⟨e,hm⟩
 exact⟨le,{
  below:=ok'.below
  dr:=ok'.dr
  len:=ok'.len
  holds:=λj rj vj ej gK=>(ok'.holds j rj vj ej gK).move le (Ext.refl _) λ_ _ _=>rfl
  own:=by
   intro j rj vj b ej hl' gK hb;obtain⟨ejT,hj⟩:=key ej hl';obtain⟨a1,a2,a3⟩:=ok'.own j rj vj b ej hl' gK hb;refine⟨a1,a2,λo=>?_⟩
   unfold FH.plus;rw[if_neg,a3 o];rintro rfl;exact hj (ok.inj j i _ _ _ _ _ ejT hl' hT hl gK hu hb hv)
  inj:=ok'.inj
  hle:=ok.hle.trans le
  hw:=by
   intro b o v hb;unfold FH.plus at hb;split at hb
   .exact hb
   .exact ok.hw b o v hb
  hg:=by
   intro b o v hb;unfold FH.plus at hb;split at hb
   .rename_i hbg;subst hbg;exact .inr own.1
   .exact ok.hg b o v hb
  kn:=ok.kn }⟩
open Classical in
noncomputable def FH.jE (h:FH) (w:World) (S:Nat->Prop):FH:=λb o=>if S b then vis w b o else h b o
theorem OK.qC(ok:OK B h0 T h β w){i:Nat}{v:RV} (hT:T[i]?=some r) (hl:r.live=true) (hu:β[i]?=some v):
 h.le (h.jE w v.has)/\OK B h0 (T.set i .gone) (h.jE w v.has) β w/\∀b,v.has b->∀o u,vis w b o=some u->h.jE w v.has b o=some u:=by
 have ok':=ok.forget hT;have own:=λg hv=>ok.own i r v g hT hl hu hv
 have le:h.le (h.jE w v.has):=by
  intro b o x hb;unfold FH.jE
  by_cases hbg:v.has b
  .rw[(own b hbg).2.2 o]at hb;cases hb
  .rw[if_neg hbg];exact hb
 have key:∀{m:Nat}{rm:ay},(T.set i .gone)[m]?=some rm->rm.live=true->T[m]?=some rm/\m≠i:=by
  intro m rm e l
  by_cases hm:m=i
  .subst hm;rw[mJ (fM.1 hT).1]at e;cases e;cases l
  .rw[jU (Ne.symm hm)]at e;exact⟨e,hm⟩
 exact⟨le,{
  below:=ok'.below
  dr:=ok'.dr
  len:=ok'.len
  holds:=λj rj vj ej gK=>(ok'.holds j rj vj ej gK).move le (Ext.refl _) λ_ _ _=>rfl
  own:=by
   intro j rj vj b ej hl' gK hb;obtain⟨ejT,hj⟩:=key ej hl';obtain⟨a1,a2,a3⟩:=ok'.own j rj vj b ej hl' gK hb;refine⟨a1,a2,λo=>?_⟩
   unfold FH.jE;rw[if_neg,a3 o];exact λhg=>hj (ok.inj j i _ _ _ _ _ ejT hl' hT hl gK hu hb hg)
  inj:=ok'.inj
  hle:=ok.hle.trans le
  hw:=by
   intro b o x hb;unfold FH.jE at hb;split at hb
   .exact hb
   .exact ok.hw b o x hb
  hg:=by
   intro b o x hb;unfold FH.jE at hb;split at hb
   .rename_i hbg;exact .inr (own b hbg).1
   .exact ok.hg b o x hb
  kn:=ok.kn },λb hb o u hc=>by
   unfold FH.jE;rw[if_pos hb];exact hc⟩
abbrev cnd{α:Type}:Bool->α->α->α
 | true,a,_=>a
 | false,_,b=>b
abbrev tl{α:Type}:Array α->List α | ⟨l⟩=>l
abbrev bW{α:Type}:List α->Nat->Option α
 | [],_=>none
 | x :: _,0=>some x
 | _ :: l,n+1=>bW l n
abbrev aC{α:Type}:List α->Nat
 | []=>0
 | _ :: l=>Nat.succ (aC l)
abbrev snoc{α:Type}:List α->α->List α
 | [],y=>[y]
 | x :: l,y=>x :: snoc l y
abbrev bF{α:Type}:List α->Nat->α->List α
 | [],_,_=>[]
 | _ :: l,0,y=>y :: l
 | x :: l,n+1,y=>x :: bF l n y
abbrev mP{α:Type}:Nat->List α->List α
 | 0,_=>[]
 | _+1,[]=>[]
 | n+1,x :: l=>x :: mP n l
abbrev Ej{α:Type}:Nat->List α->List α
 | 0,l=>l
 | _+1,[]=>[]
 | n+1,_ :: l=>Ej n l
abbrev dw{α:Type}:List α->List α->List α
 | [],m=>m
 | x :: l,m=>x :: dw l m
abbrev dB{α β:Type} (f:α->β):List α->List β
 | []=>[]
 | x :: l=>f x :: dB f l
theorem bY{α:Type}:∀(l:List α) (n:Nat),bW l n=l[n]?
 | [],_=>rfl
 | _ :: _,0=>rfl
 | _ :: l,n+1=>by simpa using bY l n
theorem aK{α:Type}:∀(l:List α),aC l=l.length
 | []=>rfl
 | _ :: l=>by simp[aC,aK l]
theorem dY{α:Type} (y:α):∀(l:List α),snoc l y=l++[y]
 | []=>rfl
 | _ :: l=>by simp[snoc,dY y l]
theorem cO{α:Type} (y:α):∀(l:List α) (n:Nat),bF l n y=l.set n y
 | [],_=>rfl
 | _ :: _,0=>rfl
 | _ :: l,n+1=>by simp[bF,cO y l n]
theorem gY{α:Type}:∀(n:Nat) (l:List α),mP n l=l.take n
 | 0,_=>by simp
 | _+1,[]=>rfl
 | n+1,_ :: l=>by simp[gY n l]
theorem mQ{α:Type}:∀(n:Nat) (l:List α),Ej n l=l.drop n
 | 0,_=>rfl
 | _+1,[]=>rfl
 | n+1,_ :: l=>by simp[mQ n l]
theorem dI{α:Type} (m:List α):∀(l:List α),dw l m=l++m
 | []=>rfl
 | _ :: l=>by simp[dw,dI m l]
theorem xA{α β:Type} (f:α->β):∀(l:List α),dB f l=l.map f
 | []=>rfl
 | _ :: l=>by simp[dB,xA f l]
abbrev Gd:=List (Nat×Bool)
variable {G:Gd}
abbrev lb:List Bool->Nat->Bool
 | [],_=>false
 | b :: _,0=>b
 | _ :: l,n+1=>lb l n
abbrev Em(gl:List Bool) (i:Nat) (w:Bool):Bool:=cnd w (lb gl i) (!(lb gl i))
abbrev gv(gl:List Bool):Gd->Bool
 | []=>true
 | (i,w) :: g=>match g with
   | []=>Em gl i w
   | _ :: _=>Em gl i w && gv gl g
abbrev KU:Bool->Bool->Bool
 | true,b=>b
 | false,b=>!b
abbrev bJ:Bool->Bool->Bool
 | true,b=>b
 | false,_=>false
abbrev gmem(i:Nat) (w:Bool):Gd->Bool
 | []=>false
 | (j,u) :: g=>cnd (bJ (Nat.beq i j) (KU w u)) true (gmem i w g)
abbrev mW:Gd->Gd->Bool
 | [],_=>true
 | (i,w) :: g,g'=>bJ (gmem i w g') (mW g g')
theorem nX(gl:List Bool) (i:Nat) (w:Bool) (g:Gd):gv gl ((i,w) :: g)=(Em gl i w && gv gl g):=by
 cases g<;>simp[gv]
theorem BZ{a b:Bool} (h:KU a b=true):a=b:=by cases a<;>cases b<;>simp_all[KU]
theorem au(a b:Bool):bJ a b=(a && b):=by cases a<;>rfl
theorem iF(c:Bool) (a b:α):cnd c a b=if c=true then a else b:=by cases c<;>rfl
theorem Ja{gl:List Bool}{i:Nat}{w:Bool}:∀{g:Gd},gmem i w g=true->gv gl g=true->Em gl i w=true
 | [],h,_=>by simp[gmem]at h
 | (j,u) :: g,h,k=>by
   rw[nX,A8]at k;unfold gmem at h;rw[iF]at h;split at h
   .rename_i hc;rw[au,A8]at hc;have e1:i=j:=by simpa using hc.1
    rw[e1,BZ hc.2];exact k.1
   .exact Ja h k.2
theorem dJ{gl:List Bool}:∀{g g':Gd},mW g g'=true->gv gl g'=true->gv gl g=true
 | [],_,_,_=>rfl
 | (i,w) :: g,g',h,k=>by
   unfold mW at h;rw[au,A8]at h;rw[nX,A8];exact⟨Ja h.1 k,dJ h.2 k⟩
structure St where
 env:List (Nat×Gd×bK)
 T:List (Gd×ay)
 gl:List Bool
 gs:List (Nat×Nat)
variable {s:St}
abbrev dZ:List (Nat×Gd×bK)->Nat->Option (Gd×bK)
 | [],_=>none
 | (k,e) :: l,n=>cnd (Nat.beq k n) (some e) (dZ l n)
abbrev NR:List (Nat×Nat)->Nat->Option Nat
 | [],_=>none
 | (k,e) :: l,n=>cnd (Nat.beq k n) (some e) (NR l n)
abbrev SA:List (Nat×Nat)->Nat->List (Nat×Nat)
 | [],_=>[]
 | (k,e) :: l,n=>cnd (Nat.beq k n) (SA l n) ((k,e) :: SA l n)
abbrev eff(gl:List Bool):List (Gd×ay)->List ay
 | []=>[]
 | (g,r) :: l=>(cnd (gv gl g) r .gone) :: eff gl l
theorem aP(k:Nat) (e:Gd×bK) (l:List (Nat×Gd×bK)) (n:Nat):dZ ((k,e) :: l) n=if k=n then some e else dZ l n:=by
 simp only[dZ,iF]
 by_cases h:k=n<;>simp[h]
theorem xW(k e:Nat) (l:List (Nat×Nat)) (n:Nat):NR ((k,e) :: l) n=if k=n then some e else NR l n:=by
 simp only[NR,iF]
 by_cases h:k=n<;>simp[h]
theorem vG:∀(l:List (Nat×Nat)) (d n i:Nat),NR (SA l d) n=some i->n≠d/\NR l n=some i
 | [],_,_,_,h=>by simp[SA,NR]at h
 | (k,e) :: l,d,n,i,h=>by
   unfold SA at h;rw[iF]at h;split at h
   .rename_i hk;have hk:k=d:=by simpa using hk
    obtain⟨h1,h2⟩:=vG l d n i h;refine⟨h1,?_⟩;rw[xW,if_neg (by rintro rfl;exact h1 hk)];exact h2
   .rename_i hk;have hk:k≠d:=by simpa using hk
    rw[xW]at h ⊢
    split at h
    .rename_i hn;subst hn;exact⟨hk,by rw[if_pos rfl];exact h⟩
    .rename_i hn;rw[if_neg hn];exact vG l d n i h
theorem eF(gl:List Bool):∀(T:List (Gd×ay)),(eff gl T).length=T.length
 | []=>rfl
 | (_,_) :: l=>by simp[eff,eF gl l]
theorem gQ(gl:List Bool):∀(T:List (Gd×ay)) (i:Nat),(eff gl T)[i]?=(T[i]?).map λp=>cnd (gv gl p.1) p.2 .gone
 | [],_=>by simp[eff]
 | (_,_) :: _,0=>by simp[eff]
 | (_,_) :: l,i+1=>by simpa[eff]using gQ gl l i
theorem dW(gl:List Bool) (g:Gd) (r:ay):∀(T:List (Gd×ay)),eff gl (snoc T (g,r))=eff gl T++[cnd (gv gl g) r .gone]
 | []=>rfl
 | (_,_) :: l=>by simp[snoc,eff,dW gl g r l]
theorem dK(gl:List Bool) (g:Gd) (r:ay):∀(T:List (Gd×ay)) (i:Nat),eff gl (bF T i (g,r))=(eff gl T).set i (cnd (gv gl g) r .gone)
 | [],_=>rfl
 | (_,_) :: l,0=>by simp[bF,eff]
 | (_,_) :: l,i+1=>by simp[bF,eff,dK gl g r l i]
abbrev pz(n:Nat):Gd->Bool
 | []=>true
 | (i,_) :: g=>bJ (Nat.ble (i+1) n) (pz n g)
theorem Cb{b:Bool}:∀{gl:List Bool}{i:Nat},i < gl.length->lb (snoc gl b) i=lb gl i
 | _ :: _,0,_=>rfl
 | _ :: l,i+1,h=>by simpa[snoc,lb]using Cb (gl:=l) (i:=i) (by simpa using h)
theorem Cc{b:Bool}:∀{gl:List Bool},lb (snoc gl b) gl.length=b
 | []=>rfl
 | _ :: l=>by simpa[snoc,lb]using Cc (gl:=l)
theorem xB{b:Bool}{gl:List Bool}:∀{G:Gd},pz gl.length G=true->gv (snoc gl b) G=gv gl G
 | [],_=>rfl
 | (i,w) :: g,h=>by
   simp only[pz,au,A8]at h;have hi:i < gl.length:=by have:=kM h.1;omega
   rw[nX,nX,xB h.2];unfold Em;rw[Cb hi]
theorem tJ{n m:Nat} (h:n<=m):∀{G:Gd},pz n G=true->pz m G=true
 | [],_=>rfl
 | (i,w) :: g,k=>by
   simp only[pz,au,A8]at k ⊢;refine⟨?_,tJ h k.2⟩;have:=kM k.1;exact RJ (by omega)
def Gw(B:Base) (a:Act):Prop:=∃X:List Nat,a.defers=X.map (λD=>({ target:=.collected D,args:=#[] }:Deferred))/\X.Nodup/\∀D∈X,B.al D/\B.nc D (.deferred (some []))
theorem Gw.nil(h:a.defers=[]):Gw B a:=⟨[],by simpa using h,List.nodup_nil,λD hD=>by cases hD⟩
theorem Gw.same{a':Act} (h:Gw B a) (e:a'.defers=a.defers):Gw B a':=by unfold Gw;rw[e];exact h
structure Sat (N:Nat) (B:Base) (h0:FH) (s:St) (h:FH) (β:List RV) (w:World) (a:Act):Prop where
 ok:OK B h0 (eff s.gl s.T) h β w
 env:∀t G e,dZ s.env t=some (G,e)->∃z,a.tmps[t]?=some z/\(gv s.gl G=true->gJ h β e z)/\(gv s.gl G=false->z=undef)
 gs:∀d i,NR s.gs d=some i->∃G b,dZ s.env d=some (G,.one (.c (.v (.bool b))))/\i < s.gl.length/\lb s.gl i=b
 defers:Gw B a
 sz:a.tmps.size=N
 gb:∀t G e,dZ s.env t=some (G,e)->pz s.gl.length G=true
 gT:∀p∈s.T,pz s.gl.length p.1=true
abbrev xX:Value->Bool
 | .agg _=>false
 | .tuple _=>false
 | _=>true
theorem mX(h:xX v=true):bM v:=by
 cases v<;>first | (simp[xX]at h;done) | exact⟨rfl,rfl⟩
abbrev St.put(s:St) (d:Option Nat) (G:Gd) (e:bK):St:=match d with
 | some d=>{ s with env:=(d,G,e) :: s.env,gs:=SA s.gs d }
 | none=>s
theorem Act.SB(a:Act) (d:Nat) (v:Value) (t:Nat) (hd:d < a.tmps.size):(a.put (some d) v).tmps[t]?=if t=d then some v else a.tmps[t]?:=by
 simp only[Act.put,Array.getElem?_setIfInBounds]
 by_cases h:d=t
 .subst h;simp[hd]
 .simp[h,Ne.symm h]
theorem Sat.put{N:Nat}{B:Base}{h0:FH}{s:St}{h:FH}{β:List RV}{w:World}{a:Act} (ah:Sat N B h0 s h β w a){d:Option Nat}{G:Gd}{e:bK}{z:Value}
 (hd:∀k,d=some k->k < N) (hG:pz s.gl.length G=true) (h1:gv s.gl G=true->gJ h β e z) (h2:gv s.gl G=false->z=undef):Sat N B h0 (s.put d G e) h β w (a.put d z):=by
 cases d with
 | none=>exact ah
 | some d=>
   have hd':d < a.tmps.size:=by rw[ah.sz];exact hd d rfl
   refine⟨ah.ok,?_,?_,ah.defers.same rfl,by simp[Act.put,ah.sz],?_,ah.gT⟩
   .intro t G' e' ht;rw[Act.SB a d z t hd'];simp only[St.put]at ht;rw[aP]at ht
    by_cases hdt:d=t
    .subst hdt;simp at ht;obtain⟨rfl,rfl⟩:=ht;exact⟨z,by simp,h1,h2⟩
    .rw[if_neg hdt]at ht;obtain⟨y,q1,q2⟩:=ah.env t G' e' ht;exact⟨y,by rw[if_neg (Ne.symm hdt)];exact q1,q2⟩
   .intro k i hk;simp only[St.put]at hk;obtain⟨hne,hk⟩:=vG _ _ _ _ hk;obtain⟨G',b,q1,q2⟩:=ah.gs k i hk;refine⟨G',b,?_,q2⟩;simp only[St.put];rw[aP,if_neg (Ne.symm hne)];exact q1
   .intro t G' e' ht;simp only[St.put]at ht;rw[aP]at ht;split at ht
    .cases ht;exact hG
    .exact ah.gb _ _ _ ht
theorem Sat.mem(ah:Sat N B h0 s h β w a){T':List (Gd×ay)}{β':List RV}
 (ok:OK B h0 (eff s.gl T') h' β' w') (le:h.le h') (eb:Ext β β') (gT:∀p∈T',pz s.gl.length p.1=true):Sat N B h0 { s with T:=T' } h' β' w' a:=by
 refine⟨ok,?_,ah.gs,ah.defers,ah.sz,ah.gb,gT⟩;intro t G e ht;obtain⟨z,q1,q2,q3⟩:=ah.env t G e ht;exact⟨z,q1,λhg=>(q2 hg).mono le eb,q3⟩
abbrev flat:(s:Sh)->s.den->Option (List SC)
 | .int k,n=>some [.v (.int k n)]
 | .bool,b=>some [.v (.bool b)]
 | .str,b=>some [.v (.string b)]
 | .any,v=>none
 | .sl s,l=>some [.sl s l]
 | .unit,_=>some []
 | .pair a b,d=>match flat a d.1 with
   | some x=>match flat b d.2 with
     | some y=>some (dw x y)
     | none=>none
   | none=>none
 | .arr _ _,_=>none
 | .mp k s,l=>some [.one (.mp k s) l]
abbrev fO:(s:Sh)->s.den->SV
 | .int k,n=>.c (.v (.int k n))
 | .bool,b=>.c (.v (.bool b))
 | .str,b=>.c (.v (.string b))
 | .any,v=>.c (.v v)
 | .sl s,l=>.c (.sl s l)
 | .unit,_=>.agg []
 | .pair a b,d=>match flat (.pair a b) d with
   | some xs=>.agg xs
   | none=>.dat (.pair a b) d
 | .arr n s,d=>.dat (.arr n s) d
 | .mp k s,l=>.c (.one (.mp k s) l)
theorem aG.cat{α β:Type}{R:α->β->Prop}:∀{a:List α}{b:List β}{c:List α}{d:List β},aG R a b->aG R c d->aG R (a++c) (b++d)
 | [],[],_,_,_,h=>h
 | _ :: _,_ :: _,_,_,⟨x,y⟩,h=>⟨x,aG.cat y h⟩
theorem dR{h:FH}{β:List RV}:∀(s:Sh){d:s.den}{cs:List Value}{xs:List SC},flat s d=some xs->Rd h s cs d->aG (λx y=>bU h β x y/\bM y) xs cs
 | .int k,n,cs,xs,e,r=>by simp[flat]at e;subst e;rw[show cs=[_] from r];exact⟨⟨⟨rfl,aW _ _⟩,aW _ _⟩,trivial⟩
 | .bool,n,cs,xs,e,r=>by simp[flat]at e;subst e;rw[show cs=[_] from r];exact⟨⟨⟨rfl,bH _⟩,bH _⟩,trivial⟩
 | .str,n,cs,xs,e,r=>by simp[flat]at e;subst e;rw[show cs=[_] from r];exact⟨⟨⟨rfl,dS _⟩,dS _⟩,trivial⟩
 | .any,n,cs,xs,e,r=>by simp[flat]at e
 | .sl s,l,cs,xs,e,r=>by
   simp[flat]at e;subst e;obtain⟨v,rfl,r⟩:=r;exact⟨⟨r,r.bM⟩,trivial⟩
 | .unit,n,cs,xs,e,r=>by simp[flat]at e;subst e;rw[show cs=[] from r];trivial
 | .arr _ _,n,cs,xs,e,r=>by simp[flat]at e
 | .mp k s,l,cs,xs,e,r=>by
   simp[flat]at e;subst e;obtain⟨v,rfl,r⟩:=r;exact⟨⟨⟨v,rfl,r⟩,r.bM⟩,trivial⟩
 | .pair a b,(x,y),cs,xs,e,r=>by
   obtain⟨c1,c2,rfl,r1,r2⟩:=r;unfold flat at e;split at e
   .rename_i p hp;split at e
    .rename_i q hq;cases e;rw[dI];exact aG.cat (dR a hp r1) (dR b hq r2)
    .cases e
   .cases e
theorem gq:∀(s:Sh){d:s.den}{cs:List Value},Rd h s cs d->bI h β (fO s d) (mkV s cs)
 | .int k,n,cs,r=>by rw[show cs=[_] from r];exact⟨⟨rfl,aW _ _⟩,aW _ _⟩
 | .bool,n,cs,r=>by rw[show cs=[_] from r];exact⟨⟨rfl,bH _⟩,bH _⟩
 | .str,n,cs,r=>by rw[show cs=[_] from r];exact⟨⟨rfl,dS _⟩,dS _⟩
 | .any,n,cs,r=>by rw[show cs=[_] from r.1];exact⟨⟨rfl,r.2⟩,r.2⟩
 | .sl s,l,cs,r=>by
   obtain⟨v,rfl,r⟩:=r;exact⟨r,r.bM⟩
 | .unit,n,cs,r=>by rw[show cs=[] from r];exact⟨[],rfl,trivial⟩
 | .arr n s,l,cs,r=>⟨rfl,cs,rfl,r⟩
 | .mp k s,l,cs,r=>by
   obtain⟨v,rfl,r⟩:=r;exact⟨⟨v,rfl,r⟩,r.bM⟩
 | .pair a b,d,cs,r=>by
   have e:fO (.pair a b) d=match flat (.pair a b) d with
    | some xs=>.agg xs
    | none=>.dat (.pair a b) d:=rfl
   rw[e];cases hx:flat (.pair a b) d with
   | some xs=>exact⟨cs,rfl,dR (.pair a b) hx r⟩
   | none=>exact⟨rfl,cs,rfl,r⟩
abbrev xY:IntKind->Nat
 | .i8=>0 | .i16=>1 | .i32=>2 | .i64=>3 | .u8=>4 | .u16=>5 | .u32=>6 | .u64=>7
theorem lJ{a b:IntKind} (h:Nat.beq (xY a) (xY b)=true):a=b:=by cases a<;>cases b<;>first | rfl | (simp[xY]at h)
abbrev nY:(a b:Sh)->Bool
 | .int k,b=>match b with | .int k'=>Nat.beq (xY k) (xY k') | _=>false
 | .bool,b=>match b with | .bool=>true | _=>false
 | .str,b=>match b with | .str=>true | _=>false
 | .any,b=>match b with | .any=>true | _=>false
 | .unit,b=>match b with | .unit=>true | _=>false
 | .sl s,b=>match b with | .sl s'=>nY s s' | _=>false
 | .pair s t,b=>match b with | .pair s' t'=>bJ (nY s s') (nY t t') | _=>false
 | .arr n s,b=>match b with | .arr n' s'=>bJ (Nat.beq n n') (nY s s') | _=>false
 | .mp k s,b=>match b with | .mp k' s'=>bJ (Nat.beq (xY k) (xY k')) (nY s s') | _=>false
theorem lK:∀{a b:Sh},nY a b=true->a=b
 | .int k,b,h=>by
   cases b with
   | int k'=>rw[lJ (show Nat.beq (xY k) (xY k')=true from h)]
   | _=>simp[nY]at h
 | .bool,b,h=>by cases b<;>simp[nY]at h;rfl
 | .str,b,h=>by cases b<;>simp[nY]at h;rfl
 | .any,b,h=>by cases b<;>simp[nY]at h;rfl
 | .unit,b,h=>by cases b<;>simp[nY]at h;rfl
 | .sl s,b,h=>by cases b<;>simp[nY]at h;rw[lK h]
 | .pair s t,b,h=>by
   cases b<;>simp[nY]at h;rw[au,A8]at h;rw[lK h.1,lK h.2]
 | .arr n s,b,h=>by
   cases b with
   | arr n' s'=>
     have h:bJ (Nat.beq n n') (nY s s')=true:=h;rw[au,A8]at h;have e1:n=n':=fC h.1;rw[lK h.2,e1]
   | _=>simp[nY]at h
 | .mp k s,b,h=>by
   cases b with
   | mp k' s'=>
     have h:bJ (Nat.beq (xY k) (xY k')) (nY s s')=true:=h;rw[au,A8]at h;rw[lK h.2,lJ h.1]
   | _=>simp[nY]at h
abbrev gU(s:Sh) (d:s.den) (s':Sh):Option s'.den:=
 match h:nY s s' with
 | true=>some ((lK h)▸d)
 | false=>none
theorem iJ{s s':Sh}{d:s.den}{d':s'.den} (h:gU s d s'=some d'):∃e:s=s',e▸d=d':=by
 unfold gU at h;split at h
 .rename_i hs;exact⟨lK hs,by simpa using h⟩
 .cases h
abbrev xZ{α:Type} (f:List SC->Option (α×List SC)):Nat->List SC->Option (List α×List SC)
 | 0,xs=>some ([],xs)
 | n+1,xs=>match f xs with
   | some p=>match xZ f n p.2 with
     | some q=>some (p.1 :: q.1,q.2)
     | none=>none
   | none=>none
abbrev takeD:(s:Sh)->List SC->Option (s.den×List SC)
 | .int k,xs=>match xs with
   | .v (.int k' n) :: r=>cnd (Nat.beq (xY k) (xY k')) (some (n,r)) none
   | _=>none
 | .bool,xs=>match xs with
   | .v (.bool b) :: r=>some (b,r)
   | _=>none
 | .str,xs=>match xs with
   | .v (.string b) :: r=>some (b,r)
   | _=>none
 | .any,xs=>match xs with
   | .v x :: r=>some (x,r)
   | _=>none
 | .sl s,xs=>match xs with
   | .sl s' l :: r=>match gU (.sl s') l (.sl s) with
     | some l'=>some (l',r)
     | none=>none
   | .v (.slice none 0 0) :: r=>some ([],r)
   | _=>none
 | .unit,xs=>some ((),xs)
 | .pair a b,xs=>match takeD a xs with
   | some p=>match takeD b p.2 with
     | some q=>some ((p.1,q.1),q.2)
     | none=>none
   | none=>none
 | .arr n s,xs=>xZ (takeD s) n xs
 | .mp k s,xs=>match xs with
   | .one s' l :: r=>match gU s' l (.mp k s) with
     | some l'=>some (l',r)
     | none=>none
   | .v (.map none) :: r=>some ([],r)
   | _=>none
theorem En{h:FH}{β:List RV}{α:Type}{R:List Value->α->Prop}{f:List SC->Option (α×List SC)}
 (hf:∀{xs:List SC}{ys:List Value}{d:α}{r:List SC},f xs=some (d,r)->aG (λx y=>bU h β x y/\bM y) xs ys->∃c1 c2,ys=c1++c2/\R c1 d/\aG (λx y=>bU h β x y/\bM y) r c2):
 ∀{n:Nat}{xs:List SC}{ys:List Value}{l:List α}{r:List SC},xZ f n xs=some (l,r)->aG (λx y=>bU h β x y/\bM y) xs ys ->
 ∃c1 c2,ys=c1++c2/\(l.length=n/\dQ R c1 l)/\aG (λx y=>bU h β x y/\bM y) r c2
 | 0,xs,ys,l,r,e,a=>by
   simp only[xZ]at e;cases e;exact⟨[],ys,rfl,⟨rfl,rfl⟩,a⟩
 | n+1,xs,ys,l,r,e,a=>by
   unfold xZ at e;split at e
   .rename_i p hp;split at e
    .rename_i q hq;cases e;obtain⟨c1,c2,rfl,r1,a1⟩:=hf (show f xs=some (p.1,p.2) from hp) a
     obtain⟨c3,c4,rfl,⟨l2,r2⟩,a2⟩:=En hf (show xZ f n p.2=some (q.1,q.2) from hq) a1
     exact⟨c1++c3,c4,by rw[Am],⟨by simp[l2],c1,c3,rfl,r1,r2⟩,a2⟩
    .cases e
   .cases e
theorem kS{h:FH}{β:List RV}:∀(s:Sh){xs:List SC}{ys:List Value}{d:s.den}{r:List SC},takeD s xs=some (d,r)->aG (λx y=>bU h β x y/\bM y) xs ys ->
 ∃c1 c2,ys=c1++c2/\Rd h s c1 d/\aG (λx y=>bU h β x y/\bM y) r c2
 | .int k,xs,ys,d,r,e,a=>by
   unfold takeD at e;split at e
   .rename_i k' n r'
    match ys,a with
    | y :: ys,⟨⟨q1,q2⟩,q3⟩=>
      rw[iF]at e;split at e
      .rename_i hk;have:=lJ hk;subst this;cases e;exact⟨[y],ys,rfl,by rw[q1.1];rfl,q3⟩
      .cases e
   .cases e
 | .bool,xs,ys,d,r,e,a=>by
   unfold takeD at e;split at e
   .match ys,a with
    | y :: ys,⟨⟨q1,q2⟩,q3⟩=>cases e;exact⟨[y],ys,rfl,by rw[q1.1];rfl,q3⟩
   .cases e
 | .str,xs,ys,d,r,e,a=>by
   unfold takeD at e;split at e
   .match ys,a with
    | y :: ys,⟨⟨q1,q2⟩,q3⟩=>cases e;exact⟨[y],ys,rfl,by rw[q1.1];rfl,q3⟩
   .cases e
 | .any,xs,ys,d,r,e,a=>by
   unfold takeD at e;split at e
   .match ys,a with
    | y :: ys,⟨⟨q1,q2⟩,q3⟩=>cases e;exact⟨[y],ys,rfl,by rw[q1.1];exact⟨rfl,q1.2⟩,q3⟩
   .cases e
 | .sl s,xs,ys,d,r,e,a=>by
   unfold takeD at e;split at e
   .rename_i s' l r'
    match ys,a with
    | y :: ys,⟨⟨q1,q2⟩,q3⟩=>
      split at e
      .rename_i l' hl;cases e;obtain⟨es,el⟩:=iJ hl;cases es;simp only at el;subst el;exact⟨[y],ys,rfl,⟨y,rfl,q1⟩,q3⟩
      .cases e
   .match ys,a with
    | y :: ys,⟨⟨q1,q2⟩,q3⟩=>cases e;exact⟨[y],ys,rfl,⟨y,rfl,.inl ⟨q1.1,rfl⟩⟩,q3⟩
   .cases e
 | .unit,xs,ys,d,r,e,a=>by
   simp[takeD]at e;subst e;exact⟨[],ys,rfl,rfl,a⟩
 | .pair s t,xs,ys,d,r,e,a=>by
   unfold takeD at e;split at e
   .rename_i p hp;split at e
    .rename_i q hq;cases e;obtain⟨c1,c2,rfl,r1,a1⟩:=kS s (show takeD s xs=some (p.1,p.2) from hp) a
     obtain⟨c3,c4,rfl,r2,a2⟩:=kS t (show takeD t p.2=some (q.1,q.2) from hq) a1
     exact⟨c1++c3,c4,by rw[Am],⟨c1,c3,rfl,r1,r2⟩,a2⟩
    .cases e
   .cases e
 | .arr n s,xs,ys,d,r,e,a=>En (λe a=>kS s e a) (show xZ (takeD s) n xs=some (d,r) from e) a
 | .mp k s,xs,ys,d,r,e,a=>by
   unfold takeD at e;split at e
   .rename_i s' l r'
    match ys,a with
    | y :: ys,⟨⟨q1,q2⟩,q3⟩=>
      split at e
      .rename_i l' hl;cases e;obtain⟨es,el⟩:=iJ hl;cases es;simp only at el;subst el;exact⟨[y],ys,rfl,q1,q3⟩
      .cases e
   .match ys,a with
    | y :: ys,⟨⟨q1,q2⟩,q3⟩=>cases e;exact⟨[y],ys,rfl,⟨y,rfl,.inl ⟨q1.1,rfl⟩⟩,q3⟩
   .cases e
abbrev kF:SV->Option (List SC)
 | .c x=>some [x]
 | .agg xs=>some xs
 | _=>none
abbrev Wi(s':Sh) (d:s'.den):(s:Sh)->Option s.den
 | .pair a .unit=>match a.isAgg with
   | true=>match gU s' d a with
     | some x=>some (x,())
     | none=>none
   | false=>none
 | _=>none
abbrev aaZ(s':Sh) (d:s'.den) (s:Sh):Option s.den:=match gU s' d s with
 | some x=>some x
 | none=>Wi s' d s
abbrev toDat(s:Sh) (v:SV):Option s.den:=match v with
 | .dat s' d=>aaZ s' d s
 | .und=>none
 | .c x=>match s.isAgg with
   | true=>none
   | false=>match takeD s [x]with
     | some (d,[])=>some d
     | _=>none
 | .agg xs=>match s.isAgg with
   | false=>none
   | true=>match takeD s xs with
     | some (d,[])=>some d
     | _=>none
theorem toDat_ok{s:Sh}{v:SV}{d:s.den} (e:toDat s v=some d) (c:bI h β v y):∃cs,y=mkV s cs/\Rd h s cs d:=by
 unfold toDat at e;split at e
 .unfold aaZ at e;split at e
  .rename_i x hx;cases e;obtain⟨es,ed⟩:=iJ hx;subst es;simp only at ed;subst ed;obtain⟨hg,cs,rfl,r⟩:=c;exact⟨cs,by simp[mkV,hg],r⟩
  .unfold Wi at e;split at e
   .split at e
    .split at e
     .rename_i x hx;cases e;obtain⟨es,ed⟩:=iJ hx;subst es;simp only at ed;subst ed;obtain⟨hg,cs,rfl,r⟩:=c;exact⟨cs,by simp[mkV,Sh.isAgg],cs,[],by simp,r,rfl⟩
     .cases e
    .cases e
   .cases e
 .cases e
 .split at e
  .cases e
  .rename_i hs;split at e
   .rename_i hd;cases e;obtain⟨c1,c2,e1,r,a⟩:=kS (β:=β) (ys:=[y]) s hd ⟨c,trivial⟩;have:c2=[]:=by cases c2 with | nil=>rfl | cons _ _=>exact a.elim
    subst this;rw[KE]at e1;subst e1;exact⟨[y],by simp[mkV,hs],r⟩
   .cases e
 .split at e
  .cases e
  .rename_i hs;split at e
   .rename_i hd;cases e;obtain⟨ys,rfl,a⟩:=c;obtain⟨c1,c2,e1,r,a'⟩:=kS (β:=β) s hd a;have:c2=[]:=by cases c2 with | nil=>rfl | cons _ _=>exact a'.elim
    subst this;rw[KE]at e1;subst e1;exact⟨ys,by simp[mkV,hs],r⟩
   .cases e
abbrev isU:Sh->Bool
 | .unit=>true
 | _=>false
abbrev nZ:(s:Sh)->s.den->Nat->Nat->Bool->Option (Sigma Sh.den)
 | .pair a b,d,off,k,ag=>match bJ (Nat.beq off 0) (bJ (Nat.beq (a.size+b.size) k) ag) with
   | true=>match bJ (isU b) a.isAgg with
     | true=>some ⟨a,d.1⟩
     | false=>some ⟨.pair a b,d⟩
   | false=>match Nat.ble (off+1) a.size with
     | true=>nZ a d.1 off k ag
     | false=>nZ b d.2 (off - a.size) k ag
 | s,d,off,k,ag=>match bJ (Nat.beq off 0) (bJ (Nat.beq s.size k) (KU s.isAgg ag)) with
   | true=>some ⟨s,d⟩
   | false=>none
theorem qE{h:FH}:∀(s:Sh){d:s.den}{cs:List Value}{off k:Nat}{ag:Bool}{p:Sigma Sh.den},nZ s d off k ag=some p->Rd h s cs d ->
 Rd h p.1 ((cs.drop off).take k) p.2/\p.1.size=k/\p.1.isAgg=ag/\off+k<=cs.length
 | .pair a b,(x,y),cs,off,k,ag,p,e,r=>by
   unfold nZ at e;split at e
   .rename_i hc;rw[au,au]at hc;simp at hc;obtain⟨rfl,hk,rfl⟩:=hc;split at e
    .rename_i hu;rw[au,A8]at hu;cases e;obtain⟨hu,ha⟩:=hu;cases b<;>simp[isU]at hu;obtain⟨c1,c2,e1,r1,r2⟩:=r;have r2:c2=[]:=r2;subst r2;have hs:=Rd.size a r1;simp only[Sh.size,KN]at hk;have e1:cs=c1:=by simpa using e1
     subst e1;refine⟨?_,hk,ha,by omega⟩
     simp only[RS];rw[Gh (by omega)];exact r1
    cases e;have hs:=Rd.size (.pair a b) r;have:cs.length=k:=by rw[hs];exact hk
    refine⟨?_,hk,rfl,by omega⟩
    simp only[RS];rw[Gh (by omega)];exact r
   .obtain⟨c1,c2,rfl,r1,r2⟩:=r;have h1:=Rd.size a r1;split at e
    .rename_i hl;have hl:off < a.size:=by have:=kM hl;omega
     obtain⟨q1,q2,q3,q4⟩:=qE a e r1;refine⟨?_,q2,q3,by rw[jA];omega⟩
     rw[A88 (by omega),A80 (by rw[xq];omega)];exact q1
    .rename_i hl;have hl:a.size<=off:=by
      have:¬off+1<=a.size:=λhh=>by rw[RJ hh]at hl;cases hl
      omega
     obtain⟨q1,q2,q3,q4⟩:=qE b e r2;refine⟨?_,q2,q3,by rw[jA];omega⟩
     rw[List.drop_append,RI (by omega),IZ,h1];exact q1
 | .int q,d,cs,off,k,ag,p,e,r=>leaf (.int q) e r
 | .bool,d,cs,off,k,ag,p,e,r=>leaf .bool e r
 | .str,d,cs,off,k,ag,p,e,r=>leaf .str e r
 | .any,d,cs,off,k,ag,p,e,r=>leaf .any e r
 | .sl s,d,cs,off,k,ag,p,e,r=>leaf (.sl s) e r
 | .unit,d,cs,off,k,ag,p,e,r=>leaf .unit e r
 | .arr n s,d,cs,off,k,ag,p,e,r=>leaf (.arr n s) e r
 | .mp n s,d,cs,off,k,ag,p,e,r=>leaf (.mp n s) e r
where
 leaf {h:FH} (s:Sh){d:s.den}{cs:List Value}{off k:Nat}{ag:Bool}{p:Sigma Sh.den} (e:(match bJ (Nat.beq off 0) (bJ (Nat.beq s.size k) (KU s.isAgg ag)) with
  | true=>some (⟨s,d⟩:Sigma Sh.den)
  | false=>none)=some p) (r:Rd h s cs d):Rd h p.1 ((cs.drop off).take k) p.2/\p.1.size=k/\p.1.isAgg=ag/\off+k<=cs.length:=by
  split at e
  .rename_i hc;rw[au,au,A8,A8]at hc;obtain⟨h1,h2,h3⟩:=hc;have h1:off=0:=by simpa using h1
   have h2:s.size=k:=by simpa using h2
   subst h1;cases e;have hs:=Rd.size s r;refine⟨?_,h2,BZ h3,by omega⟩
   simp only[RS];rw[Gh (by omega)];exact r
  .cases e
abbrev dflt:(s:Sh)->s.den
 | .int _=>(0:Int)
 | .bool=>false
 | .str=>ByteArray.empty
 | .any=>undef
 | .sl _=>[]
 | .pair a b=>(dflt a,dflt b)
 | .unit=>()
 | .arr _ _=>[]
 | .mp _ _=>[]
theorem dQ.set{α:Type}{R:List Value->α->Prop}{k:Nat} (hR:∀c d,R c d->c.length=k):∀{l:List α}{cs:List Value}{j:Nat}{d:α}{c:List Value},dQ R cs l->j < l.length->R c d ->
 dQ R (cs.take (j * k)++c++cs.drop (j * k+k)) (l.set j d)
 | [],_,_,_,_,_,h,_=>by simp at h
 | x :: l,_,0,d,c,⟨c0,r,e,h1,h2⟩,_,hc=>by
   have h0:=hR _ _ h1;simp only[Wh,KG,IZ,xw,List.set_cons_zero];refine⟨c,_,rfl,hc,?_⟩;rw[e,<-h0,List.drop_left];exact h2
 | x :: l,_,j+1,d,c,⟨c0,r,e,h1,h2⟩,hj,hc=>by
   have h0:=hR _ _ h1;have ih:=dQ.set hR h2 (by simpa using hj) hc
   simp only[List.set_cons_succ];have e1:(j+1) * k=c0.length+j * k:=by rw[rP,h0];omega
   refine⟨c0,_,?_,h1,ih⟩;rw[e,e1,A91,show c0.length+j * k+k=c0.length+(j * k+k) by omega,Xb,Am,Am,Am]
theorem Az{sh:Sh}{d:sh.den} (r:Rd h sh cs d):(mkV sh cs).cells=cs.toArray:=by
 unfold mkV;cases hs:sh.isAgg with
 | true=>rfl
 | false=>
   have:=Rd.size sh r;have h1:sh.size=1:=by cases sh<;>first | rfl | simp[Sh.isAgg]at hs
   rw[h1]at this
   match cs,this,r with
   | [c],_,r=>exact(Rd.one sh r c (by simp)).1
abbrev lM:(s:Sh)->s.den->Nat->Option (Sigma λe:Sh=>List e.den×Nat×Nat)
 | .pair a b,(x,y),off=>match Nat.ble (off+1) a.size with
   | true=>lM a x off
   | false=>lM b y (off - a.size)
 | .arr n e,l,off=>match Nat.ble (off+1) e.size with
   | true=>some ⟨e,l,n,off⟩
   | false=>none
 | _,_,_=>none
theorem tK{h:FH}:∀(s:Sh){d:s.den}{cs:List Value}{off:Nat}{q:Sigma λe:Sh=>List e.den×Nat×Nat},lM s d off=some q->Rd h s cs d ->
 ∃base,off=base+q.2.2.2/\q.2.1.length=q.2.2.1/\base+q.2.2.1 * q.1.size<=cs.length/\dQ (Rd h q.1) ((cs.drop base).take (q.2.2.1 * q.1.size)) q.2.1
 | .pair a b,(x,y),cs,off,q,e,r=>by
   obtain⟨c1,c2,rfl,r1,r2⟩:=r;have h1:=Rd.size a r1;unfold lM at e;split at e
   .rename_i gX;obtain⟨base,e1,e2,e3,e4⟩:=tK a e r1;refine⟨base,e1,e2,by rw[jA];omega,?_⟩
    rw[A88 (by omega),A80 (by rw[xq];omega)]
    exact e4
   .rename_i gX;have gX:¬off+1<=a.size:=λhh=>by rw[RJ hh]at gX;cases gX
    obtain⟨base,e1,e2,e3,e4⟩:=tK b e r2;refine⟨c1.length+base,by omega,e2,by rw[jA];omega,?_⟩
    rw[Xb];exact e4
 | .arr n s,l,cs,off,q,e,r=>by
   unfold lM at e;split at e
   .cases e;refine⟨0,by simp,r.1,?_,?_⟩
    .rw[dQ.size (λ_ _=>Rd.size s) r.2,r.1];simp
    .have:=dQ.size (λ_ _=>Rd.size s) r.2
     rw[r.1]at this;show dQ (Rd h s) ((cs.drop 0).take (n * s.size)) l;rw[RS,Gh (by omega)]
     exact r.2
   .cases e
 | .int _,_,_,_,_,e,_=>by simp[lM]at e
 | .bool,_,_,_,_,e,_=>by simp[lM]at e
 | .str,_,_,_,_,e,_=>by simp[lM]at e
 | .any,_,_,_,_,e,_=>by simp[lM]at e
 | .unit,_,_,_,_,e,_=>by simp[lM]at e
 | .sl _,_,_,_,_,e,_=>by simp[lM]at e
 | .mp _ _,_,_,_,_,e,_=>by simp[lM]at e
abbrev tN:(s:Sh)->s.den->Nat->Nat->SV->Option s.den
 | .pair a b,(p,q),off,k,v=>match bJ (Nat.beq off 0) (Nat.beq (a.size+b.size) k) with
   | true=>match toDat (.pair a b) v with
     | some x=>some x
     | none=>match Nat.ble 1 a.size with
       | true=>match tN a p 0 k v with
         | some x=>some (x,q)
         | none=>none
       | false=>none
   | false=>match Nat.ble (off+1) a.size with
     | true=>match tN a p off k v with
       | some x=>some (x,q)
       | none=>none
     | false=>match tN b q (off - a.size) k v with
       | some x=>some (p,x)
       | none=>none
 | s,_,off,k,v=>match bJ (Nat.beq off 0) (Nat.beq s.size k) with
   | true=>toDat s v
   | false=>none
def RD(h:FH) (s:Sh) (cs:List Value) (off k:Nat) (y:Value) (d':s.den):Prop:=
 ∃cs',y.cells=cs'.toArray/\cs'.length=k/\(∀u∈cs',bM u)/\off+k<=cs.length/\Rd h s (cs.take off++cs'++cs.drop (off+k)) d'
theorem vH{s:Sh}{d d':s.den}{k:Nat}{v:SV} (hk:s.size=k) (e:toDat s v=some d') (r:Rd h s cs d) (c:bI h β v y):RD h s cs 0 k y d':=by
 obtain⟨cs',ey,r'⟩:=toDat_ok e c;have h1:=Rd.size s r;have h2:=Rd.size s r';refine⟨cs',by rw[ey];exact Az r',by omega,Rd.one s r',by omega,?_⟩
 rw[KG,IZ,xw,RI (by omega),KE]
 exact r'
theorem x9{a b:Sh}{x:a.den}{y0:b.den}{c1 c2:List Value}{k:Nat} (u:RD h a c1 off k y x) (r2:Rd h b c2 y0):RD h (.pair a b) (c1++c2) off k y (x,y0):=by
 obtain⟨cs',e1,e2,e3,e4,e5⟩:=u;refine⟨cs',e1,e2,e3,by rw[jA];omega,_,c2,?_,e5,r2⟩
 rw[A80 (by omega),A88 (by omega)]
 simp only[Am]
theorem AA{a b:Sh}{x:a.den}{y0:b.den}{c1 c2:List Value}{k:Nat} (hs:c1.length<=off) (r1:Rd h a c1 x) (u:RD h b c2 (off - c1.length) k y y0):RD h (.pair a b) (c1++c2) off k y (x,y0):=by
 obtain⟨cs',e1,e2,e3,e4,e5⟩:=u;refine⟨cs',e1,e2,e3,by rw[jA];omega,c1,_,?_,r1,e5⟩
 have o:off=c1.length+(off - c1.length):=by omega
 generalize off - c1.length=m at o;subst o;rw[A91,show c1.length+m+k=c1.length+(m+k) by omega,Xb]
 simp only[Am]
theorem jM(s:Sh){d d':s.den}{k:Nat}{v:SV} (e:(match bJ (Nat.beq off 0) (Nat.beq s.size k) with | true=>toDat s v | false=>none)=some d') (r:Rd h s cs d) (c:bI h β v y):RD h s cs off k y d':=by
 split at e
 .rename_i hz;rw[au,A8]at hz;have h1:off=0:=fC hz.1;have h2:s.size=k:=fC hz.2;subst h1;exact vH h2 e r c
 .cases e
theorem kG{h:FH}{β:List RV}:∀(s:Sh){d d':s.den}{cs:List Value}{off k:Nat}{v:SV}{y:Value},tN s d off k v=some d'->Rd h s cs d->bI h β v y->RD h s cs off k y d'
 | .pair a b,(x,y0),d',cs,off,k,v,y,e,r,c=>by
   unfold tN at e;split at e
   .rename_i hz;rw[au,A8]at hz;have h1:off=0:=fC hz.1;have h2:a.size+b.size=k:=fC hz.2;subst h1;split at e
    .rename_i x' hx;cases e;exact vH (s:=.pair a b) h2 hx r c
    .split at e
     .split at e
      .rename_i x' hx;cases e;obtain⟨c1,c2,rfl,r1,r2⟩:=r;exact x9 (kG a hx r1 c) r2
      .cases e
     .cases e
   .obtain⟨c1,c2,rfl,r1,r2⟩:=r;have h1:=Rd.size a r1;split at e
    .split at e
     .rename_i x' hx;cases e;exact x9 (kG a hx r1 c) r2
     .cases e
    .rename_i gX;have gX:¬off+1<=a.size:=λhh=>by rw[RJ hh]at gX;cases gX
     split at e
     .rename_i x' hx;cases e;refine AA (by omega) r1 ?_
      rw[h1];exact kG b hx r2 c
     .cases e
 | .int q,d,d',cs,off,k,v,y,e,r,c=>jM (.int q) e r c
 | .bool,d,d',cs,off,k,v,y,e,r,c=>jM .bool e r c
 | .str,d,d',cs,off,k,v,y,e,r,c=>jM .str e r c
 | .any,d,d',cs,off,k,v,y,e,r,c=>jM .any e r c
 | .unit,d,d',cs,off,k,v,y,e,r,c=>jM .unit e r c
 | .sl q,d,d',cs,off,k,v,y,e,r,c=>jM (.sl q) e r c
 | .arr n q,d,d',cs,off,k,v,y,e,r,c=>jM (.arr n q) e r c
 | .mp n q,d,d',cs,off,k,v,y,e,r,c=>jM (.mp n q) e r c
abbrev vJ:(s:Sh)->s.den->Nat->Nat->Nat->Nat->SV->Option (Nat×s.den)
 | .pair a b,(p,q),off,j,sz,k,v=>match Nat.ble (off+1) a.size with
   | true=>match vJ a p off j sz k v with
     | some (m,x)=>some (m,(x,q))
     | none=>none
   | false=>match vJ b q (off - a.size) j sz k v with
     | some (m,x)=>some (m,(p,x))
     | none=>none
 | .arr n e,l,off,j,sz,k,v=>match bJ (Nat.beq off 0) (bJ (Nat.beq e.size sz) (Nat.beq sz k)) with
   | true=>match toDat e v with
     | some x=>some (n,l.set j x)
     | none=>none
   | false=>none
 | _,_,_,_,_,_,_=>none
theorem Ce{h:FH}{β:List RV}:∀(s:Sh){d:s.den}{cs:List Value}{off j sz k:Nat}{v:SV}{y:Value}{p:Nat×s.den},vJ s d off j sz k v=some p->Rd h s cs d->bI h β v y->j < p.1->RD h s cs (j * sz+off) k y p.2
 | .pair a b,(x,y0),cs,off,j,sz,k,v,y,p,e,r,c,hj=>by
   obtain⟨c1,c2,rfl,r1,r2⟩:=r;have h1:=Rd.size a r1;unfold vJ at e;split at e
   .split at e
    .rename_i m x' hq;cases e;exact x9 (Ce a (p:=(m,x')) hq r1 c hj) r2
    .cases e
   .rename_i gX;have gX:¬off+1<=a.size:=λhh=>by rw[RJ hh]at gX;cases gX
    split at e
    .rename_i m x' hq;cases e;refine AA (by omega) r1 ?_
     have:=Ce b (p:=(m,x')) hq r2 c hj
     rwa [show j * sz+(off - a.size)=j * sz+off - c1.length by omega]at this
    .cases e
 | .arr n s,l,cs,off,j,sz,k,v,y,p,e,r,c,hj=>by
   unfold vJ at e;split at e
   .rename_i hz;rw[au,au,A8,A8]at hz;have z1:off=0:=fC hz.1;have z2:s.size=sz:=fC hz.2.1;have z3:sz=k:=fC hz.2.2;subst z1;subst z3;subst z2;split at e
    .rename_i x hx;cases e;obtain⟨cs',ey,r'⟩:=toDat_ok hx c;have hs:=Rd.size s r';have hl:=dQ.size (λ_ _=>Rd.size s) r.2
     have hj:j < l.length:=by have:=r.1;omega
     have hm:(j+1) * s.size<=l.length * s.size:=tC _ hj;rw[rP]at hm;refine⟨cs',by rw[ey];exact Az r',hs,Rd.one s r',by omega,by rw[xu];exact r.1,?_⟩
     exact dQ.set (λ_ _=>Rd.size s) r.2 hj r'
    .cases e
   .cases e
 | .int _,_,_,_,_,_,_,_,_,_,e,_,_,_=>by simp[vJ]at e
 | .bool,_,_,_,_,_,_,_,_,_,e,_,_,_=>by simp[vJ]at e
 | .str,_,_,_,_,_,_,_,_,_,e,_,_,_=>by simp[vJ]at e
 | .any,_,_,_,_,_,_,_,_,_,e,_,_,_=>by simp[vJ]at e
 | .unit,_,_,_,_,_,_,_,_,_,e,_,_,_=>by simp[vJ]at e
 | .sl _,_,_,_,_,_,_,_,_,_,e,_,_,_=>by simp[vJ]at e
 | .mp _ _,_,_,_,_,_,_,_,_,_,e,_,_,_=>by simp[vJ]at e
abbrev zX:(s:Sh)->s.den->Nat->(e:Sh)->Option (List e.den)
 | .sl s,d,o,e=>match Nat.beq o 0 with
   | true=>gU (.sl s) d (.sl e)
   | false=>none
 | .pair a b,d,o,e=>match Nat.ble a.size o with
   | true=>zX b d.2 (o - a.size) e
   | false=>zX a d.1 o e
 | .int _,_,_,_=>none
 | .bool,_,_,_=>none
 | .str,_,_,_=>none
 | .any,_,_,_=>none
 | .unit,_,_,_=>none
 | .arr _ _,_,_,_=>none
 | .mp _ _,_,_,_=>none
abbrev zY:(s:Sh)->s.den->Nat->(e:Sh)->List e.den->Option s.den
 | .sl s,_,o,e,x=>match Nat.beq o 0 with
   | true=>gU (.sl e) x (.sl s)
   | false=>none
 | .pair a b,d,o,e,x=>match Nat.ble a.size o with
   | true=>match zY b d.2 (o - a.size) e x with
     | some y=>some (d.1,y)
     | none=>none
   | false=>match zY a d.1 o e x with
     | some y=>some (y,d.2)
     | none=>none
 | .int _,_,_,_,_=>none
 | .bool,_,_,_,_=>none
 | .str,_,_,_,_=>none
 | .any,_,_,_,_=>none
 | .unit,_,_,_,_=>none
 | .arr _ _,_,_,_,_=>none
 | .mp _ _,_,_,_,_=>none
theorem qF{a:Nat} (h:Nat.ble a b=false):b < a:=by
 rcases RX b a with hh | hh
 .exact hh
 .rw[RJ hh]at h;cases h
theorem Ci:∀{s:Sh}{d:s.den}{o:Nat}{e:Sh}{x:List e.den}{d':s.den},zY s d o e x=some d'->jH s o e d x d'
 | .sl s,d,o,e,x,d',h=>by
   unfold zY at h;split at h
   .rename_i ho;obtain⟨q,hq⟩:=iJ h;injection q with q
    subst q;exact⟨fC ho,rfl,hq⟩
   .cases h
 | .pair a b,(p,q),o,e,x,d',h=>by
   unfold zY at h;split at h
   .rename_i ho;split at h
    .rename_i y hy;cases h;exact .inl ⟨kM ho,rfl,Ci hy⟩
    .cases h
   .rename_i ho;split at h
    .rename_i y hy;cases h;exact .inr ⟨qF ho,rfl,Ci hy⟩
    .cases h
 | .int _,_,_,_,_,_,h=>by cases h
 | .bool,_,_,_,_,_,h=>by cases h
 | .str,_,_,_,_,_,h=>by cases h
 | .any,_,_,_,_,_,h=>by cases h
 | .unit,_,_,_,_,_,h=>by cases h
 | .arr _ _,_,_,_,_,_,h=>by cases h
 | .mp _ _,_,_,_,_,_,h=>by cases h
theorem Cj:∀{s:Sh}{d0 d:s.den}{o:Nat}{e:Sh}{x x':List e.den},jH s o e d0 x d->zX s d o e=some x'->x'=x
 | .sl s,d0,d,o,e,x,x',⟨ho,q,hq⟩,h=>by
   subst q;subst hq;unfold zX at h;split at h
   .obtain⟨_,hq⟩:=iJ h;exact hq.symm
   .cases h
 | .pair a b,(p0,q0),(p,q),o,e,x,x',hp,h=>by
   unfold zX at h;split at h
   .rename_i ho;rcases hp with⟨_,_,hp⟩ | ⟨gX,_,_⟩
    .exact Cj hp h
    .have:=kM ho;omega
   .rename_i ho;have:=qF ho;rcases hp with⟨hge,_,hp⟩ | ⟨_,_,hp⟩
    .omega
    .exact Cj hp h
 | .int _,_,_,_,_,_,_,h,_=>h.elim
 | .bool,_,_,_,_,_,_,h,_=>h.elim
 | .str,_,_,_,_,_,_,h,_=>h.elim
 | .any,_,_,_,_,_,_,h,_=>h.elim
 | .unit,_,_,_,_,_,_,h,_=>h.elim
 | .arr _ _,_,_,_,_,_,_,h,_=>h.elim
 | .mp _ _,_,_,_,_,_,_,h,_=>h.elim
theorem jH.turn:∀{s:Sh}{o:Nat}{e:Sh}{d d1 d2:s.den}{x x':List e.den},jH s o e d x d1->jH s o e d x' d2->jH s o e d1 x' d2
 | .sl s,o,e,d,d1,d2,x,x',⟨h1,_,_⟩,⟨_,q,hq⟩=>⟨h1,q,hq⟩
 | .pair a b,o,e,(p,q),(p1,q1),(p2,q2),x,x',h1,h2=>by
   rcases h1 with⟨g1,e1,h1⟩ | ⟨g1,e1,h1⟩<;>rcases h2 with⟨g2,e2,h2⟩ | ⟨g2,e2,h2⟩
   .exact .inl ⟨g1,e1.symm.trans e2,h1.turn h2⟩
   .omega
   .omega
   .exact .inr ⟨g1,e1.symm.trans e2,h1.turn h2⟩
 | .int _,_,_,_,_,_,_,_,h,_=>h.elim
 | .bool,_,_,_,_,_,_,_,h,_=>h.elim
 | .str,_,_,_,_,_,_,_,h,_=>h.elim
 | .any,_,_,_,_,_,_,_,h,_=>h.elim
 | .unit,_,_,_,_,_,_,_,h,_=>h.elim
 | .arr _ _,_,_,_,_,_,_,_,h,_=>h.elim
 | .mp _ _,_,_,_,_,_,_,_,h,_=>h.elim
theorem jH.trans:∀{s:Sh}{o:Nat}{e:Sh}{d d1 d2:s.den}{x x':List e.den},jH s o e d x d1->jH s o e d1 x' d2->jH s o e d x' d2
 | .sl s,o,e,d,d1,d2,x,x',⟨h1,_,_⟩,⟨_,q,hq⟩=>⟨h1,q,hq⟩
 | .pair a b,o,e,(p,q),(p1,q1),(p2,q2),x,x',h1,h2=>by
   rcases h1 with⟨g1,e1,h1⟩ | ⟨g1,e1,h1⟩<;>rcases h2 with⟨g2,e2,h2⟩ | ⟨g2,e2,h2⟩
   .exact .inl ⟨g1,e1.trans e2,h1.trans h2⟩
   .omega
   .omega
   .exact .inr ⟨g1,e1.trans e2,h1.trans h2⟩
 | .int _,_,_,_,_,_,_,_,h,_=>h.elim
 | .bool,_,_,_,_,_,_,_,h,_=>h.elim
 | .str,_,_,_,_,_,_,_,h,_=>h.elim
 | .any,_,_,_,_,_,_,_,h,_=>h.elim
 | .unit,_,_,_,_,_,_,_,h,_=>h.elim
 | .arr _ _,_,_,_,_,_,_,_,h,_=>h.elim
 | .mp _ _,_,_,_,_,_,_,_,h,_=>h.elim
theorem jH.ex:∀{s:Sh}{o:Nat}{e:Sh}{d d1:s.den}{x:List e.den} (x':List e.den),jH s o e d x d1->∃d2,jH s o e d x' d2
 | .sl s,o,e,d,d1,x,x',⟨h1,q,_⟩=>⟨q▸x',h1,q,rfl⟩
 | .pair a b,o,e,(p,q),(p1,q1),x,x',h1=>by
   rcases h1 with⟨g1,e1,h1⟩ | ⟨g1,e1,h1⟩
   .obtain⟨d2,h2⟩:=h1.ex x';exact⟨(p,d2),.inl ⟨g1,rfl,h2⟩⟩
   .obtain⟨d2,h2⟩:=h1.ex x';exact⟨(d2,q),.inr ⟨g1,rfl,h2⟩⟩
 | .int _,_,_,_,_,_,_,h=>h.elim
 | .bool,_,_,_,_,_,_,h=>h.elim
 | .str,_,_,_,_,_,_,h=>h.elim
 | .any,_,_,_,_,_,_,h=>h.elim
 | .unit,_,_,_,_,_,_,h=>h.elim
 | .arr _ _,_,_,_,_,_,_,h=>h.elim
 | .mp _ _,_,_,_,_,_,_,h=>h.elim
theorem jH.lt:∀{s:Sh}{o:Nat}{e:Sh}{d d1:s.den}{x:List e.den},jH s o e d x d1->o < s.size
 | .sl s,o,e,d,d1,x,⟨h1,_,_⟩=>by subst h1;exact Nat.one_pos
 | .pair a b,o,e,(p,q),(p1,q1),x,h1=>by
   show o < a.size+b.size;rcases h1 with⟨g1,e1,h1⟩ | ⟨g1,e1,h1⟩
   .have:=h1.lt;omega
   .omega
 | .int _,_,_,_,_,_,h=>h.elim
 | .bool,_,_,_,_,_,h=>h.elim
 | .str,_,_,_,_,_,h=>h.elim
 | .any,_,_,_,_,_,h=>h.elim
 | .unit,_,_,_,_,_,h=>h.elim
 | .arr _ _,_,_,_,_,_,h=>h.elim
 | .mp _ _,_,_,_,_,_,h=>h.elim
theorem jH.rd{h:FH}:∀{s:Sh}{o:Nat}{e:Sh}{d d1:s.den}{x:List e.den}{cs:List Value}{y:Value},jH s o e d x d1->Rd h s cs d->mM h (Rd h e) y x->Rd h s (cs.set o y) d1
 | .sl s,o,e,d,d1,x,cs,y,⟨h1,q,hq⟩,⟨v,hv,_⟩,hy=>by
   subst h1;subst q;subst hq;subst hv;exact⟨y,rfl,hy⟩
 | .pair a b,o,e,(p,q),(p1,q1),x,cs,y,h1,⟨c1,c2,ec,r1,r2⟩,hy=>by
   have hs:=Rd.size a r1;rcases h1 with⟨g1,e1,h1⟩ | ⟨g1,e1,h1⟩
   .subst e1;refine⟨c1,c2.set (o - a.size) y,?_,r1,h1.rd r2 hy⟩;rw[ec,List.set_append_right _ _ (by omega),hs]
   .subst e1;refine⟨c1.set o y,c2,?_,h1.rd r1 hy,r2⟩;rw[ec,List.set_append_left _ _ (by omega)]
 | .int _,_,_,_,_,_,_,_,h,_,_=>h.elim
 | .bool,_,_,_,_,_,_,_,h,_,_=>h.elim
 | .str,_,_,_,_,_,_,_,h,_,_=>h.elim
 | .any,_,_,_,_,_,_,_,h,_,_=>h.elim
 | .unit,_,_,_,_,_,_,_,h,_,_=>h.elim
 | .arr _ _,_,_,_,_,_,_,_,h,_,_=>h.elim
 | .mp _ _,_,_,_,_,_,_,_,h,_,_=>h.elim
theorem mM.nil(h:FH) (R:List Value->α->Prop):mM h R jW []:=.inl ⟨rfl,rfl⟩
theorem tV:∀{s:Sh}{so:Nat}{e:Sh}{d0 d:s.den}{x:List e.den}{off k:Nat}{ag:Bool}{q:Sigma Sh.den},jH s so e d0 x d->off+k<=so\/so+1<=off->nZ s d off k ag=some q->nZ s d0 off k ag=some q
 | .sl s,so,e,d0,d,x,off,k,ag,q,⟨h1,_,_⟩,hd,h=>by
   exfalso;unfold nZ at h;split at h
   .rename_i hh;rw[au,au,A8,A8]at hh;have a1:=fC hh.1;have a2:1=k:=fC hh.2.1;omega
   .cases h
 | .pair a b,so,e,(p0,q0),(p,q'),x,off,k,ag,q,hp,hd,h=>by
   have gX:=jH.lt hp;have gX:so < a.size+b.size:=gX;unfold nZ at h ⊢
   split at h
   .rename_i hh;rw[au,au,A8,A8]at hh;have a1:=fC hh.1;have a2:=fC hh.2.1;omega
   .rename_i hh;cases hle:Nat.ble (off+1) a.size with
    | true=>
      rw[hle]at h;simp only at h ⊢
      have hle:=kM hle;rcases hp with⟨g1,e1,h1⟩ | ⟨g1,e1,h1⟩
      .rw[e1];exact h
      .exact tV h1 hd h
    | false=>
      rw[hle]at h;simp only at h ⊢
      have hle:=qF hle;rcases hp with⟨g1,e1,h1⟩ | ⟨g1,e1,h1⟩
      .exact tV h1 (by omega) h
      .rw[e1];exact h
 | .int _,_,_,_,_,_,_,_,_,_,h,_,_=>h.elim
 | .bool,_,_,_,_,_,_,_,_,_,h,_,_=>h.elim
 | .str,_,_,_,_,_,_,_,_,_,h,_,_=>h.elim
 | .any,_,_,_,_,_,_,_,_,_,h,_,_=>h.elim
 | .unit,_,_,_,_,_,_,_,_,_,h,_,_=>h.elim
 | .arr _ _,_,_,_,_,_,_,_,_,_,h,_,_=>h.elim
 | .mp _ _,_,_,_,_,_,_,_,_,_,h,_,_=>h.elim
abbrev yc:List Value->Bool
 | []=>true
 | v :: l=>bJ (xX v) (yc l)
theorem vK:∀{l:List Value},yc l=true->∀v∈l,bM v
 | [],_,v,hv=>by simp at hv
 | x :: l,h,v,hv=>by
   simp only[yc,au,A8]at h;rcases iV.1 hv with rfl | hv
   .exact mX h.1
   .exact vK h.2 v hv
inductive Cl where
 | i | b | s
 deriving DecidableEq
structure TI where
 desc:TypeDesc
 size:Nat
 bytes:Nat
 zero:List Value
 jF:Option Sh
 AB:List Cl:=[]
variable {i:TI}
abbrev iO:TypeDesc->Bool
 | .struct _=>true
 | .array _ _=>true
 | _=>false
abbrev mY:(s:Sh)->s.den
 | .int _=>(0:Int)
 | .bool=>false
 | .str=>ByteArray.empty
 | .any=>undef
 | .sl _=>[]
 | .pair a b=>(mY a,mY b)
 | .unit=>()
 | .arr n s=>List.replicate n (mY s)
 | .mp _ _=>[]
abbrev jX(t o:Nat):Field:={ name:= "",type:=t,offset:=o,embedded:=false,tag:= "",pkgPath:= "",byteOffset:=0 }
def rU(f:Field):Field:=jX f.type f.offset
def nf:TypeDesc->TypeDesc
 | .struct fs=>.struct (fs.map rU)
 | d=>d
def aa0:TypeDesc->Bool
 | .struct _=>true
 | _=>false
def tX(P:Program) (t:TypeId):Option Cl:=match P.underlying t with
 | some (.int _)=>some .i
 | some .bool=>some .b
 | some .string=>some .s
 | _=>none
def KW(P:Program):Nat->List Cl->List Field->Bool
 | i,c :: cs,f :: fs=>f.name != "_" && f.offset == i && tX P f.type == some c && KW P (i+1) cs fs
 | _,[],[]=>true
 | _,_,_=>false
def SE(P:Program) (t:TypeId) (cls:List Cl):Bool:=match P.underlying t with
 | some (.struct fs)=>KW P 0 cls fs.toList && !P.stoodInHeld t && !P.eqGuardType P.depth t
 | some (.array _ e)=>tX P e == some .i && P.cellsOf e == 1 && (P.info? e).isSome && !P.eqGuardType P.depth t
 | _=>false
def aa1:Value->Bool
 | .agg _=>true
 | _=>false
structure aS (P:Program) (t:TypeId) (i:TI):Prop where
 und:∃d,P.underlying t=some d/\nf d=i.desc
 info:∃inf z,P.info? t=some inf/\inf.size=i.size/\inf.bytes=i.bytes/\inf.zero=some z/\z.cells=i.zero.toArray
 lF:i.zero.length=i.size
 zone:∀v∈i.zero,bM v
 KX:∀s,i.jF=some s->Rd (λ_ _=>none) s i.zero (mY s)/\s.isAgg=iO i.desc
 AB:i.AB≠[]->SE P t i.AB=true
 aa2:∀inf z,P.info? t=some inf->inf.zero=some z->aa1 z=iO i.desc
theorem aS.zZ(k:aS P t i){D:TypeDesc} (hd:i.desc=D) (h:aa0 D=false):P.underlying t=some D:=by
 obtain⟨d,h1,h2⟩:=k.und;rw[h1];rw[hd]at h2;cases d<;>first
  | (simp only[nf]at h2;rw[h2])
  | (simp only[nf]at h2;rw[<-h2]at h;cases h)
theorem aS.Cm(k:aS P t i){fs:Array Field} (hd:i.desc=.struct fs):∃fs0,P.underlying t=some (.struct fs0)/\fs0.map rU=fs:=by
 obtain⟨d,h1,h2⟩:=k.und;rw[hd]at h2;cases d<;>simp only[nf]at h2<;>first
  | (cases h2;exact⟨_,h1,rfl⟩)
  | cases h2
theorem Xo(d:TypeDesc):iO (nf d)=iO d:=by cases d<;>rfl
abbrev zc:Sh->List Value
 | .int k=>[.int k 0]
 | .bool=>[.bool false]
 | .str=>[.string ByteArray.empty]
 | .any=>[]
 | .sl _=>[.slice none 0 0]
 | .pair a b=>zc a++zc b
 | .unit=>[]
 | .arr n s=>(List.replicate n (zc s)).flatten
 | .mp _ _=>[.map none]
abbrev AL:Sh->Bool
 | .any=>false
 | .pair a b=>AL a && AL b
 | .arr _ s=>AL s
 | _=>true
theorem Jb:∀{s:Sh},AL s=true->Rd (λ_ _=>none) s (zc s) (mY s)
 | .int _,_=>rfl
 | .bool,_=>rfl
 | .str,_=>rfl
 | .any,h=>by cases h
 | .sl _,_=>⟨_,rfl,.inl ⟨rfl,rfl⟩⟩
 | .mp _ _,_=>⟨_,rfl,.inl ⟨rfl,rfl⟩⟩
 | .pair a b,h=>by
   simp only[AL,A8]at h;exact⟨_,_,rfl,Jb h.1,Jb h.2⟩
 | .unit,_=>rfl
 | .arr n s,h=>by
   refine⟨by simp[mY],?_⟩
   have r:=Jb (s:=s) h;have:∀n,dQ (Rd (λ_ _=>none) s) (List.replicate n (zc s)).flatten (List.replicate n (mY s)):=by
    intro n
    induction n with
    | zero=>rfl
    | succ n ih=>exact⟨zc s,_,by rw[Xk,List.flatten_cons],r,ih⟩
   exact this n
theorem aZ{s0:Sh} (h:i.jF=some s0) (h1:AL s0=true) (h2:zc s0=i.zero) (h3:s0.isAgg=iO i.desc):∀s,i.jF=some s->Rd (λ_ _=>none) s i.zero (mY s)/\s.isAgg=iO i.desc:=by
 intro s hs;rw[h]at hs;cases hs;exact⟨by rw[<-h2];exact Jb h1,h3⟩
structure Cx where
 ti:List (Nat×TI)
 gd:Nat->Option (Sigma Sh.den)
 wr:Bool:=false
 dm:Bool:=false
 rt:Bool:=false
 cz:Bool:=false
variable {cx:Cx}
abbrev lG:List (Nat×TI)->Nat->Option TI
 | [],_=>none
 | (k,e) :: l,n=>cnd (Nat.beq k n) (some e) (lG l n)
theorem aS.of_eq(h1:(P.underlying t).map nf=some i.desc) (h2:(P.info? t).map (λx=>(x.size,x.bytes,x.zero.map λz=>(z.cells,aa1 z)))=some (i.size,i.bytes,some (i.zero.toArray,iO i.desc)))
 (h3:i.zero.length=i.size) (h4:yc i.zero=true) (h5:∀s,i.jF=some s->Rd (λ_ _=>none) s i.zero (mY s)/\s.isAgg=iO i.desc) (h6:i.AB≠[]->SE P t i.AB=true:=by intro h;exact absurd rfl h):aS P t i where
 und:=by
  cases h:P.underlying t with
  | none=>rw[h]at h1;cases h1
  | some d=>rw[h]at h1;exact⟨d,rfl,by simpa using h1⟩
 info:=by
  cases h:P.info? t with
  | none=>rw[h]at h2;cases h2
  | some x=>
    rw[h]at h2;simp only[Nu,A95,RU]at h2;cases hz:x.zero with
    | none=>rw[hz]at h2;cases h2.2.2
    | some z=>rw[hz]at h2;simp only[Nu,A95,RU]at h2;exact⟨x,z,rfl,h2.1,h2.2.1,hz,h2.2.2.1⟩
 aa2:=by
  intro inf z e1 e2;rw[e1]at h2;simp only[Nu,A95,RU,e2]at h2;exact h2.2.2.2
 lF:=h3
 zone:=vK h4
 KX:=h5
 AB:=h6
def bG(P:Program):List (Nat×TI)->Prop
 | []=>True
 | (k,e) :: l=>aS P k e/\bG P l
theorem bG.get{P:Program}:∀{l:List (Nat×TI)}{t:Nat}{i:TI},bG P l->lG l t=some i->aS P t i
 | [],_,_,_,e=>by simp[lG]at e
 | (k,x) :: l,t,i,⟨h1,h2⟩,e=>by
   simp only[lG,iF]at e;split at e
   .rename_i hk;have:k=t:=by simpa using hk
    subst this;cases e;exact h1
   .exact bG.get h2 e
def aB(gd:Nat->Option (Sigma Sh.den)) (h:FH):Prop:=∀g p,gd g=some p->∃cs,Rd h p.1 cs p.2/\At h g 0 cs
theorem aB.mono{gd:Nat->Option (Sigma Sh.den)}{h h':FH} (g:aB gd h) (le:h.le h'):aB gd h':=λk p e=>by
 obtain⟨cs,r,a⟩:=g k p e;exact⟨cs,r.mono le p.1,a.mono le⟩
theorem dL{h:FH}{β:List RV}:∀{l:List Value},(∀v∈l,bM v)->aG (λx y=>bU h β x y/\bM y) (dB SC.v l) l
 | [],_=>trivial
 | x :: l,k=>⟨⟨⟨rfl,k x (by simp)⟩,k x (by simp)⟩,dL λv hv=>k v (by simp[hv])⟩
abbrev Gx(v:Value):Option bK:=match v with
 | .agg cs=>match yc (tl cs) with
   | true=>some (.one (.agg (dB SC.v (tl cs))))
   | false=>none
 | .tuple _=>none
 | v=>some (.one (.c (.v v)))
theorem KY{e:bK} (k:Gx v=some e):gJ h β e v:=by
 unfold Gx at k;split at k
 .rename_i cs;split at k
  .rename_i ha;cases k;exact⟨tl cs,by cases cs;rfl,dL (vK ha)⟩
  .cases k
 .cases k
 .rename_i h1 h2;cases k;have:xX v=true:=by
   cases v<;>first | rfl | exact(h1 _ rfl).elim | exact(h2 _ rfl).elim
  exact⟨⟨rfl,mX this⟩,mX this⟩
abbrev bf(cx:Cx) (s:St) (G:Gd):Operand->Option bK
 | .tmp t=>match dZ s.env t with
   | some (G',e)=>match mW G' G with
     | true=>some e
     | false=>none
   | none=>none
 | .const v=>Gx v
 | .global g=>match cx.gd g with
   | some p=>some (.one (.c (.fp p.1 p.2)))
   | none=>none
 | .func f=>some (.one (.c (.v (.func (.func f) #[] #[]))))
theorem aF(ah:Sat N B h0 s h β w a) (hg:aB cx.gd h) (hG:gv s.gl G=true):
 ∀{x:Operand}{e:bK},bf cx s G x=some e->gJ h β e (a.eval x)
 | .tmp t,e,k=>by
   simp only[bf]at k;split at k
   .rename_i G' e' hk;split at k
    .rename_i hs;cases k;obtain⟨z,q1,q2,q3⟩:=ah.env _ _ _ hk;have:a.eval (.tmp t)=z:=by simp[Act.eval,q1]
     rw[this];exact q2 (dJ hs hG)
    .cases k
   .cases k
 | .const v,e,k=>KY k
 | .global g,e,k=>by
   simp only[bf]at k;split at k
   .rename_i p hp;cases k;obtain⟨cs,r,at_⟩:=hg g p hp;exact⟨⟨g,0,cs,rfl,r,at_⟩,rfl,rfl⟩
   .cases k
 | .func f,e,k=>by
   simp only[bf]at k;cases k;exact⟨⟨rfl,rfl,rfl⟩,rfl,rfl⟩
abbrev side(gl:List Bool) (G:Gd) (p:Prop):Prop:=match G with
 | []=>p
 | x :: g=>gv gl (x :: g)=true->p
theorem dG{p:Prop} (h:side gl G p) (hG:gv gl G=true):p:=by
 cases G with
 | nil=>exact h
 | cons x g=>exact h hG
def InR(k:IntKind) (n:Int):Prop:=k.wrap n=n
def InL(n:Nat):Prop:=(n:Int)<=IntKind.i64.max
def wH(op:BinOp) (k:IntKind) (x y:Int):Int:=
 let a:=BitVec.ofInt k.bits x
 let b:=BitVec.ofInt k.bits y
 match op with
 | .and=>k.wrap (a &&& b).toNat
 | .or=>k.wrap (a ||| b).toNat
 | .xor=>k.wrap (a ^^^ b).toNat
 | _=>k.wrap (a &&& ~~~b).toNat
def aa3(k:IntKind) (x y:Int):Int:=k.wrap (x * 2 ^ (min y.toNat k.bits))
def aa4(k:IntKind) (x y:Int):Int:=x.fdiv (2 ^ (min y.toNat k.bits))
def strLt(x y:ByteArray):Bool:=Op.bytesLess x.toList y.toList
abbrev aa5:IntKind->Bool
 | .i64=>true
 | _=>false
abbrev vI(k:IntKind) (n:Int):bK:=.one (.c (.v (.int k n)))
abbrev vB(b:Bool):bK:=.one (.c (.v (.bool b)))
abbrev vS(s:ByteArray):bK:=.one (.c (.v (.string s)))
abbrev arith(gl:List Bool) (G:Gd) (k:IntKind) (n:Int) (K:bK->Prop):Prop:=match aa5 k with
 | true=>side gl G (InR k n)/\K (vI k n)
 | false=>K (vI k (k.wrap n))
abbrev yg(wr:Bool) (gl:List Bool) (G:Gd) (k:IntKind) (n:Int) (K:bK->Prop):Prop:=cnd wr (K (vI k (k.wrap n))) (arith gl G k n K)
abbrev Xp(wr:Bool) (gl:List Bool) (G:Gd) (op:BinOp) (k:IntKind) (x y:Int) (K:bK->Prop):Prop:=match op with
 | .add=>yg wr gl G k (x+y) K
 | .sub=>yg wr gl G k (x - y) K
 | .mul=>yg wr gl G k (x * y) K
 | .quo=>side gl G (y≠0)/\arith gl G k (x.tdiv y) K
 | .rem=>side gl G (y≠0)/\K (vI k (x.tmod y))
 | .and=>K (vI k (wH .and k x y))
 | .or=>K (vI k (wH .or k x y))
 | .xor=>K (vI k (wH .xor k x y))
 | .andNot=>K (vI k (wH .andNot k x y))
 | .eql=>K (vB (decide (x=y)))
 | .neq=>K (vB (!decide (x=y)))
 | .lss=>K (vB (decide (x < y)))
 | .leq=>K (vB (decide (x<=y)))
 | .gtr=>K (vB (decide (y < x)))
 | .geq=>K (vB (decide (y<=x)))
 | .shl=>False
 | .shr=>False
abbrev Xq(gl:List Bool) (G:Gd) (op:BinOp) (x y:ByteArray) (K:bK->Prop):Prop:=match op with
 | .add=>side gl G (InL (x.size+y.size))/\K (vS (x++y))
 | .eql=>K (vB (decide (x=y)))
 | .neq=>K (vB (!decide (x=y)))
 | .lss=>K (vB (strLt x y))
 | .leq=>K (vB (strLt x y || decide (x=y)))
 | .gtr=>K (vB (!(strLt x y || decide (x=y))))
 | .geq=>K (vB (!strLt x y))
 | _=>False
abbrev Jc(cx:Cx) (t:TypeId):Bool:=match lG cx.ti t with
 | some i=>match i.desc with
   | .bool=>true
   | _=>false
 | none=>false
abbrev Xr(cx:Cx) (gl:List Bool) (G:Gd) (op:BinOp) (xt:TypeId) (a b:Value) (K:bK->Prop):Prop:=match a with
 | .int k x=>match b with
   | .int k' y=>match op with
     | .shl=>side gl G (0<=y)/\K (vI k (aa3 k x y))
     | .shr=>side gl G (0<=y)/\K (vI k (aa4 k x y))
     | op=>cnd (Nat.beq (xY k) (xY k')) (Xp cx.wr gl G op k x y K) False
   | _=>False
 | .string x=>match b with
   | .string y=>Xq gl G op x y K
   | _=>False
 | .bool x=>match b with
   | .bool y=>match Jc cx xt with
     | true=>match op with
       | .eql=>K (vB (x == y))
       | .neq=>K (vB (!(x == y)))
       | _=>False
     | false=>False
   | _=>False
 | _=>False
def Xt(P:Program) (m:Sem Value) (v:Value):Prop:=∀w,m.run P w=.ok v w
def Good(gl:List Bool) (G:Gd) (P:Program) (m:Sem Value) (K:bK->Prop):Prop:=
 ∃v,K (.one (.c (.v v)))/\bM v/\(gv gl G=true->Xt P m v)
theorem tY{m:Sem Value} (h:arith gl G k n K)
 (hm:gv gl G=true->Xt P m (.int k (k.wrap n))):Good gl G P m K:=by
 unfold arith at h;split at h
 .obtain⟨h1,h2⟩:=h;exact⟨_,h2,aW _ _,λhG=>by have:=dG h1 hG;unfold InR at this;rw[this]at hm;exact hm hG⟩
 .exact⟨_,h,aW _ _,hm⟩
theorem vM{wr:Bool}{m:Sem Value} (h:yg wr gl G k n K)
 (hm:gv gl G=true->Xt P m (.int k (k.wrap n))):Good gl G P m K:=by
 unfold yg at h;cases wr
 .exact tY h hm
 .exact⟨_,h,aW _ _,hm⟩
theorem SG{wr:Bool}{x y:Int} (h:Xp wr gl G op k x y K):
 Good gl G P (binOp op t (.int k x) (.int k y)) K:=by
 unfold Xp at h;cases op<;>simp only at h
 case add=>exact vM h λ_ w=>by simp[binOp,Op.intArith]
 case sub=>exact vM h λ_ w=>by simp[binOp,Op.intArith]
 case mul=>exact vM h λ_ w=>by simp[binOp,Op.intArith]
 case quo=>
  obtain⟨h1,h2⟩:=h;exact tY h2 λhG w=>by have:=dG h1 hG;simp[binOp,Op.intDiv,this]
 case rem=>
  obtain⟨h1,h2⟩:=h;exact⟨_,h2,aW _ _,λhG w=>by have:=dG h1 hG;simp[binOp,Op.intDiv,this]⟩
 case and=>exact⟨_,h,aW _ _,λhG w=>by simp[binOp,Op.intBits,wH]⟩
 case or=>exact⟨_,h,aW _ _,λhG w=>by simp[binOp,Op.intBits,wH]⟩
 case xor=>exact⟨_,h,aW _ _,λhG w=>by simp[binOp,Op.intBits,wH]⟩
 case andNot=>exact⟨_,h,aW _ _,λhG w=>by simp[binOp,Op.intBits,wH]⟩
 case eql=>exact⟨_,h,bH _,λhG w=>by simp[binOp,Op.intCmp];rfl⟩
 case neq=>exact⟨_,h,bH _,λhG w=>by simp[binOp,Op.intCmp,bne];rfl⟩
 case lss=>exact⟨_,h,bH _,λhG w=>by simp[binOp,Op.intCmp]⟩
 case leq=>exact⟨_,h,bH _,λhG w=>by simp[binOp,Op.intCmp]⟩
 case gtr=>exact⟨_,h,bH _,λhG w=>by simp[binOp,Op.intCmp]⟩
 case geq=>exact⟨_,h,bH _,λhG w=>by simp[binOp,Op.intCmp]⟩
theorem bytes_eq(x y:ByteArray):(x.toList == y.toList)=decide (x=y):=by
 have key:∀a:ByteArray,a.toList=a.data.toList:=λa=>ByteArray.toList_eq a
 rw[key,key]
 by_cases h:x=y
 .subst h;simp
 .rw[Nz h];rw[beq_eq_false_iff_ne];intro e;apply h;cases x;cases y;simp only[ByteArray.mk.injEq];exact Array.ext' e
theorem SH{x y:ByteArray} (h:Xq gl G op x y K):
 Good gl G P (binOp op t (.string x) (.string y)) K:=by
 unfold Xq at h;cases op<;>simp only at h
 case add=>
  obtain⟨h1,h2⟩:=h;refine⟨_,h2,dS _,λhG w=>?_⟩
  have:=dG h1 hG;unfold InL at this;have hn:¬(((x.size+y.size:Nat):Int) > IntKind.i64.max):=by omega
  simp only[binOp,Op.stringOp];rw[if_neg hn];rfl
 case eql=>exact⟨_,h,bH _,λhG w=>by simp only[binOp,Op.stringOp,bytes_eq];rfl⟩
 case neq=>exact⟨_,h,bH _,λhG w=>by simp only[binOp,Op.stringOp,bytes_eq];rfl⟩
 case lss=>exact⟨_,h,bH _,λhG w=>by simp only[binOp,Op.stringOp,strLt];rfl⟩
 case leq=>exact⟨_,h,bH _,λhG w=>by simp only[binOp,Op.stringOp,bytes_eq,strLt];rfl⟩
 case gtr=>exact⟨_,h,bH _,λhG w=>by simp only[binOp,Op.stringOp,bytes_eq,strLt];rfl⟩
 case geq=>exact⟨_,h,bH _,λhG w=>by simp only[binOp,Op.stringOp,strLt];rfl⟩
theorem Jd(hc:bG P cx.ti){xt:TypeId}{a b:Value} (h:Xr cx gl G op xt a b K):
 Good gl G P (binOp op xt a b) K:=by
 unfold Xr at h;split at h
 .rename_i k x;split at h
  .rename_i k' y;split at h
   .exact⟨_,h.2,aW _ _,λhG w=>by have:=dG h.1 hG;simp[binOp,Op.shift,aa3,show¬y < 0 by omega]⟩
   .exact⟨_,h.2,aW _ _,λhG w=>by have:=dG h.1 hG;simp[binOp,Op.shift,aa4,show¬y < 0 by omega]⟩
   .rw[iF]at h;split at h
    .rename_i hk;have:=lJ hk;subst this;exact SG h
    .cases h
  .cases h
 .split at h
  .exact SH h
  .cases h
 .split at h
  .split at h
   .rename_i hb;have hu:P.underlying xt=some .bool:=by
     unfold Jc at hb;split at hb
     .rename_i i hi;split at hb
      .rename_i hd;exact(hc.get hi).zZ hd rfl
      .cases hb
     .cases hb
    split at h
    .exact⟨_,h,bH _,λhG w=>run_eql_bool w xt _ _ hu⟩
    .exact⟨_,h,bH _,λhG w=>run_neq_bool w xt _ _ hu⟩
    .cases h
   .cases h
  .cases h
 .cases h
abbrev vN:Value->Bool
 | .agg _=>false
 | .nilIface=>false
 | _=>true
theorem og(P:Program) (op:BinOp) (t:TypeId) (x y:Operand){a b:Value} (h:vN a=true) (w:World):(eqGuard op t x y a b).run P w=.ok () w:=by
 unfold eqGuard;cases a<;>first
  | (simp[vN]at h;done)
  | (cases op<;>rfl)
theorem add_lit(b o j:Nat):(⟨b,o,none⟩:Addr).add j=⟨b,o+j,none⟩:=by
 unfold Addr.add;split
 .rename_i h;simp[h]
 .rfl
theorem AO(k:aS P t i) (w:World):(isAgg t).run P w=.ok (iO i.desc) w:=by
 unfold isAgg;obtain⟨d,h1,h2⟩:=k.und;rw[Sem.run_bind,run_underlying h1 w,<-h2,Xo];cases d<;>rfl
theorem run_sizeOf(k:aS P t i) (w:World):(sizeOf t).run P w=.ok i.size w:=by
 obtain⟨inf,z,h1,h2,_⟩:=k.info;simp[sizeOf,typeInfo,h1,h2]
theorem eY(k:aS P t i) (hl:cs.length=i.size)
 (h1:iO i.desc=false->i.size=1) (hc:∀j u,cs[j]?=some u->w.cell? ⟨b,o+j,none⟩=some u):
 (loadVar t ⟨b,o,none⟩).run P w=.ok (if iO i.desc=true then .agg cs.toArray else cs.headD undef) w:=by
 unfold loadVar;rw[Sem.run_bind,AO k];simp only[Result.andThen_ok];cases hd:iO i.desc with
 | true=>
   have:=run_loadCells_list (P:=P) w ⟨b,o,none⟩ cs (λj v hj=>by rw[add_lit];exact hc j v hj)
   rw[hl]at this;simp[run_sizeOf k,this]
 | false=>
   have h:=h1 hd
   match cs,hl with
   | [c],_=>
     have:=hc 0 c rfl;simp at this;simp[run_load,this]
   | [],hl=>simp at hl;omega
   | _ :: _ :: _,hl=>simp at hl;omega
abbrev SC.ok:SC->Bool
 | .junk=>false
 | _=>true
abbrev Wj(s:St) (G:Gd) (i:TI) (gl:List Bool) (r off:Nat) (K:bK->Prop):Prop:=match bW s.T r with
 | some (Gr,.blk _ cs)=>match mW Gr G with
   | true=>match iO i.desc with
     | true=>match Nat.ble (off+i.size) (aC cs) with
       | true=>K (.one (.agg (mP i.size (Ej off cs))))
       | false=>False
     | false=>match Nat.beq i.size 1 with
       | true=>match bW cs off with
         | some x=>K (.one (.c x))
         | none=>False
       | false=>False
   | false=>False
 | some (Gr,.obj _ sh d)=>match mW Gr G with
   | true=>match nZ sh d off i.size (iO i.desc) with
     | some q=>K (.one (fO q.1 q.2))
     | none=>False
   | false=>False
 | _=>False
abbrev SI:Bool->Bool->Bool
 | true,_=>true
 | false,b=>b
abbrev loadRow(s:St) (G:Gd) (i:TI) (gl:List Bool) (r j sz off:Nat) (K:bK->Prop):Prop:=match bW s.T r with
 | some (Gr,.row _ sh l)=>match bJ (mW Gr G) (Nat.beq sz sh.size) with
   | true=>side gl G (j < l.length)/\∀d:sh.den,side gl G (l[j]?=some d)->match nZ sh d off i.size (iO i.desc) with
     | some q=>K (.one (fO q.1 q.2))
     | none=>False
   | false=>False
 | some (Gr,.obj _ sh d0)=>match lM sh d0 off with
   | some p=>match bJ (mW Gr G) (Nat.beq sz p.1.size) with
     | true=>side gl G (j < p.2.2.1)/\∀d:p.1.den,side gl G (p.2.1[j]?=some d)->match nZ p.1 d p.2.2.2 i.size (iO i.desc) with
       | some q=>K (.one (fO q.1 q.2))
       | none=>False
     | false=>False
   | none=>False
 | _=>False
abbrev KZ(s:St) (G:Gd) (r j:Nat) (K:(e:Sh)->List e.den->Prop):Prop:=match bW s.T r with
 | some (Gr,.deep _ sh l _ e so own hs)=>match mW Gr G with
   | true=>side s.gl G (own j=true/\kE j hs=false/\j < l.length)/\∀d:sh.den,side s.gl G (l[j]?=some d)->match zX sh d so e with
     | some x=>K e x
     | none=>False
   | false=>False
 | _=>False
abbrev Je(s:St) (G:Gd) (i:TI) (r j k sz off:Nat) (K:bK->Prop):Prop:=KZ s G r j λe x=>match Nat.beq sz e.size with
 | true=>side s.gl G (k < x.length)/\∀y:e.den,side s.gl G (x[k]?=some y)->match nZ e y off i.size (iO i.desc) with
   | some q=>K (.one (fO q.1 q.2))
   | none=>False
 | false=>False
abbrev NS(s:St) (G:Gd) (i:TI) (sh:Sh) (l:List sh.den) (so:Nat) (own:Nat->Bool) (hs:List Nat) (r j off:Nat) (K:bK->Prop):Prop:=
 side s.gl G (j < l.length)/\∀d:sh.den,side s.gl G (l[j]?=some d)->match SI (Nat.ble (off+i.size) so) (Nat.ble (so+1) off) with
  | true=>match nZ sh d off i.size (iO i.desc) with
    | some q=>K (.one (fO q.1 q.2))
    | none=>False
  | false=>side s.gl G (kE j hs=false)/\(own j=true->match bJ (Nat.beq off so) (bJ (Nat.beq i.size 1) (!(iO i.desc))) with
   | true=>K (.one (.c (.sub r j)))
   | false=>False)/\(own j=false->match nZ sh d off i.size (iO i.desc) with
   | some q=>K (.one (fO q.1 q.2))
   | none=>False)
abbrev pF(cx:Cx) (s:St) (G:Gd) (t:TypeId) (p:SC) (K:bK->Prop):Prop:=match lG cx.ti t with
 | none=>False
 | some i=>match p with
   | .fp sh d=>match nZ sh d 0 i.size (iO i.desc) with
     | some q=>K (.one (fO q.1 q.2))
     | none=>False
   | .own r off=>Wj s G i s.gl r off K
   | .iw r j sz off=>match bW s.T r with
     | some (Gr,.deep _ sh l _ _ so own hs)=>match bJ (mW Gr G) (Nat.beq sz sh.size) with
       | true=>NS s G i sh l so own hs r j off K
       | false=>False
     | _=>loadRow s G i s.gl r j sz off K
   | .jC r j k sz off=>Je s G i r j k sz off K
   | _=>False
theorem tZ{s:Sh} (h:s.isAgg=false):s.size=1:=by cases s<;>first | rfl | simp[Sh.isAgg]at h
theorem aG.take{α β:Type}{R:α->β->Prop}:∀{l:List α}{m:List β} (n:Nat),aG R l m->aG R (l.take n) (m.take n)
 | [],[],n,_=>by cases n<;>trivial
 | _ :: _,_ :: _,0,_=>trivial
 | _ :: _,_ :: _,n+1,⟨a,b⟩=>⟨a,aG.take n b⟩
theorem aG.drop{α β:Type}{R:α->β->Prop}:∀{l:List α}{m:List β} (n:Nat),aG R l m->aG R (l.drop n) (m.drop n)
 | [],[],n,_=>by cases n<;>trivial
 | _ :: _,_ :: _,0,h=>h
 | _ :: _,_ :: _,n+1,⟨a,b⟩=>aG.drop n b
theorem dU{cs:List α}{k:Nat}{u:α} (h:((cs.drop off).take k)[j]?=some u):cs[off+j]?=some u:=by
 rw[qU]at h;split at h
 .rwa [Ea]at h
 .cases h
theorem aU{r:Nat}{Gr:Gd}{x:ay} (h:bW s.T r=some (Gr,x)) (hG:gv s.gl Gr=true):(eff s.gl s.T)[r]?=some x:=by
 rw[gQ,<-bY,h];simp[iF,hG]
def jf(w w':World):Prop:=w.heap.size<=w'.heap.size/\∀k,k < w.heap.size->w'.heap[k]?=w.heap[k]?
theorem jf.refl(w:World):jf w w:=⟨lD _,λ_ _=>rfl⟩
theorem jf.trans{a b c:World} (x:jf a b) (y:jf b c):jf a c:=⟨nV x.1 y.1,λk h=>(y.2 k (Ee h x.1)).trans (x.2 k h)⟩
theorem jf.cell{w w':World} (g:jf w w'){a:Addr}{u:Value} (h:w.cell? a=some u):w'.cell? a=some u:=by
 have hb:=World.block_lt_of_cell? _ _ h;rw[World.cell?_of_block (g.2 _ hb)];exact h
theorem OK.row_of(ok:OK B h0 T h β w){i:Nat}{s:Sh}{l:List s.den} (hT:T[i]?=some (.row t s l)) (hx:bU h β (.row i) y):β[i]?=some (.row y):=by
 obtain⟨v,e,es⟩:=hx;have hold:=ok.holds i _ _ hT e
 match v,hold,es with
 | .row v,_,es=>cases es;exact e
theorem OK.qG(ok:OK B h0 T h β w){i:Nat}{s:Sh}{l:List s.den}{tt:TypeId}{e:Sh}{so:Nat}{own:Nat->Bool}{hs:List Nat}
 (hT:T[i]?=some (.deep t s l tt e so own hs)) (hx:bU h β (.row i) y):∃us,β[i]?=some (.deep y us)/\dh h w t s l tt e so own hs y us:=by
 obtain⟨v,e,es⟩:=hx;have hold:=ok.holds i _ _ hT e
 match v,hold,es with
 | .deep v us,hold,es=>cases es;exact⟨us,e,hold⟩
theorem yh{sh:Sh}{l:List sh.den} (k1:side gl G (j < l.length)):∃d:sh.den,side gl G (l[j]?=some d)/\(gv gl G=true->l[j]?=some d):=by
 by_cases hG:gv gl G=true
 .have:=dG k1 hG;refine⟨l[j],?_,λ_=>lH this⟩
  cases G with
  | nil=>exact lH this
  | cons x g=>exact λ_=>lH this
 .refine⟨dflt sh,?_,λhh=>(hG hh).elim⟩
  cases G with
  | nil=>exact(hG rfl).elim
  | cons x g=>exact λhh=>(hG hh).elim
theorem NT{p q:Prop} (f:p->q) (h:side gl G p):side gl G q:=by
 cases G with
 | nil=>exact f h
 | cons x g=>exact λhh=>f (h hh)
theorem xC(ah:Sat N B h0 s h β w a){r:Nat}{K:(e:Sh)->List e.den->Prop} (k:KZ s G r j K):
 ∃e x,K e x/\(gv s.gl G=true->∀v us,β[r]?=some (.deep v us)->∃tt,jG h w tt e x (us j)):=by
 unfold KZ at k;split at k
 .rename_i Gr t sh l tt e so own hs hT;split at k
  .rename_i hg;obtain⟨k1,k2⟩:=k;obtain⟨d,d1,d2⟩:=yh (NT (λq=>q.2.2) k1)
   have k3:=k2 d d1;split at k3
   .rename_i x hx;refine⟨e,x,k3,λhG v us hb=>⟨tt,?_⟩⟩
    obtain⟨o1,o2,o3⟩:=dG k1 hG;have hold:dh h w t sh l tt e so own hs v us:=ah.ok.holds r _ _ (aU hT (dJ hg hG)) hb;obtain⟨_,_,h3⟩:=hold;rcases h3 with⟨_,e0⟩ | ⟨_,_,e0⟩ | ⟨g,cap,cur,_,_,_,_,_,_,h6⟩
    .subst e0;simp at o3
    .subst e0;simp at o3
    .have h7:=h6 j d (d2 hG);rw[o1,o2]at h7;obtain⟨d0,x',_,p,_,rw_⟩:=h7;have:=Cj p hx;subst this;exact rw_
   .cases k3
  .cases k
 .cases k
theorem yj(hc:bG P cx.ti) (ah:Sat N B h0 s h β w a)
 {p:SC} (k:pF cx s G t p K):
 ∃e,K e/\(gv s.gl G=true->∀pv,bU h β p pv->∃y,(∀w',jf w w'->(Instr.loadAt t pv).run P w'=.ok y w')/\gJ h β e y):=by
 unfold pF at k;split at k
 .cases k
 rename_i i hi;have ti:=hc.get hi
 -- reading typed data out of cells
 have typed:∀{b o:Nat}{sh:Sh}{d:sh.den}{cs:List Value}{off:Nat}{q:Sigma Sh.den},Rd h sh cs d->(∀j u,cs[j]?=some u->w.cell? ⟨b,o+j,none⟩=some u) ->
  nZ sh d off i.size (iO i.desc)=some q->∃y,(∀w',jf w w'->(Instr.loadAt t (.pointer (some ⟨b,o+off,none⟩))).run P w'=.ok y w')/\gJ h β (.one (fO q.1 q.2)) y:=by
  intro b o sh d cs off q r at_ e;obtain⟨q1,q2,q3,q4⟩:=qE sh e r;have hs:=Rd.size q.1 q1;refine⟨mkV q.1 ((cs.drop off).take i.size),λw' vO=>?_,gq q.1 q1⟩
  have:=eY (P:=P) ti (w:=w') (b:=b) (o:=o+off) (cs:=(cs.drop off).take i.size) (by rw[hs,q2])
   (λha=>by rw[<-q2];exact tZ (q3.trans ha)) (λj u hj=>by rw[Rz];exact vO.cell (at_ _ _ (dU hj)))
  simp only[Instr.loadAt,Instr.sureAddr,Sem.run_bind,Sem.run_pure,Result.andThen_ok,this];unfold mkV;rw[q3]
 split at k
 .rename_i sh d;split at k
  .rename_i q hq;refine⟨_,k,λhG pv hp=>?_⟩
   obtain⟨b,o,cs,rfl,r,at_⟩:=hp;have:=typed (b:=b) (o:=o) (off:=0) r (λj u hj=>xQ (ah.ok.hw _ _ _ (at_ j u hj)) (Rd.one _ r u (lI hj)).2) hq
   simpa using this
  .cases k
 .rename_i r off;unfold Wj at k;split at k
  .rename_i Gr tt cs hT;split at k
   .rename_i hs;split at k
    .rename_i ha;split at k
     .rename_i hle;refine⟨_,k,λhG pv hp=>?_⟩
      obtain⟨b,hb,rfl⟩:=hp;obtain⟨ys,he,hall⟩:=ah.ok.holds r _ _ (aU hT (dJ hs hG)) hb;have hlen:=hall.length;have hle:off+i.size<=cs.length:=by have:=kM hle;rwa [aK]at this
      refine⟨.agg ((ys.drop off).take i.size).toArray,λw' vO=>?_,_,rfl,?_⟩
      .have:=eY (P:=P) ti (w:=w') (b:=b) (o:=off) (cs:=(ys.drop off).take i.size) (by rw[lY,xq];omega) (λh'=>by rw[ha]at h';cases h')
        (λj u hj=>vO.cell (by rw[cell_of_row w b (off+j) ys.toArray tt (0,0) he];simpa using dU hj))
       simp only[Instr.loadAt,Instr.sureAddr,Sem.run_bind,Sem.run_pure,Result.andThen_ok,this,ha,if_true]
      .rw[gY,mQ];exact(hall.drop off).take i.size
     .cases k
    .rename_i ha;split at k
     .rename_i h1;split at k
      .rename_i x hx;refine⟨_,k,λhG pv hp=>?_⟩
       obtain⟨b,hb,rfl⟩:=hp;obtain⟨ys,he,hall⟩:=ah.ok.holds r _ _ (aU hT (dJ hs hG)) hb;obtain⟨y,hy,hxy⟩:=hall.get (show cs[off]?=some x by rw[<-bY];exact hx)
       refine⟨y,λw' vO=>?_,hxy⟩
       have h1:i.size=1:=fC h1;have:=eY (P:=P) ti (w:=w') (b:=b) (o:=off) (cs:=[y]) (by rw[h1];rfl) (λ_=>h1)
        (λj u hj=>by
         refine vO.cell ?_;rw[cell_of_row w b (off+j) ys.toArray tt (0,0) he]
         match j,hj with
         | 0,hj=>simp at hj;subst hj;simpa using hy)
       simp only[Instr.loadAt,Instr.sureAddr,Sem.run_bind,Sem.run_pure,Result.andThen_ok,this,ha];rfl
      .cases k
     .cases k
   .cases k
  .rename_i Gr tt sh d hT;split at k
   .rename_i hs;split at k
    .rename_i q hq;refine⟨_,k,λhG pv hp=>?_⟩
     obtain⟨b,hb,rfl⟩:=hp;obtain⟨ys,he,r'⟩:=ah.ok.holds r _ _ (aU hT (dJ hs hG)) hb;have:=typed (b:=b) (o:=0) r' (λj u hj=>by rw[cell_of_row w b (0+j) ys.toArray tt (0,0) he];simpa using hj) hq
     simpa using this
    .cases k
   .cases k
  .cases k
 .rename_i r j sz off;split at k
  .rename_i Gr tt sh l t2 e so own hsl hT;split at k
   .rename_i hs;rw[au,A8]at hs;obtain⟨hs,hz⟩:=hs;have hz:sz=sh.size:=fC hz;obtain⟨k1,k2⟩:=k;obtain⟨d,d1,d2⟩:=yh k1;have k3:=k2 d d1
    -- what is known of the element
    have elem:gv s.gl G=true->∀v g,β[r]?=some v->v.block=some g->∃us cs,β[r]?=some (.deep (match v with | .deep v _=>v | _=>jW) us)/\vF h w sh t2 e so (own j) (kE j hsl) (us j) cs d/\(∀i u,cs[i]?=some u->w.cell? ⟨g,j * sz+i,none⟩=some u):=by
     intro hG v g hb hg;have hold:=ah.ok.holds r _ _ (aU hT (dJ hs hG)) hb
     match v,hold,hg with
     | .deep v us,hold,hg=>
       obtain⟨_,_,h3⟩:=hold;rcases h3 with⟨hv,_⟩ | ⟨_,hv,_⟩ | ⟨g',cap,cur,hv,he,_,h4,_,_,h6⟩
       .subst hv;simp[RV.block,ak]at hg
       .subst hv;simp[RV.block,ak]at hg
       .subst hv;have hg:ak (.slice (some ⟨g',0,none⟩) l.length cap)=some g:=hg;rw[aJ h4.1]at hg;have hg:g'=g:=Rw hg;subst hg;refine⟨us,_,hb,h6 j d (d2 hG),λi u hi=>?_⟩
        have h5:=dU hi;rw[cell_of_row w g' _ cur tt (0,0) he,hz];simpa using h5
    split at k3
    .rename_i hdis;have hdis:off+i.size<=so\/so+1<=off:=by
      unfold SI at hdis;split at hdis
      .rename_i hh;exact .inl (kM hh)
      .exact .inr (kM hdis)
     split at k3
     .rename_i q hq;refine⟨_,k3,λhG pv hp=>?_⟩
      obtain⟨v,g,hb,hg,rfl⟩:=hp;obtain⟨us,cs,hb',el,at_⟩:=elem hG v g hb hg
      -- with the field emptied it reads as data
      have emp:∃d0 cs0,Rd h sh cs0 d0/\nZ sh d0 off i.size (iO i.desc)=some q/\∀i' u,i'≠so->cs0[i']?=some u->cs[i']?=some u:=by
       unfold vF at el;cases hh:kE j hsl with
       | false=>
         rw[hh]at el;cases ho:own j with
         | false=>rw[ho]at el;exact⟨d,cs,el.1,hq,λ_ _ _ x=>x⟩
         | true=>
           rw[ho]at el;obtain⟨d0,x,r0,p,_,_⟩:=el;exact⟨d0,_,r0,tV p hdis hq,λi' u hne hu=>by rwa [jU (Ne.symm hne)]at hu⟩
       | true=>
         rw[hh]at el;obtain⟨_,d0,x,r0,p,_⟩:=el;exact⟨d0,_,r0,tV p hdis hq,λi' u hne hu=>by rwa [jU (Ne.symm hne)]at hu⟩
      obtain⟨d0,cs0,r0,hq0,hc⟩:=emp;obtain⟨q1,q2,q3,q4⟩:=qE sh hq0 r0;have hsz:=Rd.size q.1 q1;refine⟨mkV q.1 ((cs0.drop off).take i.size),λw' vO=>?_,gq q.1 q1⟩
      have:=eY (P:=P) ti (w:=w') (b:=g) (o:=j * sz+off) (cs:=(cs0.drop off).take i.size) (by rw[hsz,q2])
       (λha=>by rw[<-q2];exact tZ (q3.trans ha)) (λi' u hj=>by
        have gX:i' < i.size:=by
         rw[qU]at hj;split at hj
         .assumption
         .cases hj
        rw[Rz];exact vO.cell (at_ _ _ (hc _ _ (by omega) (dU hj))))
      simp only[Instr.loadAt,Instr.sureAddr,Sem.run_bind,Sem.run_pure,Result.andThen_ok,this];unfold mkV;rw[q3]
     .cases k3
    .obtain⟨m1,m2,m3⟩:=k3;cases ho:own j with
     | true=>
       have m4:=m2 ho;split at m4
       .rename_i hz2;rw[au,au,A8,A8]at hz2;have a1:off=so:=fC hz2.1;have a2:i.size=1:=fC hz2.2.1;have a3:iO i.desc=false:=by simpa using hz2.2.2
        refine⟨_,m4,λhG pv hp=>?_⟩
        obtain⟨v,g,hb,hg,rfl⟩:=hp;obtain⟨us,cs,hb',el,at_⟩:=elem hG v g hb hg;rw[ho,dG m1 hG]at el;obtain⟨d0,x,_,_,hu,rh⟩:=el;refine⟨us j,λw' vO=>?_,⟨⟨_,us,hb',rfl⟩,?_⟩⟩
        .have:=eY (P:=P) ti (w:=w') (b:=g) (o:=j * sz+off) (cs:=[us j]) (by rw[a2];rfl) (λ_=>a2)
          (λi' u hj=>by
           match i',hj with
           | 0,hj=>
             simp at hj;subst hj;rw[a1];exact vO.cell (at_ so _ hu))
         simp only[Instr.loadAt,Instr.sureAddr,Sem.run_bind,Sem.run_pure,Result.andThen_ok,this,a3];rfl
        .rcases rh with⟨e1,_⟩ | ⟨_,e1,_⟩ | ⟨_,_,_,e1,_⟩<;>rw[e1]<;>exact⟨rfl,rfl⟩
       .cases m4
     | false=>
       have m4:=m3 ho;split at m4
       .rename_i q hq;refine⟨_,m4,λhG pv hp=>?_⟩
        obtain⟨v,g,hb,hg,rfl⟩:=hp;obtain⟨us,cs,hb',el,at_⟩:=elem hG v g hb hg;rw[ho,dG m1 hG]at el;exact typed (b:=g) (o:=j * sz) (cs:=cs) el.1 at_ hq
       .cases m4
   .cases k
  unfold loadRow at k;split at k
  .rename_i Gr tt sh l hT;split at k
   .rename_i hs;rw[au,A8]at hs;obtain⟨hs,hz⟩:=hs;have hz:sz=sh.size:=fC hz;obtain⟨k1,k2⟩:=k;have hd:∃d:sh.den,(gv s.gl G=true->l[j]?=some d):=by
     by_cases hG:gv s.gl G=true
     .have:=dG k1 hG;exact⟨l[j],λ_=>lH this⟩
     .exact⟨dflt sh,λhh=>(hG hh).elim⟩
    obtain⟨d,hd⟩:=hd;have k3:=k2 d (by cases G with | nil=>exact hd rfl | cons x g=>exact hd)
    split at k3
    .rename_i q hq;refine⟨_,k3,λhG pv hp=>?_⟩
     obtain⟨v,g,hb,hg,rfl⟩:=hp;have hold:=ah.ok.holds r _ _ (aU hT (dJ hs hG)) hb
     match v,hold with
     | .row v,hold=>
       rcases hold with⟨hv,_⟩ | ⟨_,hv,_⟩ | ⟨g',cap,cur,hv,he,h2,h3,h4,r'⟩
       .subst hv;simp[RV.block,ak]at hg
       .subst hv;simp[RV.block,ak]at hg
       .subst hv;rw[show RV.block (.row (.slice (some ⟨g',0,none⟩) l.length cap))=some g' from mO h3.1]at hg
        have hg:g'=g:=Rw hg;subst hg;obtain⟨g1,g2⟩:=r'.get (λ_ _=>Rd.size sh) (hd hG)
        have:=typed (b:=g') (o:=j * sz) (cs:=(((cur.toList.take (l.length * sh.size)).drop (j * sh.size)).take sh.size)) g1 (λi u hi=>by
         have h5:=dU hi;rw[qU]at h5;split at h5
         .rw[cell_of_row w g' _ cur tt (0,0) he,hz];simpa using h5
         .cases h5) hq
        exact this
    .cases k3
   .cases k
  .rename_i Gr tt sh d0 hT;split at k
   .rename_i p hp0;split at k
    .rename_i hs;rw[au,A8]at hs;obtain⟨hs,hz⟩:=hs;have hz:sz=p.1.size:=fC hz;obtain⟨k1,k2⟩:=k;have hd:∃d:p.1.den,(gv s.gl G=true->p.2.1[j]?=some d):=by
      by_cases hG:gv s.gl G=true
      .have:=dG k1 hG;have hl:p.2.1.length=p.2.2.1:=by
        have dM:=aU hT (dJ hs hG);have gX:r < β.length:=by rw[ah.ok.len];exact(fM.1 dM).1
        have hold:=ah.ok.holds r _ _ dM (lH gX)
        match β[r],hold with
        | .blk b,⟨ys,_,r'⟩=>
          obtain⟨base,_,e2,_⟩:=tK sh hp0 r';exact e2
       exact⟨p.2.1[j],λ_=>lH (by omega)⟩
      .exact⟨dflt p.1,λhh=>(hG hh).elim⟩
     obtain⟨d,hd⟩:=hd;have k3:=k2 d (by cases G with | nil=>exact hd rfl | cons x g=>exact hd)
     split at k3
     .rename_i q hq;refine⟨_,k3,λhG pv hp=>?_⟩
      obtain⟨v,g,hb,hg,rfl⟩:=hp;have hold:=ah.ok.holds r _ _ (aU hT (dJ hs hG)) hb
      match v,hold with
      | .blk b,⟨ys,he,r'⟩=>
        simp[RV.block]at hg;subst hg;obtain⟨base,e1,e2,e3,e4⟩:=tK sh hp0 r';obtain⟨g1,g2⟩:=e4.get (λ_ _=>Rd.size p.1) (hd hG)
        have:=typed (b:=b) (o:=base+j * sz) (cs:=((((ys.drop base).take (p.2.2.1 * p.1.size)).drop (j * p.1.size)).take p.1.size)) g1 (λi u hi=>by
         have h5:=dU hi;rw[qU]at h5;split at h5
         .rw[Ea]at h5;rw[cell_of_row w b _ ys.toArray tt (0,0) he,hz,Rz];simpa using h5
         .cases h5) hq
        rw[show j * sz+off=base+j * sz+p.2.2.2 by omega]
        exact this
     .cases k3
    .cases k
   .cases k
  .cases k
 .rename_i r j k0 sz off;unfold Je at k;obtain⟨e,x,k1,k2⟩:=xC ah k;split at k1
  .rename_i hz;have hz:sz=e.size:=fC hz;obtain⟨m1,m2⟩:=k1;obtain⟨y,y1,y2⟩:=yh m1;have m3:=m2 y y1;split at m3
   .rename_i q hq;refine⟨_,m3,λhG pv hp=>?_⟩
    obtain⟨v,us,g,hb,hg,rfl⟩:=hp;obtain⟨tt,rh⟩:=k2 hG v us hb;rcases rh with⟨hv,_⟩ | ⟨_,hv,_⟩ | ⟨g',cap,cur,hv,he,h2,h3,h4,r'⟩
    .rw[hv]at hg;simp[ak]at hg
    .rw[hv]at hg;simp[ak]at hg
    .rw[hv,aJ h3.1]at hg;have hg:g'=g:=Rw hg;subst hg;obtain⟨g1,g2⟩:=r'.get (λ_ _=>Rd.size e) (y2 hG)
     exact typed (b:=g') (o:=k0 * sz) (cs:=(((cur.toList.take (x.length * e.size)).drop (k0 * e.size)).take e.size)) g1 (λi u hi=>by
      have h5:=dU hi;rw[qU]at h5;split at h5
      .rw[cell_of_row w g' _ cur tt (0,0) he,hz];simpa using h5
      .cases h5) hq
   .cases m3
  .cases k1
 .cases k
abbrev Jf(gl:List Bool) (G:Gd) (sh:Sh) (l:List sh.den) (n:Int) (len:Nat) (K:sh.den->Prop):Prop:=
 side gl G (0<=n/\n < len)/\∀d:sh.den,side gl G (l[n.toNat]?=some d)->K d
theorem yu{sh:Sh}{l:List sh.den}{len:Nat}{K:sh.den->Prop} (k:Jf gl G sh l n len K) (hl:gv gl G=true->l.length=len):
 ∃d,K d/\(gv gl G=true->(0<=n/\n < len)/\l[n.toNat]?=some d):=by
 obtain⟨k1,k2⟩:=k
 by_cases hG:gv gl G=true
 .have h1:=dG k1 hG;have h2:=hl hG;have h3:n.toNat < l.length:=by omega
  refine⟨l[n.toNat],k2 _ ?_,λ_=>⟨h1,lH h3⟩⟩
  cases G with
  | nil=>exact lH h3
  | cons x g=>exact λ_=>lH h3
 .refine⟨dflt sh,k2 _ ?_,λhh=>(hG hh).elim⟩
  cases G with
  | nil=>exact(hG rfl).elim
  | cons x g=>exact λhh=>(hG hh).elim
abbrev rV(cx:Cx) (s:St) (G:Gd) (t:TypeId) (x:SC) (n:Int) (K:bK->Prop):Prop:=match lG cx.ti t with
 | none=>False
 | some i=>match i.desc with
   | .slice el=>match lG cx.ti el with
     | none=>False
     | some ie=>match x with
       | .sl sh l=>match Nat.beq ie.size sh.size with
         | true=>Jf s.gl G sh l n l.length λd=>K (.one (.c (.fp sh d)))
         | false=>False
       | .row r=>match bW s.T r with
         | some (Gr,.row _ sh l)=>match bJ (mW Gr G) (Nat.beq ie.size sh.size) with
           | true=>side s.gl G (0<=n/\n < l.length)/\K (.one (.c (.iw r n.toNat sh.size 0)))
           | false=>False
         | some (Gr,.deep _ sh l _ _ _ _ _)=>match bJ (mW Gr G) (Nat.beq ie.size sh.size) with
           | true=>side s.gl G (0<=n/\n < l.length)/\K (.one (.c (.iw r n.toNat sh.size 0)))
           | false=>False
         | _=>False
       | .sub r j=>KZ s G r j λe x=>match Nat.beq ie.size e.size with
         | true=>side s.gl G (0<=n/\n < x.length)/\K (.one (.c (.jC r j n.toNat e.size 0)))
         | false=>False
       | _=>False
   | .array m el=>match lG cx.ti el with
     | none=>False
     | some ie=>match x with
       | .fp (.arr m' sh) l=>match bJ (Nat.beq m m') (Nat.beq ie.size sh.size) with
         | true=>Jf s.gl G sh l n l.length λd=>K (.one (.c (.fp sh d)))
         | false=>False
       | .own r off=>match bW s.T r with
         | some (Gr,.obj _ sh d)=>match lM sh d off with
           | some p=>match bJ (mW Gr G) (bJ (Nat.beq m p.2.2.1) (Nat.beq ie.size p.1.size)) with
             | true=>side s.gl G (0<=n/\n < m)/\K (.one (.c (.iw r n.toNat p.1.size off)))
             | false=>False
           | none=>False
         | _=>False
       | _=>False
   | _=>False
theorem ji{el:TypeId}{ie:TI} (k:aS P t i) (hd:i.desc=.slice el) (ke:aS P el ie){len:Nat} (h0:0<=n) (h1:n < len):
 (Instr.indexAt t (.slice (some ⟨b,o,none⟩) len cap) (.int ik n)).run P w=.ok (.pointer (some ⟨b,o+n.toNat * ie.size,none⟩)) w:=by
 have hu:=k.zZ hd rfl;simp[Instr.indexAt,asIntOf,run_underlying hu,h0,h1,run_sizeOf ke,add_lit]
theorem oJ{el:TypeId}{ie:TI}{m:Nat} (k:aS P t i) (hd:i.desc=.array m el) (ke:aS P el ie) (h0:0<=n) (h1:n < m):
 (Instr.indexAt t (.pointer (some ⟨b,o,none⟩)) (.int ik n)).run P w=.ok (.pointer (some ⟨b,o+n.toNat * ie.size,none⟩)) w:=by
 have hu:=k.zZ hd rfl;simp[Instr.indexAt,asIntOf,run_underlying hu,Instr.sureAddr,h0,h1,run_sizeOf ke,add_lit]
theorem fA(a:Option Addr):bM (.pointer a):=⟨rfl,rfl⟩
theorem At.get{α:Type}{h:FH}{b o:Nat}{cs:List Value}{l:List α}{R:List Value->α->Prop}{k j:Nat}{d:α} (hR:∀c d,R c d->c.length=k) (r:dQ R cs l) (at_:At h b o cs) (e:l[j]?=some d):
 ∃c,R c d/\At h b (o+j * k) c:=by
 obtain⟨g1,g2⟩:=r.get hR e;exact⟨_,g1,at_.sub _ _⟩
theorem qY(hc:bG P cx.ti) (ah:Sat N B h0 s h β w a)
 {x:SC} (k:rV cx s G t x n K):
 ∃e,K e/\(gv s.gl G=true->∀xv,bU h β x xv->∃y,(∀w,(Instr.indexAt t xv (.int ik n)).run P w=.ok y w)/\gJ h β e y):=by
 unfold rV at k;split at k
 .cases k
 rename_i i hi;have ti:=hc.get hi;split at k
 .rename_i el hd;split at k
  .cases k
  rename_i ie hie;have tie:=hc.get hie;split at k
  .rename_i sh l;split at k
   .rename_i hz;have hz:ie.size=sh.size:=fC hz;obtain⟨d,k1,k2⟩:=yu k λ_=>rfl
    refine⟨_,k1,λhG xv hx=>?_⟩
    obtain⟨⟨h1,h2⟩,h3⟩:=k2 hG;rcases hx with⟨rfl,rfl⟩ | ⟨_,_,rfl,rfl,_⟩ | ⟨b,off,cap,rfl,q1,q2,cs,r,at_⟩
    .simp at h3
    .simp at h3
    .obtain⟨c,g1,g2⟩:=at_.get (λ_ _=>Rd.size sh) r h3
     refine⟨_,λ_=>ji ti hd tie h1 h2,⟨b,_,c,rfl,g1,?_⟩,fA _⟩
     rw[hz];exact g2
   .cases k
  .rename_i r;split at k
   .rename_i Gr tt sh l hT;split at k
    .rename_i hs;rw[au,A8]at hs;obtain⟨hs,hz⟩:=hs;have hz:ie.size=sh.size:=fC hz;refine⟨_,k.2,λhG xv hx=>?_⟩
     obtain⟨h1,h2⟩:=dG k.1 hG;have hx':=ah.ok.row_of (aU hT (dJ hs hG)) hx;rcases ah.ok.holds r _ _ (aU hT (dJ hs hG)) hx' with⟨rfl,rfl⟩ | ⟨_,rfl,rfl⟩ | ⟨g,cap,cur,rfl,_,_,hcp,_⟩
     .simp at h2;omega
     .simp at h2;omega
     .refine⟨_,λ_=>ji ti hd tie h1 h2,⟨_,g,hx',mO hcp.1,?_⟩,fA _⟩
      simp[hz]
    .cases k
   .rename_i Gr tt sh l t2 e so own hsl hT;split at k
    .rename_i hs;rw[au,A8]at hs;obtain⟨hs,hz⟩:=hs;have hz:ie.size=sh.size:=fC hz;refine⟨_,k.2,λhG xv hx=>?_⟩
     obtain⟨h1,h2⟩:=dG k.1 hG;obtain⟨us,hx',_,_,hold⟩:=ah.ok.qG (aU hT (dJ hs hG)) hx;rcases hold with⟨rfl,rfl⟩ | ⟨_,rfl,rfl⟩ | ⟨g,cap,cur,rfl,_,_,hcp,_⟩
     .simp at h2;omega
     .simp at h2;omega
     .refine⟨_,λ_=>ji ti hd tie h1 h2,⟨_,g,hx',aJ (n:=l.length) hcp.1,?_⟩,fA _⟩
      simp[hz]
    .cases k
   .cases k
  .rename_i r j;obtain⟨e,x,k1,k2⟩:=xC ah k;split at k1
   .rename_i hz;have hz:ie.size=e.size:=fC hz;refine⟨_,k1.2,λhG xv hx=>?_⟩
    obtain⟨h1,h2⟩:=dG k1.1 hG;obtain⟨v,us,hb,rfl⟩:=hx;obtain⟨tt,rh⟩:=k2 hG v us hb;rcases rh with⟨_,rfl⟩ | ⟨_,_,rfl⟩ | ⟨g,cap,cur,hv,_,_,hcp,_⟩
    .simp at h2;omega
    .simp at h2;omega
    .rw[hv];refine⟨_,λ_=>ji ti hd tie h1 h2,⟨v,us,g,hb,by rw[hv];exact aJ (n:=x.length) hcp.1,?_⟩,fA _⟩
     simp[hz]
   .cases k1
  .cases k
 .rename_i m el hd;split at k
  .cases k
  rename_i ie hie;have tie:=hc.get hie;split at k
  .rename_i m' sh l;split at k
   .rename_i hz;rw[au,A8]at hz;have hm:m=m':=fC hz.1;have hz':ie.size=sh.size:=fC hz.2;subst hm;obtain⟨d,k1,k2⟩:=yu k λ_=>rfl
    refine⟨_,k1,λhG xv hx=>?_⟩
    obtain⟨⟨h1,h2⟩,h3⟩:=k2 hG;obtain⟨b,o,cs,rfl,⟨hl,r⟩,at_⟩:=hx;obtain⟨c,g1,g2⟩:=at_.get (λ_ _=>Rd.size sh) r h3
    refine⟨_,λ_=>oJ ti hd tie h1 (by omega),⟨b,_,c,rfl,g1,?_⟩,fA _⟩
    rw[hz'];exact g2
   .cases k
  .rename_i r off;split at k
   .rename_i Gr tt sh d hT;split at k
    .rename_i p hp;split at k
     .rename_i hs;rw[au,au,A8,A8]at hs;obtain⟨hs,hm,hz⟩:=hs;have hm:m=p.2.2.1:=fC hm;have hz:ie.size=p.1.size:=fC hz;refine⟨_,k.2,λhG xv hx=>?_⟩
      obtain⟨h1,h2⟩:=dG k.1 hG;obtain⟨b,hb,rfl⟩:=hx;refine⟨_,λ_=>oJ ti hd tie h1 h2,⟨_,b,hb,rfl,?_⟩,fA _⟩
      rw[hz,ND]
     .cases k
    .cases k
   .cases k
  .cases k
 .cases k
abbrev Gy(cx:Cx) (s:St) (G:Gd) (t:TypeId) (x:SV) (n:Int) (K:bK->Prop):Prop:=match lG cx.ti t with
 | none=>False
 | some i=>match i.desc with
   | .string=>match x with
     | .c (.v (.string b))=>side s.gl G (0<=n/\n < b.size)/\∀u:UInt8,side s.gl G (b[n.toNat]?=some u)->K (vI .u8 u.toNat)
     | _=>False
   | .array m el=>match lG cx.ti el with
     | none=>False
     | some ie=>match x with
       | .dat (.arr m' sh) l=>match bJ (Nat.beq m m') (bJ (Nat.beq ie.size sh.size) (KU (iO ie.desc) sh.isAgg)) with
         | true=>Jf s.gl G sh l n l.length λd=>K (.one (fO sh d))
         | false=>False
       | _=>False
   | _=>False
theorem uf(k:aS P t i){c:List Value} (hc:c.length=i.size) (h1:iO i.desc=false->i.size=1) (he:(cs.drop o).take i.size=c):
 (part t cs.toArray o).run P w=.ok (if iO i.desc=true then .agg c.toArray else c.headD undef) w:=by
 unfold part;rw[Sem.run_bind,AO k];simp only[Result.andThen_ok];cases hd:iO i.desc with
 | true=>
   simp only[if_true,Sem.run_bind,run_sizeOf k,Result.andThen_ok,Sem.run_pure]
   congr 2
   simp only[List.extract_toArray,List.extract_eq_take_drop,Nat.add_sub_cancel_left];rw[he]
 | false=>
   have h:=h1 hd
   match c,hc,he with
   | [u],_,he=>
     have:cs[o]?=some u:=by
      have e1:((cs.drop o).take i.size)[0]?=some u:=by rw[he];rfl
      exact dU e1
     simp[this]
   | [],hc,_=>simp at hc;omega
   | _ :: _ :: _,hc,_=>simp at hc;omega
theorem La(hc:bG P cx.ti)
 {x:SV} (k:Gy cx s G t x n K):
 ∃e,K e/\(gv s.gl G=true->∀w xv,bI h β x xv->∃y,(Instr.index t xv (.int ik n)).run P w=.ok y w/\gJ h β e y):=by
 unfold Gy at k;split at k
 .cases k
 rename_i i hi;have ti:=hc.get hi;split at k
 .rename_i hd;split at k
  .rename_i b;obtain⟨k1,k2⟩:=k;have hu:∃u:UInt8,(gv s.gl G=true->(0<=n/\n < b.size)/\b[n.toNat]?=some u):=by
    by_cases hG:gv s.gl G=true
    .have h1:=dG k1 hG;have h2:n.toNat < b.size:=by omega
     exact⟨b[n.toNat],λ_=>⟨h1,by simp[h2]⟩⟩
    .exact⟨0,λhh=>(hG hh).elim⟩
   obtain⟨u,hu⟩:=hu;refine⟨_,k2 u (by cases G with | nil=>exact(hu rfl).2 | cons x g=>exact λhh=>(hu hh).2),λhG w xv hx=>?_⟩
   obtain⟨⟨h1,h2⟩,h3⟩:=hu hG;obtain⟨⟨rfl,_⟩,_⟩:=hx;refine⟨_,?_,⟨rfl,aW _ _⟩,aW _ _⟩;have hu:=ti.zZ hd rfl;simp[Instr.index,asIntOf,run_underlying hu,h1,h3]
  .cases k
 .rename_i m el hd;split at k
  .cases k
  rename_i ie hie;have tie:=hc.get hie;split at k
  .rename_i m' sh l;split at k
   .rename_i hz;rw[au,au,A8,A8]at hz;have hm:m=m':=fC hz.1;have hs:ie.size=sh.size:=fC hz.2.1;have ha:=BZ hz.2.2;subst hm;obtain⟨d,k1,k2⟩:=yu k λ_=>rfl
    refine⟨_,k1,λhG w xv hx=>?_⟩
    obtain⟨⟨h1,h2⟩,h3⟩:=k2 hG;obtain⟨_,cs,rfl,hl,r⟩:=hx;obtain⟨g1,g2⟩:=r.get (λ_ _=>Rd.size sh) h3
    have hu:=ti.zZ hd rfl;have hp:=uf (P:=P) tie (w:=w) (cs:=cs) (o:=n.toNat * ie.size) (c:=(cs.drop (n.toNat * sh.size)).take sh.size) (by rw[Rd.size sh g1,hs]) (λhh=>by rw[hs];exact tZ (by rw[<-ha];exact hh)) (by rw[hs])
    refine⟨mkV sh ((cs.drop (n.toNat * sh.size)).take sh.size),?_,gq sh g1⟩;have h4:n < m:=by omega
    simp only[Instr.index,asIntOf,Sem.run_bind,Sem.run_pure,Result.andThen_ok,run_underlying hu,h1,h4,and_self,if_true,run_sizeOf tie,hp];unfold mkV;rw[ha]
   .cases k
  .cases k
 .cases k
abbrev lN(i:TI) (f:Nat):Option Field:=match i.desc with
 | .struct fs=>bW (tl fs) f
 | _=>none
abbrev rW(cx:Cx) (s:St) (G:Gd) (t:TypeId) (x:SC) (f:Nat) (K:bK->Prop):Prop:=match lG cx.ti t with
 | none=>False
 | some i=>match lN i f with
   | none=>False
   | some fd=>match lG cx.ti fd.type with
     | none=>False
     | some fi=>match Nat.beq fi.size 0 with
       | true=>False
       | false=>match x with
         | .own r off=>K (.one (.c (.own r (off+fd.offset))))
         | .iw r j sz off=>K (.one (.c (.iw r j sz (off+fd.offset))))
         | .jC r j k sz off=>K (.one (.c (.jC r j k sz (off+fd.offset))))
         | .fp sh d=>match nZ sh d fd.offset fi.size (iO fi.desc) with
           | some q=>K (.one (.c (.fp q.1 q.2)))
           | none=>False
         | _=>False
theorem Eo{fd:Field} (h:lN i f=some fd):∃fs,i.desc=.struct fs/\fs[f]?=some fd:=by
 unfold lN at h;split at h
 .rename_i fs hd;refine⟨fs,hd,?_⟩;rw[bY]at h;cases fs with | mk l=>simpa using h
 .cases h
theorem yw(k:aS P t i){fd:Field} (h:lN i f=some fd):∃fs fd0,P.underlying t=some (.struct fs)/\fs[f]?=some fd0/\fd0.type=fd.type/\fd0.offset=fd.offset:=by
 obtain⟨fs,hd,hfs⟩:=Eo h;obtain⟨fs0,h1,rfl⟩:=k.Cm hd;rw[Array.getElem?_map]at hfs;cases h0:fs0[f]? with
 | none=>rw[h0]at hfs;cases hfs
 | some fd0=>rw[h0]at hfs;cases hfs;exact⟨fs0,fd0,h1,h0,rfl,rfl⟩
theorem lQ{fi:TI}{fd:Field} (k:aS P t i) (hf:lN i f=some fd) (kf:aS P fd.type fi) (hz:Nat.beq fi.size 0=false):
 (Instr.fieldAt t (.pointer (some ⟨b,o,none⟩)) f).run P w=.ok (.pointer (some ⟨b,o+fd.offset,none⟩)) w:=by
 obtain⟨fs,fd0,hu,hfs,e1,e2⟩:=yw k hf;have hz:¬fi.size=0:=λh=>by rw[h]at hz;cases hz
 simp[Instr.fieldAt,run_underlying hu,hfs,Instr.sureAddr,fieldPlace,e1,e2,run_sizeOf kf,hz,add_lit]
theorem qZ(hc:bG P cx.ti)
 {x:SC} (k:rW cx s G t x f K):
 ∃e,K e/\(gv s.gl G=true->∀xv,bU h β x xv->∃y,(∀w,(Instr.fieldAt t xv f).run P w=.ok y w)/\gJ h β e y):=by
 unfold rW at k;split at k
 .cases k
 rename_i i hi;split at k
 .cases k
 rename_i fd hf;split at k
 .cases k
 rename_i fi hfi;split at k
 .cases k
 rename_i hz;have ti:=hc.get hi;have Wn:=hc.get hfi;split at k
 .refine⟨_,k,λhG xv hx=>?_⟩
  obtain⟨b,hb,rfl⟩:=hx;exact⟨_,λ_=>lQ ti hf Wn hz,⟨b,hb,rfl⟩,fA _⟩
 .refine⟨_,k,λhG xv hx=>?_⟩
  obtain⟨v,g,hb,hg,rfl⟩:=hx;exact⟨_,λ_=>lQ ti hf Wn hz,⟨v,g,hb,hg,by rw[Rz]⟩,fA _⟩
 .refine⟨_,k,λhG xv hx=>?_⟩
  obtain⟨v,us,g,hb,hg,rfl⟩:=hx;exact⟨_,λ_=>lQ ti hf Wn hz,⟨v,us,g,hb,hg,by rw[Rz]⟩,fA _⟩
 .rename_i sh d;split at k
  .rename_i q hq;refine⟨_,k,λhG xv hx=>?_⟩
   obtain⟨b,o,cs,rfl,r,at_⟩:=hx;obtain⟨q1,q2,q3,q4⟩:=qE sh hq r;exact⟨_,λ_=>lQ ti hf Wn hz,⟨b,_,_,rfl,q1,at_.sub _ _⟩,fA _⟩
  .cases k
 .cases k
abbrev Gz(cx:Cx) (t:TypeId) (x:SV) (f:Nat) (K:bK->Prop):Prop:=match lG cx.ti t with
 | none=>False
 | some i=>match lN i f with
   | none=>False
   | some fd=>match lG cx.ti fd.type with
     | none=>False
     | some fi=>match x with
       | .agg xs=>match Nat.ble (fd.offset+fi.size) (aC xs) with
         | true=>match iO fi.desc with
           | true=>K (.one (.agg (mP fi.size (Ej fd.offset xs))))
           | false=>match Nat.beq fi.size 1 with
             | true=>match bW xs fd.offset with
               | some c=>K (.one (.c c))
               | none=>False
             | false=>False
         | false=>False
       | .dat sh d=>match nZ sh d fd.offset fi.size (iO fi.desc) with
         | some q=>K (.one (fO q.1 q.2))
         | none=>False
       | _=>False
theorem Lc(hc:bG P cx.ti)
 {x:SV} (k:Gz cx t x f K):
 ∃e,K e/\(gv s.gl G=true->∀w xv,bI h β x xv->∃y,(Instr.field t xv f).run P w=.ok y w/\gJ h β e y):=by
 unfold Gz at k;split at k
 .cases k
 rename_i i hi;split at k
 .cases k
 rename_i fd hf;split at k
 .cases k
 rename_i fi hfi;have ti:=hc.get hi;have Wn:=hc.get hfi;obtain⟨fs,fd0,hu,hfs,e1,e2⟩:=yw ti hf;have run:∀(w:World) (cs:List Value),(Instr.field t (.agg cs.toArray) f).run P w=(part fd.type cs.toArray fd.offset).run P w:=by
  intro w cs;simp[Instr.field,run_underlying hu,hfs,asAgg,e1,e2]
 split at k
 .rename_i xs;split at k
  .rename_i hle;split at k
   .rename_i ha;refine⟨_,k,λhG w xv hx=>?_⟩
    obtain⟨ys,rfl,hall⟩:=hx;have hlen:=hall.length;have hle:fd.offset+fi.size<=xs.length:=by have:=kM hle;rwa [aK]at this
    refine⟨.agg ((ys.drop fd.offset).take fi.size).toArray,?_,_,rfl,?_⟩
    .rw[run,uf Wn (by rw[lY,xq];omega) (λhh=>by rw[ha]at hh;cases hh) rfl,ha];rfl
    .rw[gY,mQ];exact(hall.drop _).take _
   .rename_i ha;split at k
    .rename_i h1;have h1:fi.size=1:=fC h1;split at k
     .rename_i c hcx;refine⟨_,k,λhG w xv hx=>?_⟩
      obtain⟨ys,rfl,hall⟩:=hx;obtain⟨y,hy,hxy⟩:=hall.get (show xs[fd.offset]?=some c by rw[<-bY];exact hcx)
      have he:(ys.drop fd.offset).take fi.size=[y]:=by
       rw[h1];obtain⟨gX,hyy⟩:=fM.1 hy;rw[List.drop_eq_getElem_cons gX,List.take_succ_cons,KG,hyy]
      refine⟨y,?_,hxy⟩;rw[run,uf Wn (c:=[y]) (by rw[h1];rfl) (λ_=>h1) he,ha];rfl
     .cases k
    .cases k
  .cases k
 .rename_i sh d;split at k
  .rename_i q hq;refine⟨_,k,λhG w xv hx=>?_⟩
   obtain⟨_,cs,rfl,r⟩:=hx;obtain⟨q1,q2,q3,q4⟩:=qE sh hq r;refine⟨mkV q.1 ((cs.drop fd.offset).take fi.size),?_,gq q.1 q1⟩;rw[run,uf Wn (c:=(cs.drop fd.offset).take fi.size) (by rw[Rd.size q.1 q1,q2]) (λhh=>by rw[<-q2];exact tZ (q3.trans hh)) rfl]
   unfold mkV;rw[q3]
  .cases k
 .cases k
abbrev unK(gl:List Bool) (G:Gd) (op:UnOp) (x:Value) (K:bK->Prop):Prop:=match op with
 | .not=>match x with
   | .bool b=>K (vB (!b))
   | _=>False
 | .neg=>match x with
   | .int k n=>arith gl G k (0 - n) K
   | _=>False
 | _=>False
theorem NU{op:UnOp}{x:Value} (k:unK gl G op x K):Good gl G P (Op.unary op x) K:=by
 unfold unK at k;split at k
 .split at k
  .exact⟨_,k,bH _,λ_ w=>rfl⟩
  .cases k
 .split at k
  .exact tY k λ_ w=>rfl
  .cases k
 .cases k
abbrev descOf(cx:Cx) (t:TypeId):TypeDesc:=match lG cx.ti t with
 | some i=>i.desc
 | none=>.invalid
abbrev NV(cx:Cx) (gl:List Bool) (G:Gd) (src dst:TypeId) (x:Value) (K:bK->Prop):Prop:=match lG cx.ti src with
 | none=>False
 | some _=>match descOf cx dst with
   | .int k=>match x with
     | .int _ n=>arith gl G k n K
     | _=>False
   | .string=>match x with
     | .string b=>K (vS b)
     | _=>False
   | _=>False
theorem aV(hc:bG P cx.ti){d:TypeDesc} (h:descOf cx t=d) (hd:d≠.invalid) (hs:aa0 d=false:=by rfl):P.underlying t=some d:=by
 unfold descOf at h;split at h
 .rename_i i hi;exact(hc.get hi).zZ h hs
 .exact(hd h.symm).elim
theorem NW(hc:bG P cx.ti){src dst:TypeId}{x:Value} (k:NV cx gl G src dst x K):
 Good gl G P (convert src dst x) K:=by
 unfold NV at k;split at k
 .cases k
 rename_i i hi;obtain⟨d0,hs,_⟩:=(hc.get hi).und;split at k
 .rename_i kd hd;have hu:=aV hc hd (by simp)
  split at k
  .refine tY k λ_ w=>?_
   simp[convert,run_underlying hs,run_underlying hu,Conv.intToInt]
  .cases k
 .rename_i hd;have hu:=aV hc hd (by simp)
  split at k
  .refine⟨_,k,dS _,λ_ w=>?_⟩
   simp only[convert,Sem.run_bind,run_underlying hs,run_underlying hu,Result.andThen_ok];rfl
  .cases k
 .cases k
abbrev Xu(cx:Cx) (s:St) (G:Gd) (t:TypeId) (x:SV) (K:bK->Prop):Prop:=match descOf cx t with
 | .slice _=>match x with
   | .c (.sl _ l)=>K (vI .i64 l.length)
   | .c (.row r)=>match bW s.T r with
     | some (Gr,.row _ _ l)=>match mW Gr G with
       | true=>K (vI .i64 l.length)
       | false=>False
     | some (Gr,.deep _ _ l _ _ _ _ _)=>match mW Gr G with
       | true=>K (vI .i64 l.length)
       | false=>False
     | _=>False
   | .c (.sub r j)=>KZ s G r j λ_ x=>K (vI .i64 x.length)
   | .c (.v (.slice _ n _))=>K (vI .i64 n)
   | _=>False
 | .string=>match x with
   | .c (.v (.string b))=>K (vI .i64 b.size)
   | _=>False
 | .array n _=>K (vI .i64 n)
 | _=>False
theorem Jg(hc:bG P cx.ti) (ah:Sat N B h0 s h β w a)
 {ty:TypeId}{x:SV} (k:Xu cx s G t x K):
 ∃e,K e/\(gv s.gl G=true->∀xv,bI h β x xv->∃y,(∀w,(Builtin.len_ #[t] ty #[xv]).run P w=.ok y w)/\gJ h β e y):=by
 have int:∀n:Nat,gJ h β (vI .i64 (n:Int)) (goInt n):=λn=>⟨⟨rfl,aW _ _⟩,aW _ _⟩
 unfold Xu at k;split at k
 .rename_i el hd;have hu:=aV hc hd (by simp)
  split at k
  .rename_i sh l;refine⟨_,k,λhG xv hx=>?_⟩
   rcases hx.1 with⟨rfl,rfl⟩ | ⟨_,_,rfl,rfl,_⟩ | ⟨b,off,cap,rfl,_⟩
   .exact⟨_,λ_=>by simp[Builtin.len_,run_underlying hu],int 0⟩
   .exact⟨_,λ_=>by simp[Builtin.len_,run_underlying hu],int 0⟩
   .exact⟨_,λ_=>by simp[Builtin.len_,run_underlying hu],int _⟩
  .rename_i r;split at k
   .rename_i Gr tt sh l hT;split at k
    .rename_i hs;refine⟨_,k,λhG xv hx=>?_⟩
     rcases ah.ok.holds r _ _ (aU hT (dJ hs hG)) (ah.ok.row_of (aU hT (dJ hs hG)) hx.1) with⟨rfl,rfl⟩ | ⟨_,rfl,rfl⟩ | ⟨g,cap,cur,rfl,_⟩
     .exact⟨_,λ_=>by simp[Builtin.len_,run_underlying hu],int 0⟩
     .exact⟨_,λ_=>by simp[Builtin.len_,run_underlying hu],int 0⟩
     .exact⟨_,λ_=>by simp[Builtin.len_,run_underlying hu],int _⟩
    .cases k
   .rename_i Gr tt sh l t2 e so own hsl hT;split at k
    .rename_i hs;refine⟨_,k,λhG xv hx=>?_⟩
     obtain⟨us,_,_,_,hold⟩:=ah.ok.qG (aU hT (dJ hs hG)) hx.1;rcases hold with⟨rfl,rfl⟩ | ⟨_,rfl,rfl⟩ | ⟨g,cap,cur,rfl,_⟩
     .exact⟨_,λ_=>by simp[Builtin.len_,run_underlying hu],int 0⟩
     .exact⟨_,λ_=>by simp[Builtin.len_,run_underlying hu],int 0⟩
     .exact⟨_,λ_=>by simp[Builtin.len_,run_underlying hu],int _⟩
    .cases k
   .cases k
  .rename_i r j;obtain⟨e,x,k1,k2⟩:=xC ah k;refine⟨_,k1,λhG xv hx=>?_⟩
   obtain⟨⟨v,us,hb,rfl⟩,_⟩:=hx;obtain⟨tt,rh⟩:=k2 hG v us hb;rcases rh with⟨hv,rfl⟩ | ⟨_,hv,rfl⟩ | ⟨g,cap,cur,hv,_⟩
   .rw[hv];exact⟨_,λ_=>by simp[Builtin.len_,run_underlying hu],int 0⟩
   .rw[hv];exact⟨_,λ_=>by simp[Builtin.len_,run_underlying hu],int 0⟩
   .rw[hv];exact⟨_,λ_=>by simp[Builtin.len_,run_underlying hu],int _⟩
  .rename_i a n c;refine⟨_,k,λhG xv hx=>?_⟩
   obtain⟨⟨rfl,_⟩,_⟩:=hx;exact⟨_,λ_=>by simp[Builtin.len_,run_underlying hu],int _⟩
  .cases k
 .rename_i hd;have hu:=aV hc hd (by simp)
  split at k
  .refine⟨_,k,λhG xv hx=>?_⟩
   obtain⟨⟨rfl,_⟩,_⟩:=hx;exact⟨_,λ_=>by simp[Builtin.len_,run_underlying hu],int _⟩
  .cases k
 .rename_i n el hd;have hu:=aV hc hd (by simp)
  refine⟨_,k,λhG xv hx=>⟨_,λ_=>by simp[Builtin.len_,run_underlying hu],int _⟩⟩
 .cases k
abbrev Aa(cx:Cx) (s:St) (G:Gd) (o:Option Operand) (d:Int):Option Int:=match o with
 | none=>some d
 | some x=>match bf cx s G x with
   | some (.one (.c (.v (.int _ n))))=>some n
   | _=>none
abbrev GH(cx:Cx) (s:St) (G:Gd) (t:TypeId) (x:SV) (lo hi:Option Operand) (K:bK->Prop):Prop:=match descOf cx t with
 | .slice el=>match lG cx.ti el with
   | none=>False
   | some ie=>match x with
     | .c (.sl sh l)=>match Nat.beq ie.size sh.size with
       | true=>match Aa cx s G lo 0 with
         | some a=>match Aa cx s G hi l.length with
           | some b=>side s.gl G (0<=a/\a<=b/\b<=l.length)/\K (.one (.c (.sl sh ((l.take b.toNat).drop a.toNat))))
           | none=>False
         | none=>False
       | false=>False
     | _=>False
 | .string=>match x with
   | .c (.v (.string u))=>match Aa cx s G lo 0 with
     | some a=>match Aa cx s G hi u.size with
       | some b=>side s.gl G (0<=a/\a<=b/\b<=u.size)/\K (vS (u.extract a.toNat b.toNat))
       | none=>False
     | none=>False
   | _=>False
 | _=>False
theorem Jh(ah:Sat N B h0 s h β w a) (hg:aB cx.gd h) (hG:gv s.gl G=true)
 {o:Option Operand}{d:Int} (k:Aa cx s G o d=some n):(o=none/\n=d)\/∃x ik,o=some x/\a.eval x=.int ik n:=by
 unfold Aa at k;split at k
 .cases k;exact .inl ⟨rfl,rfl⟩
 .rename_i x;split at k
  .rename_i ik m hx;cases k;obtain⟨⟨e,_⟩,_⟩:=aF ah hg hG hx;exact .inr ⟨x,ik,rfl,e⟩
  .cases k
theorem kT{isS:Bool}{len:Nat}{lo hi:Option Value}{a b:Int} (hlo:(lo=none/\a=0)\/∃k,lo=some (.int k a)) (hhi:(hi=none/\b=len)\/∃k,hi=some (.int k b))
 (h:0<=a/\a<=b/\b<=len) (hc:len<=cap):(Instr.sliceBounds isS len cap lo hi none).run P w=.ok (a.toNat,b.toNat,cap) w:=by
 unfold Instr.sliceBounds;have hb:(0:Int)<=b/\b<=cap:=by omega
 have ha:0<=a/\a<=b.toNat:=by omega
 rcases hlo with⟨rfl,rfl⟩ | ⟨k,rfl⟩<;>rcases hhi with⟨rfl,rfl⟩ | ⟨k',rfl⟩
 .simp
 .simp[Instr.sliceBound,asIntOf,hb]
 .have:0<=a/\a<=(len:Int):=by omega
  simp[Instr.sliceBound,asIntOf,this]
 .have ha':a<=max b 0:=by omega
  have hn:¬(max b 0 < a):=by omega
  simp[Instr.sliceBound,asIntOf,hb,ha,hn]
theorem dQ.pG{R:List Value->α->Prop}{k:Nat} (hR:∀c d,R c d->c.length=k){l:List α} (r:dQ R cs l){a:Nat} (hab:a<=b) (hb:b<=l.length):
 dQ R ((cs.take (b * k)).drop (a * k)) ((l.take b).drop a):=by
 have h1:dQ R (cs.take (b * k)) (l.take b):=by
  have r':=r;rw[<-Rt b l]at r';have:=(dQ.split hR r').1
  rwa [lY,Xd hb]at this
 have r2:=h1;rw[<-Rt a (l.take b)]at r2;have:=(dQ.split hR r2).2
 rwa [lY,lY,Xd hb,Xd hab]at this
theorem At.shift(x:At h b o cs) (n i:Nat):At h b (o+i) ((cs.take n).drop i):=by
 intro j u e;rw[Ea,qU]at e;split at e
 .rw[Rz];exact x _ _ e
 .cases e
theorem Ld(hc:bG P cx.ti) (ah:Sat N B h0 s h β w a) (hg:aB cx.gd h)
 {x:SV}{lo hi:Option Operand} (k:GH cx s G t x lo hi K):
 ∃e,K e/\(gv s.gl G=true->∀xv,bI h β x xv->∃y,(Instr.sliceAt t xv (lo.map a.eval) (hi.map a.eval) none).run P w=.ok y w/\gJ h β e y):=by
 have bnd:∀{o:Option Operand}{d n:Int},gv s.gl G=true->Aa cx s G o d=some n->(o.map a.eval=none/\n=d)\/∃k,o.map a.eval=some (.int k n):=by
  intro o d n hG e;rcases Jh ah hg hG e with⟨rfl,rfl⟩ | ⟨x,ik,rfl,e'⟩
  .exact .inl ⟨rfl,rfl⟩
  .exact .inr ⟨ik,by simp[e']⟩
 unfold GH at k;split at k
 .rename_i el hd;have hu:=aV hc hd (by simp)
  split at k
  .cases k
  rename_i ie hie;have tie:=hc.get hie;split at k
  .rename_i sh l;split at k
   .rename_i hz;have hz:ie.size=sh.size:=fC hz;split at k
    .rename_i p hp;split at k
     .rename_i q hq;refine⟨_,k.2,λhG xv hx=>?_⟩
      have hb:=dG k.1 hG;have run:∀(ad:Option Addr) (len cap:Nat),l.length=len->len<=cap->(Instr.sliceAt t (.slice ad len cap) (lo.map a.eval) (hi.map a.eval) none).run P w =
       .ok (.slice (if cap=p.toNat then ad else ad.map (·.add (p.toNat * ie.size))) (q.toNat - p.toNat) (cap - p.toNat)) w:=by
       intro ad len cap hl hle;have:=kT (P:=P) (w:=w) (isS:=true) (len:=len) (cap:=cap) (bnd hG hp) (by rw[<-hl];exact bnd hG hq) (by rw[<-hl];exact hb) hle
       simp only[Instr.sliceAt,Instr.slice,Sem.run_bind,run_underlying hu,Result.andThen_ok,this,run_sizeOf tie,Sem.run_pure]
      rcases hx.1 with⟨rfl,rfl⟩ | ⟨ad,cap,rfl,rfl,q2⟩ | ⟨b,off,cap,rfl,q1,q2,cs,r,at_⟩
      .have h1:p.toNat=0:=by simp at hb;omega
       have h2:q.toNat=0:=by simp at hb;omega
       refine⟨_,run none 0 0 rfl (lD 0),⟨.inl ⟨?_,by simp⟩,?_⟩⟩
       .rw[h1,h2];rfl
       .exact⟨rfl,rfl⟩
      .have h1:p.toNat=0:=by simp at hb;omega
       have h2:q.toNat=0:=by simp at hb;omega
       refine⟨_,run _ 0 cap rfl (BU _),⟨.inr (.inl ⟨if cap=p.toNat then ad else ad.add (p.toNat * ie.size),cap - p.toNat,?_,by simp,by omega⟩),⟨rfl,rfl⟩⟩⟩
       rw[h2];split<;>simp
      .refine⟨_,run _ _ cap rfl q1,⟨.inr (.inr ?_),⟨rfl,rfl⟩⟩⟩;have hlen:((l.take q.toNat).drop p.toNat).length=q.toNat - p.toNat:=by
        rw[xq,lY];omega
       by_cases hcp:cap=p.toNat
       .refine⟨b,off,cap - p.toNat,?_,?_,by omega,[],?_,?_⟩
        .rw[if_pos hcp,hlen]
        .rw[hlen];omega
        .have:(l.take q.toNat).drop p.toNat=[]:=Np (by rw[hlen];omega)
         rw[this];rfl
        .intro j u e;simp at e
       .refine⟨b,off+p.toNat * ie.size,cap - p.toNat,?_,?_,by omega,_,dQ.pG (λ_ _=>Rd.size sh) r (a:=p.toNat) (b:=q.toNat) (by omega) (by omega),?_⟩
        .rw[if_neg hcp,hlen];simp[add_lit]
        .rw[hlen];omega
        .rw[hz];exact at_.shift _ _
     .cases k
    .cases k
   .cases k
  .cases k
 .rename_i hd;have hu:=aV hc hd (by simp)
  split at k
  .rename_i u;split at k
   .rename_i p hp;split at k
    .rename_i q hq;refine⟨_,k.2,λhG xv hx=>?_⟩
     obtain⟨⟨rfl,_⟩,_⟩:=hx;have hb:=dG k.1 hG;have:=kT (P:=P) (w:=w) (isS:=false) (len:=u.size) (cap:=u.size) (bnd hG hp) (bnd hG hq) hb (lD _);refine⟨.string (u.extract p.toNat q.toNat),?_,⟨rfl,dS _⟩,dS _⟩;simp only[Instr.sliceAt,Instr.slice,Sem.run_bind,run_underlying hu,Result.andThen_ok];simp[this]
    .cases k
   .cases k
  .cases k
 .cases k
theorem foldl_set:∀(xs:List Value) (off k:Nat) (A:Array Value),off+k+xs.length<=A.size ->
 (xs.zipIdx k).foldl (λcs (p:Value×Nat)=>cs.setIfInBounds (off+p.2) p.1) A=(A.toList.take (off+k)++xs++A.toList.drop (off+k+xs.length)).toArray
 | [],off,k,A,_=>by simp
 | x :: xs,off,k,A,h=>by
   simp only[List.zipIdx_cons,Xe];simp only[Aq]at h;rw[foldl_set xs off (k+1) _ (by simp;omega)]
   congr 1
   have e:=list_seg_step A.toList (off+k) x xs (by simp;omega)
   simpa[Array.toList_setIfInBounds,Rz]using e
abbrev Le(off:Nat) (xs cells:List SC):List SC:=dw (mP off cells) (dw xs (Ej (off+aC xs) cells))
abbrev ug:SV->Option (List SC)
 | .dat (.arr _ (.int k)) l=>some (dB (λx=>SC.v (.int k x)) l)
 | v=>kF v
abbrev pI(place:Nat->Option (Nat×Nat)) (cells:List SC):List (Nat×SV)->Option (List SC)
 | []=>some cells
 | (i,v) :: rest=>match place i with
   | none=>none
   | some (off,size)=>match ug v with
     | none=>none
     | some xs=>match bJ (Nat.beq (aC xs) size) (Nat.ble (off+size) (aC cells)) with
       | true=>pI place (Le off xs cells) rest
       | false=>none
theorem rX{v:SV}{xs:List SC} (e:kF v=some xs) (c:bI h β v y):aG (λx y=>bU h β x y/\bM y) xs y.cells.toList:=by
 cases v with
 | c x=>simp[kF]at e;subst e;rw[c.2.1];exact⟨c,trivial⟩
 | agg xs'=>simp[kF]at e;subst e;obtain⟨ys,rfl,a⟩:=c;exact a
 | dat s d=>simp[kF]at e
 | und=>simp[kF]at e
theorem Ep{k:IntKind}{h:FH}:∀{l:List Int}{cs:List Value},dQ (Rd h (.int k)) cs l->cs=l.map λx=>.int k x
 | [],cs,r=>by simpa[dQ]using r
 | x :: l,cs,⟨c,r,e,h1,h2⟩=>by
   have h1:c=[.int k x]:=h1;rw[e,h1,Ep h2];rfl
theorem Es{h:FH}{β:List RV}{k:IntKind}:∀l:List Int,aG (λx y=>bU h β x y/\bM y) (l.map λx=>SC.v (.int k x)) (l.map λx=>Value.int k x)
 | []=>trivial
 | x :: l=>⟨⟨⟨rfl,aW _ _⟩,aW _ _⟩,Es l⟩
theorem Et{v:SV}{xs:List SC} (e:ug v=some xs) (c:bI h β v y):aG (λx y=>bU h β x y/\bM y) xs y.cells.toList:=by
 unfold ug at e;split at e
 .cases e;obtain⟨_,cs,rfl,_,r⟩:=c;have e2:=Ep r;rw[xA];have:(Value.agg cs.toArray).cells.toList=cs:=by simp[Value.cells]
  rw[this,e2];exact Es _
 .exact rX e c
theorem mZ{h:FH}{β:List RV}{place:Nat->Option (Nat×Nat)}:∀{parts:List (Nat×SV)}{vals:List (Nat×Value)}{cells:List SC}{ys:List Value}{r:List SC},
 aG (λ(p:Nat×SV) (q:Nat×Value)=>p.1=q.1/\bI h β p.2 q.2) parts vals->aG (λx y=>bU h β x y/\bM y) cells ys->pI place cells parts=some r ->
 ∃zs:List Value,Instr.fill place ys.toArray vals=some zs.toArray/\aG (λx y=>bU h β x y/\bM y) r zs
 | [],[],cells,ys,r,_,a,e=>by simp[pI]at e;subst e;exact⟨ys,rfl,a⟩
 | (i,v) :: parts,(j,y) :: vals,cells,ys,r,⟨⟨hij,hv⟩,hp⟩,a,e=>by
   simp only at hij;subst hij;unfold pI at e;split at e
   .cases e
   rename_i off size hpl;split at e
   .cases e
   rename_i xs hxs;split at e
   .rename_i hc;rw[au,A8]at hc;have h1:xs.length=size:=by have:=fC hc.1;rwa [aK]at this
    have h2:off+size<=cells.length:=by have:=kM hc.2;rwa [aK]at this
    have hall:=Et hxs hv;have l1:=hall.length;have l2:=a.length;simp only[KD]at l1;have a':aG (λx y=>bU h β x y/\bM y) (Le off xs cells) (ys.take off++y.cells.toList++ys.drop (off+y.cells.size)):=by
     unfold Le;rw[dI,dI,gY,mQ,aK,Am,<-l1];exact(a.take off).cat (hall.cat (a.drop _))
    obtain⟨zs,g1,g2⟩:=mZ hp a' e;refine⟨zs,?_,g2⟩;unfold Instr.fill;rw[hpl];simp only;rw[if_neg (by simp;omega)]
    rw[<-g1]
    congr 1
    have:=foldl_set y.cells.toList off 0 ys.toArray (by simp;omega)
    simp only[KN]at this;rw[<-Array.foldl_toList,Array.toList_zipIdx];simpa using this
   .cases e
abbrev takeN(s:Sh):Nat->List SC->Option (List s.den×List SC)
 | 0,xs=>some ([],xs)
 | n+1,xs=>match takeD s xs with
   | some (d,r)=>match takeN s n r with
     | some (l,r')=>some (d :: l,r')
     | none=>none
   | none=>none
theorem yx{h:FH}{β:List RV}{s:Sh}:∀{n:Nat}{xs:List SC}{ys:List Value}{l:List s.den}{r:List SC},takeN s n xs=some (l,r)->aG (λx y=>bU h β x y/\bM y) xs ys ->
 ∃c1 c2,ys=c1++c2/\l.length=n/\dQ (Rd h s) c1 l/\aG (λx y=>bU h β x y/\bM y) r c2
 | 0,xs,ys,l,r,e,a=>by simp[takeN]at e;obtain⟨rfl,rfl⟩:=e;exact⟨[],ys,rfl,rfl,rfl,a⟩
 | n+1,xs,ys,l,r,e,a=>by
   unfold takeN at e;split at e
   .rename_i d r1 hd;split at e
    .rename_i l' r' hl;cases e;obtain⟨c1,c2,rfl,q1,q2⟩:=kS s hd a;obtain⟨c3,c4,rfl,q3,q4,q5⟩:=yx hl q2;exact⟨c1++c3,c4,by rw[Am],by simp[q3],⟨c1,c3,rfl,q1,q4⟩,q5⟩
    .cases e
   .cases e
abbrev Ji(i:TI) (xs:List SC):SV:=match i.jF with
 | some (.arr n s)=>match takeN s n xs with
   | some (l,[])=>.dat (.arr n s) l
   | _=>.agg xs
 | _=>.agg xs
theorem Eu{xs:List SC}{ys:List Value} (a:aG (λx y=>bU h β x y/\bM y) xs ys):bI h β (Ji i xs) (.agg ys.toArray):=by
 unfold Ji;split
 .split
  .rename_i hl;obtain⟨c1,c2,rfl,q1,q2,q3⟩:=yx hl a;have:c2=[]:=by cases c2 with | nil=>rfl | cons _ _=>exact q3.elim
   subst this;exact⟨rfl,c1,by simp,q1,q2⟩
  .exact⟨ys,rfl,a⟩
 .exact⟨ys,rfl,a⟩
abbrev rY(cx:Cx) (s:St) (G:Gd):List (Nat×Operand)->Option (List (Nat×SV))
 | []=>some []
 | (i,x) :: l=>match bf cx s G x with
   | some (.one v)=>match rY cx s G l with
     | some r=>some ((i,v) :: r)
     | none=>none
   | _=>none
theorem ng{cx:Cx}{N:Nat}{B:Base}{h0:FH}{s:St}{h:FH}{β:List RV}{w:World}{a:Act} (ah:Sat N B h0 s h β w a) (hg:aB cx.gd h){G:Gd} (hG:gv s.gl G=true):
 ∀{l:List (Nat×Operand)}{r:List (Nat×SV)},rY cx s G l=some r->aG (λ(p:Nat×SV) (q:Nat×Value)=>p.1=q.1/\bI h β p.2 q.2) r (l.map λp=>(p.1,a.eval p.2))
 | [],r,e=>by simp[rY]at e;subst e;trivial
 | (i,x) :: l,r,e=>by
   unfold rY at e;split at e
   .rename_i v hv;split at e
    .rename_i r' hr;cases e;exact⟨⟨rfl,aF ah hg hG hv⟩,ng ah hg hG hr⟩
    .cases e
   .cases e
abbrev GI(cx:Cx) (i:TI) (f:Nat):Option (Nat×Nat):=match lN i f with
 | some fd=>match lG cx.ti fd.type with
   | some fi=>some (fd.offset,fi.size)
   | none=>none
 | none=>none
abbrev ru(cx:Cx):List Field->Bool
 | []=>true
 | f :: l=>match lG cx.ti f.type with
   | some _=>ru cx l
   | none=>false
abbrev GK(cx:Cx) (s:St) (G:Gd) (t:TypeId) (parts:List (Nat×Operand)) (K:bK->Prop):Prop:=match lG cx.ti t with
 | none=>False
 | some i=>match rY cx s G parts with
   | none=>False
   | some ps=>match i.desc with
     | .struct fs=>match ru cx (tl fs) with
       | true=>match pI (GI cx i) (dB SC.v i.zero) ps with
         | some xs=>K (.one (Ji i xs))
         | none=>False
       | false=>False
     | .array n el=>match lG cx.ti el with
       | none=>False
       | some ie=>match pI (λj=>some (j * ie.size,ie.size)) (dB SC.v i.zero) ps with
         | some xs=>K (.one (Ji i xs))
         | none=>False
     | _=>False
theorem ni(k:aS P t i) (w:World):∃z,(zeroValue t).run P w=.ok z w/\z.cells=i.zero.toArray:=by
 obtain⟨inf,z,h1,h2,h3,h4,h5⟩:=k.info;exact⟨z,by simp[zeroValue,typeInfo,h1,h4],h5⟩
theorem wI{P:Program}{cx:Cx} (hc:bG P cx.ti) (w:World):∀{l:List Field},ru cx l=true ->
 (l.mapM (λf=>(do pure (f.offset,<-sizeOf f.type):Sem (Nat×Nat)))).run P w=.ok (l.map λf=>(f.offset,match lG cx.ti f.type with | some fi=>fi.size | none=>0)) w
 | [],_=>rfl
 | f :: l,h=>by
   unfold ru at h;split at h
   .rename_i fi hf;have:=wI hc w h;simp only[List.mapM_cons,Sem.run_bind,run_sizeOf (hc.get hf),Result.andThen_ok,Sem.run_pure,this,Eb,hf]
   .cases h
theorem Lh(hc:bG P cx.ti) (ah:Sat N B h0 s h β w a) (hg:aB cx.gd h)
 {parts:Array (Nat×Operand)} (k:GK cx s G t (tl parts) K):
 ∃e,K e/\(gv s.gl G=true->∃y,(Instr.build t (parts.map λ(i,x)=>(i,a.eval x))).run P w=.ok y w/\gJ h β e y):=by
 unfold GK at k;split at k
 .cases k
 rename_i i hi;have ti:=hc.get hi;split at k
 .cases k
 rename_i ps hps;have htl:(parts.map λ(p:Nat×Operand)=>(p.1,a.eval p.2)).toList=(tl parts).map λp=>(p.1,a.eval p.2):=by cases parts;simp
 obtain⟨z,hz1,hz2⟩:=ni ti w;split at k
 .rename_i fs' hd;obtain⟨fs,hu,hfe⟩:=ti.Cm hd;split at k
  .rename_i hall;split at k
   .rename_i xs hf;refine⟨_,k,λhG=>?_⟩
    obtain⟨zs,g1,g2⟩:=mZ (ng ah hg hG hps) (dL ti.zone) hf;refine⟨_,?_,Eu g2⟩;have hm:(fs.mapM (λf=>(do pure (f.offset,<-sizeOf f.type):Sem (Nat×Nat)))).run P w=.ok (fs.map λf=>(f.offset,match lG cx.ti f.type with | some fi=>fi.size | none=>0)) w:=by
     have hall':ru cx (tl fs)=true:=by
      have:∀{l:List Field},ru cx (l.map rU)=true->ru cx l=true:=by
       intro l
       induction l with
       | nil=>intro _;rfl
       | cons f l ih=>
         intro hh;simp only[Eb,ru,rU]at hh ⊢;split at hh
         .exact ih hh
         .cases hh
      apply this;rw[<-hfe]at hall;cases fs;simpa using hall
     have:=wI hc w hall';cases fs with
     | mk l=>
       have e2:=List.mapM_toArray (m:=Sem) (f:=λ(f:Field)=>(do pure (f.offset,<-sizeOf f.type):Sem (Nat×Nat))) (l:=l)
       refine(qV (λx=>Sem.run P x w) e2).trans ?_
       simp only[Sem.run_map];rw[show Sem.run P (List.mapM _ l) w=_ from this];simp
    have Xv:(λj=>(fs.map λf=>(f.offset,match lG cx.ti f.type with | some fi=>fi.size | none=>0))[j]?)=GI cx i:=by
     funext j
     unfold GI lN;rw[hd];simp only[bY];have e1:(tl fs')[j]?=(fs[j]?).map rU:=by rw[<-hfe];cases fs;simp
     rw[e1,Array.getElem?_map];cases hj:fs[j]? with
     | none=>rfl
     | some fd=>
       simp only[Nu,rU];cases hl:lG cx.ti fd.type with
       | some fi=>rfl
       | none=>
         exfalso;have:∀{l:List Field},ru cx l=true->∀f∈l,lG cx.ti f.type≠none:=by
          intro l
          induction l with
          | nil=>intro _ f hf;simp at hf
          | cons x l ih=>
            intro hh f hf;unfold ru at hh;split at hh
            .rename_i q hq;rcases iV.1 hf with rfl | hf
             .rw[hq];simp
             .exact ih hh f hf
            .cases hh
         refine this hall (rU fd) ?_ hl;rw[hj]at e1;exact lI e1
    simp only[Instr.build,Sem.run_bind,hz1,Result.andThen_ok,run_underlying hu,hm,hz2];rw[htl,Xv,g1];rfl
   .cases k
  .cases k
 .rename_i n el hd;have hu:=ti.zZ hd rfl;split at k
  .cases k
  rename_i ie hie;split at k
  .rename_i xs hf;refine⟨_,k,λhG=>?_⟩
   obtain⟨zs,g1,g2⟩:=mZ (ng ah hg hG hps) (dL ti.zone) hf;refine⟨_,?_,Eu g2⟩;simp only[Instr.build,Sem.run_bind,hz1,Result.andThen_ok,run_underlying hu,run_sizeOf (hc.get hie),hz2];rw[htl,g1];rfl
  .cases k
 .cases k
abbrev oK:(s:Sh)->s.den->Option (List Value)
 | .int k,n=>some [.int k n]
 | .bool,b=>some [.bool b]
 | .str,b=>some [.string b]
 | .unit,_=>some []
 | .pair a b,(x,y)=>match oK a x with
   | some l=>match oK b y with
     | some m=>some (dw l m)
     | none=>none
   | none=>none
 | _,_=>none
theorem yA{h:FH}:∀(s:Sh){cs:List Value}{d:s.den}{l:List Value},Rd h s cs d->oK s d=some l->cs=l
 | .int k,_,_,_,r,e=>by simp[oK]at e;subst e;exact r
 | .bool,_,_,_,r,e=>by simp[oK]at e;subst e;exact r
 | .str,_,_,_,r,e=>by simp[oK]at e;subst e;exact r
 | .unit,_,_,_,r,e=>by simp[oK]at e;subst e;exact r
 | .any,_,_,_,r,e=>by simp[oK]at e
 | .sl _,_,_,_,r,e=>by simp[oK]at e
 | .arr _ _,_,_,_,r,e=>by simp[oK]at e
 | .pair a b,_,(x,y),_,⟨c1,c2,e',r1,r2⟩,e=>by
   simp only[oK]at e;split at e
   .rename_i l hl;split at e
    .rename_i m hm;cases e;rw[e',yA a r1 hl,yA b r2 hm];clear hl hm e' r1 r2
     induction l with
     | nil=>rfl
     | cons x l ih=>simp[dw,ih]
    .cases e
   .cases e
abbrev pJ:List SC->Option (List Value)
 | []=>some []
 | .v x :: l=>match pJ l with
   | some m=>some (x :: m)
   | none=>none
 | _ :: _=>none
theorem Ew{h:FH}{β:List RV}:∀{xs:List SC}{ys l:List Value},aG (λx y=>bU h β x y/\bM y) xs ys->pJ xs=some l->ys=l
 | [],[],_,_,e=>by simp[pJ]at e;subst e;rfl
 | .v x :: xs,y :: ys,l,⟨a,b⟩,e=>by
   simp only[pJ]at e;split at e
   .rename_i m hm;cases e;rw[Ew b hm,a.1.1]
   .cases e
 | .sl _ _ :: _,_ :: _,_,_,e=>by simp[pJ]at e
 | .fp _ _ :: _,_ :: _,_,_,e=>by simp[pJ]at e
 | .own _ _ :: _,_ :: _,_,_,e=>by simp[pJ]at e
 | .row _ :: _,_ :: _,_,_,e=>by simp[pJ]at e
 | .iw _ _ _ _ :: _,_ :: _,_,_,e=>by simp[pJ]at e
 | .junk :: _,_ :: _,_,_,e=>by simp[pJ]at e
abbrev Ey:SV->Option (List Value)
 | .agg xs=>pJ xs
 | .dat s d=>oK s d
 | _=>none
theorem uh{v:SV}{l:List Value} (c:bI h β v y) (e:Ey v=some l):y=.agg l.toArray:=by
 cases v with
 | c x=>simp[Ey]at e
 | agg xs=>obtain⟨ys,rfl,a⟩:=c;rw[Ew a e]
 | dat s d=>obtain⟨_,cs,rfl,r⟩:=c;rw[yA s r e]
 | und=>simp[Ey]at e
abbrev CB:List Cl->List Value->List Value->Bool->(Bool->Prop)->Prop
 | [],[],[],acc,K=>K acc
 | .i :: cs,.int k a :: xs,.int k' b :: ys,acc,K=>match Nat.beq (xY k) (xY k') with
   | true=>CB cs xs ys (acc && (a == b)) K
   | false=>False
 | .b :: cs,.bool a :: xs,.bool b :: ys,acc,K=>CB cs xs ys (acc && (a == b)) K
 | .s :: cs,.string a :: xs,.string b :: ys,acc,K=>CB cs xs ys (acc && (a == b)) K
 | _,_,_,_,_=>False
theorem kH{c:Cl} (hc:tX P t=some c){xs:Array Value} (hx:xs[off]?=some v) (w:World):(part t xs off).run P w=.ok v w:=by
 unfold tX at hc;cases hu:P.underlying t with
 | none=>simp[hu]at hc
 | some d=>cases d<;>simp[hu]at hc<;>simp[part,isAgg,run_underlying hu,hx]
theorem NY{XS YS:List Value}{K:Bool->Prop}:∀(cls:List Cl) (xs ys:List Value) (fs:List Field) (i:Nat) (acc:Bool),KW P i cls fs=true->XS.drop i=xs->YS.drop i=ys->CB cls xs ys acc K ->
 ∃r,K (acc && r)/\∀w d,(Op.eqFields (d+1) XS.toArray YS.toArray fs).run P w=.ok r w:=by
 have hd:∀{L:List Value}{i:Nat}{x:Value}{l:List Value},L.drop i=x :: l->L.toArray[i]?=some x/\L.drop (i+1)=l:=by
  intro L i x l e;refine⟨?_,?_⟩
  .have:=qV List.head? e;simpa[List.head?_drop]using this
  .rw[<-KH,e];rfl
 intro cls
 induction cls with
 | nil=>
   intro xs ys fs i acc hf hx hy k;cases fs with
   | cons _ _=>simp[KW]at hf
   | nil=>
     unfold CB at k;split at k
     .exact⟨true,by simpa using k,λw d=>by simp[Op.eqFields]⟩
     all_goals first | contradiction | exact k.elim
 | cons c cls ih=>
   intro xs ys fs i acc hf hx hy k;cases fs with
   | nil=>simp[KW]at hf
   | cons f fs=>
     simp only[KW,A8,Gi,ne_eq,qy]at hf;obtain⟨⟨⟨h1,h2⟩,h3⟩,h4⟩:=hf;have one:∀{x y:Value}{xs' ys':List Value}{b:Bool},XS.drop i=x :: xs'->YS.drop i=y :: ys'->(∀w d,(Op.equalIn (d+1) f.type x y).run P w=.ok b w) ->
      CB cls xs' ys' (acc && b) K->∃r,K (acc && r)/\∀w d,(Op.eqFields (d+1) XS.toArray YS.toArray (f :: fs)).run P w=.ok r w:=by
      intro x y xs' ys' b hx hy he k;obtain⟨x1,x2⟩:=hd hx;obtain⟨y1,y2⟩:=hd hy;obtain⟨r,k1,k2⟩:=ih xs' ys' fs (i+1) (acc && b) h4 x2 y2 k;refine⟨b && r,by rw[<-Bool.and_assoc];exact k1,λw d=>?_⟩
      simp only[Op.eqFields,ne_eq,h1,not_false_eq_true,if_true,Sem.run_bind,h2,kH h3 x1,kH h3 y1,Result.andThen_ok,he w d];cases b with
      | true=>simp[k2 w d]
      | false=>simp
     unfold CB at k;split at k
     .contradiction
     .rename_i hc;cases hc;split at k
      .rename_i hk;have:=lJ hk;subst this;unfold tX at h3;cases hu:P.underlying f.type with
       | none=>simp[hu]at h3
       | some D=>cases D<;>simp[hu]at h3;exact one hx hy (λw d=>run_equalIn_int w d f.type _ _ _ _ hu) k
      .cases k
     .rename_i hc;cases hc;unfold tX at h3;cases hu:P.underlying f.type with
      | none=>simp[hu]at h3
      | some D=>cases D<;>simp[hu]at h3;exact one hx hy (λw d=>run_equalIn_bool' w d f.type _ _ hu) k
     .rename_i hc;cases hc;unfold tX at h3;cases hu:P.underlying f.type with
      | none=>simp[hu]at h3
      | some D=>cases D<;>simp[hu]at h3;exact one hx hy (λw d=>by rw[beq_toListBytes];exact run_equalIn_string w d f.type _ _ hu) k
     .cases k
abbrev NZ(m:Nat) (op:BinOp) (x y:SV) (K:bK->Prop):Prop:=match x with
 | .dat (.arr n (.int k)) l=>match y with
   | .dat (.arr n' (.int k')) l'=>match bJ (Nat.beq n m) (bJ (Nat.beq n' m) (Nat.beq (xY k) (xY k'))) with
     | true=>match op with
       | .eql=>K (vB (decide (l=l')))
       | .neq=>K (vB (!decide (l=l')))
       | _=>False
     | false=>False
   | _=>False
 | _=>False
theorem yB{h:FH}{k:IntKind}:∀{l:List Int}{cs:List Value},dQ (Rd h (.int k)) cs l->cs=l.map (Value.int k)
 | [],_,r=>r
 | x :: l,_,⟨c,r,e,h1,h2⟩=>by
   rw[e,yB h2,show c=[Value.int k x] from h1];rfl
theorem AP{P:Program}{e:TypeId} (he:tX P e=some .i){k:IntKind}{l l':List Int}{d:Nat}:∀{is:List Nat},(∀j∈is,j < l.length/\j < l'.length) ->
 ∃r:Bool,(∀w,(Op.eqItems (d+1) e 1 (l.map (Value.int k)).toArray (l'.map (Value.int k)).toArray is).run P w=.ok r w)/\(r=true↔∀j∈is,l[j]?=l'[j]?)
 | [],_=>⟨true,λw=>by simp[Op.eqItems],by simp⟩
 | j :: is,h=>by
   obtain⟨r,r1,r2⟩:=AP he (k:=k) (l:=l) (l':=l') (d:=d) (is:=is) λi hi=>h i (by simp[hi])
   obtain⟨h1,h2⟩:=h j (by simp)
   have p1:(l.map (Value.int k)).toArray[j]?=some (Value.int k l[j]):=by simp[h1]
   have p2:(l'.map (Value.int k)).toArray[j]?=some (Value.int k l'[j]):=by simp[h2]
   have hu:∃k',P.underlying e=some (.int k'):=by
    unfold tX at he;cases hu:P.underlying e with
    | none=>simp[hu]at he
    | some D=>cases D<;>simp[hu]at he;exact⟨_,rfl⟩
   obtain⟨k',hu⟩:=hu;refine⟨(l[j] == l'[j]) && r,λw=>?_,?_⟩
   .simp only[Op.eqItems,NG,Sem.run_bind,kH he p1,kH he p2,Result.andThen_ok,run_equalIn_int w d e k k' _ _ hu];cases hq:l[j] == l'[j]with
    | true=>simp[r1 w]
    | false=>simp
   .rw[A8,r2,qy];constructor
    .rintro⟨q1,q2⟩ i hi;rcases iV.1 hi with rfl | hi
     .rw[lH h1,lH h2,q1]
     .exact q2 i hi
    .intro q;refine⟨?_,λi hi=>q i (by simp[hi])⟩
     have:=q j (by simp)
     rw[lH h1,lH h2]at this;exact Rw this
abbrev eqK(cx:Cx) (op:BinOp) (t:TypeId) (x y:SV) (K:bK->Prop):Prop:=match lG cx.ti t with
 | none=>False
 | some i=>match i.AB with
   | []=>False
   | c :: cs=>match i.desc with
     | .array m _=>NZ m op x y K
     | .struct _=>match Ey x with
       | some xs=>match Ey y with
         | some ys=>match op with
           | .eql=>CB (c :: cs) xs ys true λb=>K (vB b)
           | .neq=>CB (c :: cs) xs ys true λb=>K (vB (!b))
           | _=>False
         | none=>False
       | none=>False
     | _=>False
theorem CG(hc:bG P cx.ti){x y:SV} (k:eqK cx op t x y K):
 ∃r:Bool,K (vB r)/\∀u v (px py:Operand),bI h β x u->bI h β y v->∀w,(eqGuard op t px py u v).run P w=.ok () w/\(binOp op t u v).run P w=.ok (.bool r) w:=by
 unfold eqK at k;split at k
 .cases k
 rename_i i hi;have ti:=hc.get hi;split at k
 .cases k
 rename_i c cs he;have ok:=ti.AB (by rw[he];simp)
 rw[he]at ok;split at k
 .rename_i m el hd;have hu:=ti.zZ hd rfl;unfold SE at ok;rw[hu]at ok;simp only[A8,IY,qy]at ok;obtain⟨⟨⟨o1,o2⟩,o3⟩,o4⟩:=ok;obtain⟨inf,adh⟩:=Xc.1 o3;unfold NZ at k;split at k
  .rename_i n q l;split at k
   .rename_i n' q' l';split at k
    .rename_i hz;rw[au,au,A8,A8]at hz;have z1:n=m:=fC hz.1;have z2:n'=m:=fC hz.2.1;have z3:=lJ hz.2.2;subst z1;subst z2;subst z3;have run:∀u v,bI h β (.dat (.arr n' (.int q)) l) u->bI h β (.dat (.arr n' (.int q)) l') v->∃xs ys,u=.agg xs/\v=.agg ys/\∀w,(Op.equalIn 10000 t (.agg xs) (.agg ys)).run P w=.ok (decide (l=l')) w:=by
      intro u v hu' hv';obtain⟨_,cs1,rfl,l1,r1⟩:=hu';obtain⟨_,cs2,rfl,l2,r2⟩:=hv';have l1:l.length=n':=l1;have l2:l'.length=n':=l2;refine⟨_,_,rfl,rfl,λw=>?_⟩
      rw[yB r1,yB r2,show(10000:Nat)=9999+1 from rfl,run_equalIn_array w 9999 _ _ hu adh,o2]
      obtain⟨r,e1,e2⟩:=AP o1 (k:=q) (l:=l) (l':=l') (d:=9998) (is:=List.range n') λj hj=>by
       have:=Xg.1 hj;omega
      rw[e1 w]
      congr 1
      rw[Xf,e2,jB];constructor
      .intro hh;apply zT;intro j
       by_cases hj:j < n'
       .exact hh j (Xg.2 hj)
       .rw[wV (by omega),wV (by omega)]
      .intro hh j _;rw[hh]
     split at k
     .refine⟨_,k,λu v px py hu' hv' w=>?_⟩
      obtain⟨xs,ys,rfl,rfl,r⟩:=run u v hu' hv';refine⟨run_eqGuard_agg w _ t px py _ _ o4,?_⟩;simp only[run_eql_struct,r,Result.andThen_ok]
     .refine⟨_,k,λu v px py hu' hv' w=>?_⟩
      obtain⟨xs,ys,rfl,rfl,r⟩:=run u v hu' hv';refine⟨run_eqGuard_agg w _ t px py _ _ o4,?_⟩;simp only[run_neq_struct,r,Result.andThen_ok]
     .cases k
    .cases k
   .cases k
  .cases k
 .rename_i fs0 hd;obtain⟨fs,hu,_⟩:=ti.Cm hd;unfold SE at ok;rw[hu]at ok;simp only[A8,IY]at ok;obtain⟨⟨o1,o2⟩,o3⟩:=ok;have hf:P.fieldsOf t=fs:=by simp[Program.fieldsOf,hu]
  have hu':P.underlying t=some (.struct (P.fieldsOf t)):=by rw[hf];exact hu
  split at k
  .rename_i xs hx;split at k
   .rename_i ys hy;have run:∀{r:Bool},(∀w d,(Op.eqFields (d+1) xs.toArray ys.toArray fs.toList).run P w=.ok r w)->∀w,(Op.equalIn 10000 t (.agg xs.toArray) (.agg ys.toArray)).run P w=.ok r w:=by
     intro r hr w;rw[show(10000:Nat)=9999+1 from rfl,run_equalIn_struct w 9999 t _ _ hu' o2,hf]
     exact hr w 9998
    split at k
    .obtain⟨r,k1,k2⟩:=NY (XS:=xs) (YS:=ys) _ _ _ fs.toList 0 true o1 rfl rfl k;refine⟨r,by simpa using k1,λu v px py hu hv w=>?_⟩
     rw[uh hu hx,uh hv hy];refine⟨run_eqGuard_agg w _ t px py _ _ o3,?_⟩;simp only[run_eql_struct,run k2,Result.andThen_ok]
    .obtain⟨r,k1,k2⟩:=NY (XS:=xs) (YS:=ys) _ _ _ fs.toList 0 true o1 rfl rfl k;refine⟨!r,by simpa using k1,λu v px py hu hv w=>?_⟩
     rw[uh hu hx,uh hv hy];refine⟨run_eqGuard_agg w _ t px py _ _ o3,?_⟩;simp only[run_neq_struct,run k2,Result.andThen_ok]
    .cases k
   .cases k
  .cases k
 .cases k
abbrev GL(ops:List Oper) (j:Nat):Option Nat:=match bW ops j with
 | some o=>o.dst
 | none=>none
abbrev SK(k:Nat):List Nat->Bool
 | []=>false
 | x :: l=>match Nat.beq k x with
   | true=>true
   | false=>SK k l
abbrev pK(L:List Nat) (s:St) (ops:List Oper) (g:Option (Nat×Bool)) (K:Gd->St->Prop):Prop:=match g with
 | none=>K [] s
 | some (j,w)=>match GL ops j with
   | none=>False
   | some d=>match SK d L with
     | true=>match dZ s.env d with
       | some ([],.one (.c (.v (.bool b))))=>match b with
         | true=>match w with
           | true=>K [] s
           | false=>False
         | false=>match w with
           | true=>False
           | false=>K [] s
       | _=>False
     | false=>match dZ s.env d with
       | some (G',.one (.c (.v (.bool b))))=>match NR s.gs d with
         | some i=>K ((i,w) :: G') s
         | none=>K ((aC s.gl,w) :: G') { s with gl:=snoc s.gl b,gs:=(d,aC s.gl) :: s.gs }
       | _=>False
theorem Ez{gl:List Bool}{b:Bool}:∀{T:List (Gd×ay)},(∀p∈T,pz gl.length p.1=true)->eff (snoc gl b) T=eff gl T
 | [],_=>rfl
 | (g,r) :: l,h=>by
   simp only[eff];rw[xB (h (g,r) (by simp)),Ez λp hp=>h p (by simp[hp])]
theorem Sat.grow(ah:Sat N B h0 s h β w a){d:Nat}{G':Gd}{b:Bool}
 (hd:dZ s.env d=some (G',.one (.c (.v (.bool b))))):Sat N B h0 { s with gl:=snoc s.gl b,gs:=(d,aC s.gl) :: s.gs } h β w a:=by
 have hlen:(snoc s.gl b).length=s.gl.length+1:=by simp[dY]
 refine⟨?_,?_,?_,ah.defers,ah.sz,?_,?_⟩
 .simp only;rw[Ez ah.gT];exact ah.ok
 .intro t G e ht;obtain⟨z,q1,q2,q3⟩:=ah.env t G e ht;have hb:=ah.gb t G e ht;simp only;rw[xB hb];exact⟨z,q1,q2,q3⟩
 .intro k i hk;simp only at hk ⊢;rw[xW]at hk;split at hk
  .rename_i hdk;subst hdk;cases hk;rw[aK];exact⟨G',b,hd,by omega,Cc⟩
  .obtain⟨G1,b1,q1,q2,q3⟩:=ah.gs k i hk;exact⟨G1,b1,q1,by omega,by rw[Cb q2];exact q3⟩
 .intro t G e ht;simp only;exact tJ (by omega) (ah.gb t G e ht)
 .intro p hp;simp only;exact tJ (by omega) (ah.gT p hp)
def asB:Value->Option Bool
 | .bool b=>some b
 | _=>none
theorem uo{ops:Array Oper}{d:Nat}{z:Value} (hd:GL (tl ops) j=some d) (hz:a.tmps[d]?=some z):yielded ops a.tmps j=asB z:=by
 unfold GL at hd;split at hd
 .rename_i o ho;rw[bY]at ho;have:ops[j]?=some o:=by cases ops;simpa using ho
  simp only[yielded,this,Option.bind_some,hd,hz];cases z<;>rfl
 .cases hd
theorem fE{a:Array α}{l:List α} (h:tl a=l):a=l.toArray:=by
 cases a with | mk m=>rw[<-h]
theorem qH(ah:Sat N B h0 s h β w a){ops:Array Oper}{o:Oper}{L:List Nat}{K:Gd->St->Prop}
 (k:pK L s (tl ops) o.guard K):∃G s',K G s'/\Sat N B h0 s' h β w a/\Region.wanted o (yielded ops a.tmps)=gv s'.gl G/\pz s'.gl.length G=true:=by
 unfold pK at k;split at k
 .rename_i hg;exact⟨[],s,k,ah,by simp[Region.wanted,hg],rfl⟩
 .rename_i j want hg;split at k
  .cases k
  rename_i d hd;split at k
  .split at k
   .rename_i b he;obtain⟨z,q1,q2,_⟩:=ah.env _ _ _ he;have hy:=uo hd q1;obtain⟨⟨rfl,_⟩,_⟩:=q2 rfl;split at k
    .split at k
     .exact⟨[],s,k,ah,by simp[Region.wanted,hg,hy,asB],rfl⟩
     .cases k
    .split at k
     .cases k
     .exact⟨[],s,k,ah,by simp[Region.wanted,hg,hy,asB],rfl⟩
   .cases k
  split at k
  .rename_i G' b he;obtain⟨z,q1,q2,q3⟩:=ah.env _ _ _ he;have hy:=uo hd q1;have wanted:∀gl,gv gl G'=gv s.gl G'->lb gl=lb gl->∀i,lb gl i=b->Region.wanted o (yielded ops a.tmps)=gv gl ((i,want) :: G'):=by
    intro gl e1 _ i e2;rw[nX,e1];simp only[Region.wanted,hg,hy];cases hG:gv s.gl G' with
    | true=>
      obtain⟨⟨rfl,_⟩,_⟩:=q2 hG;unfold Em;rw[e2];cases b<;>cases want<;>rfl
    | false=>
      have:=q3 hG;subst this;simp[undef,asB]
   have hb:=ah.gb _ _ _ he;split at k
   .rename_i i hi;obtain⟨G1,b1,e1,e2,e3⟩:=ah.gs _ _ hi;have:b1=b:=by rw[he]at e1;cases e1;rfl
    subst this;refine⟨_,s,k,ah,wanted s.gl rfl rfl i e3,?_⟩;simp only[pz,au,A8];exact⟨RJ (by omega),hb⟩
   .refine⟨_,_,k,ah.grow he,wanted _ (xB hb) rfl _ (by rw[aK];exact Cc),?_⟩
    have hlen:(snoc s.gl b).length=s.gl.length+1:=by simp[dY]
    simp only[pz,au,A8];exact⟨RJ (by rw[aK];omega),tJ (by omega) hb⟩
  .cases k
abbrev EC(cb:Bool) (a b:Operand) (x y:Value) (K:bK->Prop):Prop:=match x with
 | .bool p=>match y with
   | .bool q=>match a with
     | .const (.bool true)=>K (vB (cb || q))
     | _=>match b with
       | .const (.bool false)=>K (vB (cb && p))
       | _=>K (vB (if cb=true then p else q))
   | _=>False
 | .int k p=>match y with
   | .int k' q=>match Nat.beq (xY k) (xY k') with
     | true=>K (vI k (if cb=true then p else q))
     | false=>False
   | _=>False
 | .string p=>match y with
   | .string q=>K (vS (if cb=true then p else q))
   | _=>False
 | _=>False
abbrev N7(cx:Cx) (s:St) (G:Gd) (c a b:Operand) (K:bK->Prop):Prop:=match c with
 | .tmp sc=>match bf cx s G c with
   | some (.one (.c (.v (.bool cb))))=>match NR s.gs sc with
     | some i=>match bf cx s ((i,true) :: G) a with
       | some (.one (.c (.v x)))=>match bf cx s ((i,false) :: G) b with
         | some (.one (.c (.v y)))=>EC cb a b x y K
         | _=>False
       | _=>False
     | none=>match bf cx s G a with
       | some (.one (.c (.v x)))=>match bf cx s G b with
         | some (.one (.c (.v y)))=>EC cb a b x y K
         | _=>False
       | _=>False
   | _=>False
 | _=>False
theorem N8{cb:Bool}{a b:Operand}{x:Value} (k:EC cb a b x y K):
 ∃v,K (.one (.c (.v v)))/\bM v/\((cb=true->∀p,a=.const p->x=p)->(cb=false->∀p,b=.const p->y=p)->v=if cb=true then x else y):=by
 unfold EC at k;split at k
 .rename_i p;split at k
  .rename_i q;split at k
   .refine⟨_,k,bH _,λh1 h2=>?_⟩
    cases cb with
    | true=>have:=h1 rfl _ rfl;cases this;rfl
    | false=>rfl
   .split at k
    .refine⟨_,k,bH _,λh1 h2=>?_⟩
     cases cb with
     | true=>rfl
     | false=>have:=h2 rfl _ rfl;cases this;rfl
    .exact⟨_,k,bH _,λ_ _=>by cases cb<;>rfl⟩
  .cases k
 .split at k
  .split at k
   .rename_i hk;have:=lJ hk;subst this;exact⟨_,k,aW _ _,λ_ _=>by cases cb<;>rfl⟩
   .cases k
  .cases k
 .split at k
  .exact⟨_,k,dS _,λ_ _=>by cases cb<;>rfl⟩
  .cases k
 .cases k
theorem N9{o:Oper}{c x y:Operand}{cb:Bool} (ho:o.op=.pick c x y) (hc:a.eval c=.bool cb):
 (execOp a.eval o).run P w=.ok (.value (if cb=true then a.eval x else a.eval y)) w:=by
 unfold execOp;simp only[ho,hc,asBool,Sem.run_bind,Sem.run_pure,Result.andThen_ok]
theorem Oa(ah:Sat N B h0 s h β w a) (hg:aB cx.gd h)
 {o:Oper}{c x y:Operand} (ho:o.op=.pick c x y) (k:N7 cx s G c x y K):
 ∃e,K e/\(gv s.gl G=true->∃v,(execOp a.eval o).run P w=.ok (.value v) w/\gJ h β e v):=by
 unfold N7 at k;split at k
 .rename_i sc;split at k
  .rename_i cb hcb;have hcv:gv s.gl G=true->a.eval (.tmp sc)=.bool cb:=λhG=>(aF ah hg hG hcb).1.1
   -- the common end
   have fin:∀{Ga Gb:Gd}{u v:Value},(gv s.gl G=true->cb=true->gv s.gl Ga=true)->(gv s.gl G=true->cb=false->gv s.gl Gb=true) ->
    bf cx s Ga x=some (.one (.c (.v u)))->bf cx s Gb y=some (.one (.c (.v v)))->EC cb x y u v K ->
    ∃e,K e/\(gv s.gl G=true->∃v,(execOp a.eval o).run P w=.ok (.value v) w/\gJ h β e v):=by
    intro Ga Gb u v ha hb hu hv kk;obtain⟨r,k1,k2,k3⟩:=N8 kk;refine⟨_,k1,λhG=>⟨_,N9 ho (hcv hG),?_⟩⟩
    have eu:cb=true->a.eval x=u:=λhc=>(aF ah hg (ha hG hc) hu).1.1
    have ev:cb=false->a.eval y=v:=λhc=>(aF ah hg (hb hG hc) hv).1.1
    have hr:=k3 (λhc p hp=>by rw[<-eu hc,hp];rfl) (λhc p hp=>by rw[<-ev hc,hp];rfl)
    have:(if cb=true then a.eval x else a.eval y)=r:=by
     rw[hr];cases cb with
     | true=>simpa using eu rfl
     | false=>simpa using ev rfl
    rw[this];exact⟨⟨rfl,k2⟩,k2⟩
   split at k
   .rename_i i hi;obtain⟨G1,b1,e1,e2,e3⟩:=ah.gs _ _ hi;have hb1:b1=cb:=by
     simp only[bf,e1]at hcb;split at hcb
     .cases hcb;rfl
     .cases hcb
    subst hb1;split at k
    .rename_i u hu;split at k
     .rename_i v hv;refine fin (λhG hc=>?_) (λhG hc=>?_) hu hv k
      .rw[nX,hG,Bool.and_true];unfold Em;rw[e3,hc]
      .rw[nX,hG,Bool.and_true];unfold Em;rw[e3,hc];rfl
     .cases k
    .cases k
   .split at k
    .rename_i u hu;split at k
     .rename_i v hv;exact fin (λhG _=>hG) (λhG _=>hG) hu hv k
     .cases k
    .cases k
  .cases k
 .cases k
abbrev kC(cx:Cx) (s:St) (G:Gd) (o:Oper) (K:bK->Prop):Prop:=match o.op with
 | .move x=>match bf cx s G x with
   | some e=>K e
   | none=>False
 | .assign x=>match bf cx s G x with
   | some e=>K e
   | none=>False
 | .binOp op t x y _=>match bf cx s G x with
   | some (.one (.c (.v u)))=>match bf cx s G y with
     | some (.one (.c (.v v)))=>match vN u with
       | true=>Xr cx s.gl G op t u v K
       | false=>False
     | _=>False
   | some (.one (.agg xs))=>match bf cx s G y with
     | some (.one v)=>eqK cx op t (.agg xs) v K
     | _=>False
   | some (.one (.dat sh d))=>match bf cx s G y with
     | some (.one v)=>eqK cx op t (.dat sh d) v K
     | _=>False
   | _=>False
 | .unOp op _ x=>match bf cx s G x with
   | some (.one (.c (.v u)))=>unK s.gl G op u K
   | _=>False
 | .convert src dst x=>match bf cx s G x with
   | some (.one (.c (.v u)))=>NV cx s.gl G src dst u K
   | _=>False
 | .load t x=>match bf cx s G x with
   | some (.one (.c p))=>pF cx s G t p K
   | _=>False
 | .fieldAddr t x f=>match bf cx s G x with
   | some (.one (.c p))=>rW cx s G t p f K
   | _=>False
 | .field t x f=>match bf cx s G x with
   | some (.one v)=>Gz cx t v f K
   | _=>False
 | .indexAddr t x i=>match bf cx s G x with
   | some (.one (.c p))=>match bf cx s G i with
     | some (.one (.c (.v (.int _ n))))=>rV cx s G t p n K
     | _=>False
   | _=>False
 | .index t x i=>match bf cx s G x with
   | some (.one v)=>match bf cx s G i with
     | some (.one (.c (.v (.int _ n))))=>Gy cx s G t v n K
     | _=>False
   | _=>False
 | .extract x i=>match bf cx s G x with
   | some (.l7 xs)=>match bW xs i with
     | some v=>K (.one v)
     | none=>False
   | _=>False
 | .nilCheck x=>match bf cx s G x with
   | some (.one (.c (.own r off)))=>K (.one (.c (.own r off)))
   | some (.one (.c (.iw r j sz off)))=>K (.one (.c (.iw r j sz off)))
   | some (.one (.c (.fp sh d)))=>K (.one (.c (.fp sh d)))
   | _=>False
 | .slice t x lo hi mx=>match mx with
   | none=>match bf cx s G x with
     | some (.one v)=>GH cx s G t v lo hi K
     | _=>False
   | some _=>False
 | .build t parts=>GK cx s G t (tl parts) K
 | .pick c a b=>N7 cx s G c a b K
 | .call c=>match c.callee with
   | .builtin .len=>match tl c.args with
     | [x]=>match tl c.argTypes with
       | [t]=>match bf cx s G x with
         | some (.one v)=>Xu cx s G t v K
         | _=>False
       | _=>False
     | _=>False
   | _=>False
 | _=>False
theorem yC(hc:bG P cx.ti) (ah:Sat N B h0 s h β w a) (hg:aB cx.gd h)
 {o:Oper} (k:kC cx s G o K):
 ∃e,K e/\(gv s.gl G=true->∃v,(execOp a.eval o).run P w=.ok (.value v) w/\gJ h β e v):=by
 have get:∀{G':Gd}{x:Operand}{e:bK},gv s.gl G'=true->bf cx s G' x=some e->gJ h β e (a.eval x):=λhG e=>aF ah hg hG e
 unfold kC at k;split at k
 .rename_i x ho;split at k
  .rename_i e he;exact⟨e,k,λhG=>⟨_,by simp[execOp,ho],get hG he⟩⟩
  .cases k
 .rename_i x ho;split at k
  .rename_i e he;exact⟨e,k,λhG=>⟨_,by simp[execOp,ho],get hG he⟩⟩
  .cases k
 .rename_i op t x y yt ho;split at k
  .rename_i u hu;split at k
   .rename_i v hv;split at k
    .rename_i hf;obtain⟨r,k1,k2,k3⟩:=Jd (P:=P) hc k;refine⟨_,k1,λhG=>⟨r,?_,⟨rfl,k2⟩,k2⟩⟩
     have e1:a.eval x=u:=(get hG hu).1.1;have e2:a.eval y=v:=(get hG hv).1.1;simp only[execOp,ho,e1,e2,Sem.run_bind,og P op t x y hf,Result.andThen_ok,k3 hG w,Sem.run_pure]
    .cases k
   .cases k
  .rename_i xs hu;split at k
   .rename_i v hv;obtain⟨r,k1,k2⟩:=CG (h:=h) (β:=β) hc k;refine⟨_,k1,λhG=>⟨.bool r,?_,⟨rfl,rfl,rfl⟩,rfl,rfl⟩⟩
    obtain⟨g1,g2⟩:=k2 _ _ x y (get hG hu) (get hG hv) w;simp only[execOp,ho,Sem.run_bind,g1,g2,Result.andThen_ok,Sem.run_pure]
   .cases k
  .rename_i sh d hu;split at k
   .rename_i v hv;obtain⟨r,k1,k2⟩:=CG (h:=h) (β:=β) hc k;refine⟨_,k1,λhG=>⟨.bool r,?_,⟨rfl,rfl,rfl⟩,rfl,rfl⟩⟩
    obtain⟨g1,g2⟩:=k2 _ _ x y (get hG hu) (get hG hv) w;simp only[execOp,ho,Sem.run_bind,g1,g2,Result.andThen_ok,Sem.run_pure]
   .cases k
  .cases k
 .rename_i op t x ho;split at k
  .rename_i u hu;obtain⟨r,k1,k2,k3⟩:=NU (P:=P) k;refine⟨_,k1,λhG=>⟨r,?_,⟨rfl,k2⟩,k2⟩⟩
   have e1:a.eval x=u:=(get hG hu).1.1;simp only[execOp,ho,e1,Sem.run_bind,k3 hG w,Result.andThen_ok,Sem.run_pure]
  .cases k
 .rename_i src dst x ho;split at k
  .rename_i u hu;obtain⟨r,k1,k2,k3⟩:=NW (P:=P) hc k;refine⟨_,k1,λhG=>⟨r,?_,⟨rfl,k2⟩,k2⟩⟩
   have e1:a.eval x=u:=(get hG hu).1.1;simp only[execOp,ho,e1,Sem.run_bind,k3 hG w,Result.andThen_ok,Sem.run_pure]
  .cases k
 .rename_i t x ho;split at k
  .rename_i p hp;obtain⟨e,k1,k2⟩:=yj hc ah k;refine⟨e,k1,λhG=>?_⟩
   obtain⟨y,r1,r2⟩:=k2 hG _ (get hG hp).1;exact⟨y,by simp only[execOp,ho,Sem.run_bind,r1 w (jf.refl w),Result.andThen_ok,Sem.run_pure],r2⟩
  .cases k
 .rename_i t x f ho;split at k
  .rename_i p hp;obtain⟨e,k1,k2⟩:=qZ (P:=P) (h:=h) (β:=β) hc k;refine⟨e,k1,λhG=>?_⟩
   obtain⟨y,r1,r2⟩:=k2 hG _ (get hG hp).1;exact⟨y,by simp only[execOp,ho,Sem.run_bind,r1,Result.andThen_ok,Sem.run_pure],r2⟩
  .cases k
 .rename_i t x f ho;split at k
  .rename_i v hv;obtain⟨e,k1,k2⟩:=Lc (P:=P) (s:=s) (G:=G) (h:=h) (β:=β) hc k;refine⟨e,k1,λhG=>?_⟩
   obtain⟨y,r1,r2⟩:=k2 hG w _ (get hG hv);exact⟨y,by simp only[execOp,ho,Sem.run_bind,r1,Result.andThen_ok,Sem.run_pure],r2⟩
  .cases k
 .rename_i t x i ho;split at k
  .rename_i p hp;split at k
   .rename_i ik n hi;obtain⟨e,k1,k2⟩:=qY (ik:=ik) hc ah k;refine⟨e,k1,λhG=>?_⟩
    obtain⟨y,r1,r2⟩:=k2 hG _ (get hG hp).1;have e1:a.eval i=.int ik n:=(get hG hi).1.1;exact⟨y,by simp only[execOp,ho,e1,Sem.run_bind,r1 w,Result.andThen_ok,Sem.run_pure],r2⟩
   .cases k
  .cases k
 .rename_i t x i ho;split at k
  .rename_i v hv;split at k
   .rename_i ik n hi;obtain⟨e,k1,k2⟩:=La (P:=P) (ik:=ik) (h:=h) (β:=β) hc k;refine⟨e,k1,λhG=>?_⟩
    obtain⟨y,r1,r2⟩:=k2 hG w _ (get hG hv);have e1:a.eval i=.int ik n:=(get hG hi).1.1;exact⟨y,by simp only[execOp,ho,e1,Sem.run_bind,r1,Result.andThen_ok,Sem.run_pure],r2⟩
   .cases k
  .cases k
 .rename_i x i ho;split at k
  .rename_i xs hx;split at k
   .rename_i v hv;refine⟨_,k,λhG=>?_⟩
    obtain⟨ys,e1,hall⟩:=get hG hx;obtain⟨y,hy,hvy⟩:=hall.get (show xs[i]?=some v by rw[<-bY];exact hv)
    exact⟨y,by simp[execOp,ho,e1,Instr.extract,hy],hvy⟩
   .cases k
  .cases k
 .rename_i x ho;split at k
  .rename_i r off hx;refine⟨_,k,λhG=>⟨a.eval x,?_,get hG hx⟩⟩
   obtain⟨⟨b,hb,e1⟩,_⟩:=get hG hx;simp only[execOp,ho,e1];rfl
  .rename_i r j sz off hx;refine⟨_,k,λhG=>⟨a.eval x,?_,get hG hx⟩⟩
   obtain⟨⟨v,g,hb,hg',e1⟩,_⟩:=get hG hx;simp only[execOp,ho,e1];rfl
  .rename_i sh d hx;refine⟨_,k,λhG=>⟨a.eval x,?_,get hG hx⟩⟩
   obtain⟨⟨b,o',cs,e1,_⟩,_⟩:=get hG hx;simp only[execOp,ho,e1];rfl
  .cases k
 .rename_i t x lo hi mx ho;split at k
  .split at k
   .rename_i v hv;obtain⟨e,k1,k2⟩:=Ld hc ah hg k;refine⟨e,k1,λhG=>?_⟩
    obtain⟨y,r1,r2⟩:=k2 hG _ (get hG hv);exact⟨y,by simp only[execOp,ho,Si,Sem.run_bind,r1,Result.andThen_ok,Sem.run_pure],r2⟩
   .cases k
  .cases k
 .rename_i t parts ho;obtain⟨e,k1,k2⟩:=Lh hc ah hg k;refine⟨e,k1,λhG=>?_⟩
  obtain⟨y,r1,r2⟩:=k2 hG;exact⟨y,by simp only[execOp,ho,Sem.run_bind,r1,Result.andThen_ok,Sem.run_pure],r2⟩
 .rename_i c x y ho;exact Oa ah hg ho k
 .rename_i c ho;split at k
  .rename_i aY;split at k
   .rename_i x hargs;split at k
    .rename_i t Xw;split at k
     .rename_i v hv;obtain⟨e,k1,k2⟩:=Jg (ty:=o.type) hc ah k;refine⟨e,k1,λhG=>?_⟩
      obtain⟨y,r1,r2⟩:=k2 hG _ (get hG hv);refine⟨y,?_,r2⟩;have ea:c.args=#[x]:=fE hargs;have et:c.argTypes=#[t]:=fE Xw;simp[execOp,ho,resolve,aY,ea,et,invoke,builtin,r1 w]
     .cases k
    .cases k
   .cases k
  .cases k
 .cases k
abbrev jO:Op->Bool
 | .move _=>true
 | .assign _=>true
 | .pick ..=>true
 | .extract ..=>true
 | .load ..=>true
 | _=>false
abbrev gV:Op->Bool
 | .binOp ..=>true
 | .unOp ..=>true
 | .indexAddr ..=>true
 | .fieldAddr ..=>true
 | .call c=>match c.callee with
   | .builtin .len=>true
   | _=>false
 | o=>jO o
abbrev isLoad:Op->Bool
 | .load ..=>true
 | _=>false
theorem Lj{ρ:Operand->Value}{o:Oper} (hf:jO o.op=true) (hl:∀t x,o.op≠.load t x) (r:(execOp ρ o).run P w=.ok (.value v) w):
 (execOp ρ o).run P w'=.ok (.value v) w':=by
 cases ho:o.op with
 | move x=>simp only[execOp,ho,Sem.run_pure]at r ⊢;cases r;rfl
 | assign x=>simp only[execOp,ho,Sem.run_pure]at r ⊢;cases r;rfl
 | load t x=>exact absurd ho (hl t x)
 | pick c x y=>
   simp only[execOp,ho,Sem.run_bind]at r ⊢;cases hc:ρ c<;>simp[hc,asBool,stuck]at r ⊢<;>exact r
 | extract x i=>
   simp only[execOp,ho,Sem.run_bind,Instr.extract]at r ⊢;cases hc:ρ x with
   | tuple vs=>
     rw[hc]at r;cases hv:vs[i]? with
     | some u=>simp[hv]at r ⊢;exact r
     | none=>simp[hv,stuck]at r
   | _=>rw[hc]at r;simp[stuck]at r
 | _=>rw[ho]at hf;simp[jO]at hf
theorem Ll(hc:bG P cx.ti) (ah:Sat N B h0 s h β w a) (hg:aB cx.gd h)
 {o:Oper} (hf:gV o.op=true) (k:kC cx s G o K):
 ∃e,K e/\(gv s.gl G=true->∃v,(∀w',(isLoad o.op=true->jf w w')->(execOp a.eval o).run P w'=.ok (.value v) w')/\gJ h β e v):=by
 have get:∀{G':Gd}{x:Operand}{e:bK},gv s.gl G'=true->bf cx s G' x=some e->gJ h β e (a.eval x):=λhG e=>aF ah hg hG e
 have k0:=k
 by_cases h0f:jO o.op=true/\∀t x,o.op≠.load t x
 .obtain⟨e,k1,k2⟩:=yC hc ah hg k;refine⟨e,k1,λhG=>?_⟩
  obtain⟨v,r,c⟩:=k2 hG;exact⟨v,λw' _=>Lj h0f.1 h0f.2 r,c⟩
 .cases ho:o.op with
  | load t x=>
    simp only[kC,ho]at k;split at k
    .rename_i p hp;obtain⟨e,k1,k2⟩:=yj hc ah k;refine⟨e,k1,λhG=>?_⟩
     obtain⟨y,r1,r2⟩:=k2 hG _ (aF ah hg hG hp).1;exact⟨y,λw' vO=>by simp only[execOp,ho,Sem.run_bind,r1 w' (vO rfl),Result.andThen_ok,Sem.run_pure],r2⟩
    .cases k
  | binOp op t x y yt=>
    simp only[kC,ho]at k;split at k
    .rename_i u hu;split at k
     .rename_i v hv;split at k
      .rename_i hf;obtain⟨r,k1,k2,k3⟩:=Jd (P:=P) hc k;refine⟨_,k1,λhG=>⟨r,λw' _=>?_,⟨rfl,k2⟩,k2⟩⟩
       have e1:a.eval x=u:=(get hG hu).1.1;have e2:a.eval y=v:=(get hG hv).1.1;simp only[execOp,ho,e1,e2,Sem.run_bind,og P op t x y hf,Result.andThen_ok,k3 hG w',Sem.run_pure]
      .cases k
     .cases k
    .rename_i xs hu;split at k
     .rename_i v hv;obtain⟨r,k1,k2⟩:=CG (h:=h) (β:=β) hc k;refine⟨_,k1,λhG=>⟨.bool r,λw' _=>?_,⟨rfl,rfl,rfl⟩,rfl,rfl⟩⟩
      obtain⟨g1,g2⟩:=k2 _ _ x y (get hG hu) (get hG hv) w';simp only[execOp,ho,Sem.run_bind,g1,g2,Result.andThen_ok,Sem.run_pure]
     .cases k
    .rename_i sh d hu;split at k
     .rename_i v hv;obtain⟨r,k1,k2⟩:=CG (h:=h) (β:=β) hc k;refine⟨_,k1,λhG=>⟨.bool r,λw' _=>?_,⟨rfl,rfl,rfl⟩,rfl,rfl⟩⟩
      obtain⟨g1,g2⟩:=k2 _ _ x y (get hG hu) (get hG hv) w';simp only[execOp,ho,Sem.run_bind,g1,g2,Result.andThen_ok,Sem.run_pure]
     .cases k
    .cases k
  | unOp op t x=>
    simp only[kC,ho]at k;split at k
    .rename_i u hu;obtain⟨r,k1,k2,k3⟩:=NU (P:=P) k;refine⟨_,k1,λhG=>⟨r,λw' _=>?_,⟨rfl,k2⟩,k2⟩⟩
     have e1:a.eval x=u:=(get hG hu).1.1;simp only[execOp,ho,e1,Sem.run_bind,k3 hG w',Result.andThen_ok,Sem.run_pure]
    .cases k
  | fieldAddr t x f=>
    simp only[kC,ho]at k;split at k
    .rename_i p hp;obtain⟨e,k1,k2⟩:=qZ (P:=P) (h:=h) (β:=β) hc k;refine⟨e,k1,λhG=>?_⟩
     obtain⟨y,r1,r2⟩:=k2 hG _ (get hG hp).1;exact⟨y,λw' _=>by simp only[execOp,ho,Sem.run_bind,r1 w',Result.andThen_ok,Sem.run_pure],r2⟩
    .cases k
  | indexAddr t x i=>
    simp only[kC,ho]at k;split at k
    .rename_i p hp;split at k
     .rename_i ik n hi;obtain⟨e,k1,k2⟩:=qY (ik:=ik) hc ah k;refine⟨e,k1,λhG=>?_⟩
      obtain⟨y,r1,r2⟩:=k2 hG _ (get hG hp).1;have e1:a.eval i=.int ik n:=(get hG hi).1.1;exact⟨y,λw' _=>by simp only[execOp,ho,e1,Sem.run_bind,r1 w',Result.andThen_ok,Sem.run_pure],r2⟩
     .cases k
    .cases k
  | call c=>
    simp only[kC,ho]at k;split at k
    .rename_i aY;split at k
     .rename_i x hargs;split at k
      .rename_i t Xw;split at k
       .rename_i v hv;obtain⟨e,k1,k2⟩:=Jg (ty:=o.type) hc ah k;refine⟨e,k1,λhG=>?_⟩
        obtain⟨y,r1,r2⟩:=k2 hG _ (get hG hv);refine⟨y,λw' _=>?_,r2⟩
        have ea:c.args=#[x]:=fE hargs;have et:c.argTypes=#[t]:=fE Xw;simp[execOp,ho,resolve,aY,ea,et,invoke,builtin,r1 w']
       .cases k
      .cases k
     .cases k
    .cases k
  | _=>
    exact absurd ⟨(qV jO ho).trans ((qV gV ho).symm.trans hf),λt x hh=>by rw[ho]at hh;cases hh⟩ h0f
end Go.lZ
