/- Part 1 of the proof. Conditions: the rows'. -/
import Derived.WalkKit
import Derived.RangeFuncCalls
import Derived.OrdersIn
import Derived.Laws.StructEq
import Derived.ChangeKeysEq
set_option linter.unusedSimpArgs false
set_option linter.unusedVariables false
set_option maxRecDepth 1000000
set_option maxHeartbeats 8000000
abbrev A8:=@Bool.and_eq_true
abbrev eU:=@List.getElem?_eq_some_iff
abbrev gI:=@Nat.eq_of_beq_eq_true
abbrev iZ:=@decide_eq_false_iff_not
abbrev iE:=@decide_eq_true_eq
abbrev kW:=@List.getElem?_eq_getElem
abbrev kT:=@List.mem_of_getElem?
abbrev kU:=@List.getElem?_set_ne
abbrev lK:=@Nat.le_of_ble_eq_true
abbrev kD:=@List.length_append
abbrev nX:=@List.getElem?_set_self
abbrev pz:=@Bool.or_eq_false_iff
abbrev jM:=@List.mem_cons
abbrev mY:=@List.length_take
abbrev zh:=@Array.getElem?_eq_some_iff
abbrev vO:=@Nat.mul_le_mul_right
abbrev uh:=@List.getElem?_take
abbrev mZ:=@Nat.le_refl
abbrev o9:=@Nat.le_trans
abbrev Gu:=@List.getD_eq_getElem?_getD
abbrev uM:=@Bool.or_eq_true
abbrev yS:=@Bool.not_eq_true'
abbrev yT:=@List.length_drop
abbrev Jh:=@List.getElem?_append_right
abbrev Gy:=@List.take_of_length_le
abbrev uN:=@Nat.succ_mul
abbrev zI:=@List.length_cons
abbrev CJ:=@List.append_assoc
abbrev CO:=@List.size_toArray
abbrev LH:=@List.mem_or_eq_of_mem_set
abbrev QL:=@List.eq_nil_of_length_eq_zero
abbrev Cj:=@List.mem_append
abbrev uo:=@beq_iff_eq
abbrev Gv:=@List.getElem?_drop
abbrev Ja:=@List.getElem?_of_mem
abbrev Gz:=@Nat.lt_of_lt_of_le
abbrev Gw:=@List.getElem?_map
abbrev qy:=@congrArg
abbrev QM:=@List.getElem?_append_left
abbrev yU:=@Nat.zero_add
abbrev LJ:=@List.getElem?_eq_none
abbrev Eo:=@List.length_set
abbrev Ep:=@decide_eq_false
abbrev ZQ:=@List.findIdx?_eq_some_iff_getElem
abbrev zJ:=@Nat.zero_le
abbrev ZR:=@Array.getElem?_setIfInBounds_ne
abbrev Es:=@List.map_cons
abbrev OL:=@Array.length_toList
abbrev Jb:=@Bool.eq_iff_iff
abbrev LK:=@List.ext_getElem?
abbrev LM:=@List.all_eq_true
abbrev GH:=@Bool.true_and
abbrev OM:=@Classical.not_not
abbrev VW:=@Array.getElem?_eq_none
abbrev QN:=@Bool.not_eq_false'
abbrev LP:=@List.nil_append
abbrev VX:=@List.take_append_drop
abbrev Wp:=@List.drop_of_length_le
abbrev Gx:=@Nat.add_mul
abbrev OO:=@List.append_nil
abbrev OQ:=@List.length_nil
abbrev A70:=@List.drop_length_add_append
abbrev Wq:=@Nat.ble_eq_true_of_le
abbrev Ws:=@List.length_replicate
abbrev ZT:=@Nat.le_mul_of_pos_right
abbrev A74:=@Int.tdiv_eq_ediv_of_nonneg
abbrev QO:=@Option.map_some
abbrev VY:=@Array.size_append
abbrev A77:=@Option.isSome_iff_exists
abbrev Wu:=@List.mem_singleton
abbrev Jc:=@bne_iff_ne
abbrev ZU:=@List.getElem?_append
abbrev QW:=@List.take_left
abbrev LQ:=@Nat.le_succ
abbrev ZV:=@Array.toList_append
abbrev VZ:=@Option.some.inj
abbrev V3:=@List.nodup_cons
abbrev A86:=@List.findIdx?_eq_none_iff
abbrev A87:=@List.take_append_of_le_length
abbrev ZW:=@List.pairwise_cons
abbrev QS:=@List.mem_map
abbrev ZX:=@of_decide_eq_true
abbrev V4:=@Nat.add_assoc
abbrev Wv:=@List.drop_zero
abbrev A93:=@List.contains_iff_mem
abbrev A94:=@Bool.and_eq_false_iff
abbrev Wx:=@decide_eq_true
abbrev A96:=@List.drop_append_of_le_length
abbrev A97:=@Nat.ne_of_beq_eq_false
abbrev Wy:=@Nat.lt_or_ge
abbrev A99:=@List.take_length_add_append
abbrev Ji:=@Nat.min_eq_left
abbrev Jj:=@List.foldl_cons
abbrev OU:=@Option.some.injEq
abbrev OV:=@List.take_add_one
abbrev Jk:=@List.mem_range
abbrev Jl:=@Bool.not_false
abbrev GI:=@Nat.zero_mul
abbrev WA:=@List.getElem?_cons_zero
abbrev QX:=@Bool.false_eq_true
abbrev QY:=@of_decide_eq_false
abbrev QZ:=@decide_eq_true_iff
abbrev OW:=@List.take_zero
abbrev OX:=@List.drop_drop
abbrev Jo:=@Bool.true_or
abbrev Q5:=@List.any_eq_true
abbrev OY:=@Bool.not_true
abbrev OZ:=@Bool.false_or
abbrev Q7:=@List.map_append
abbrev O1:=@Nat.add_zero
abbrev WB:=@List.find?_eq_none
abbrev aaO:=@List.getElem?_take_of_lt
abbrev Q8:=@Prod.mk.injEq
abbrev GK:=@if_false
abbrev Q9:=@Nat.add_comm
abbrev WC:=@Option.map_none
abbrev WE:=@List.length_map
abbrev aaP:=@List.pairwise_append
abbrev aaQ:=@List.getElem?_zipIdx
abbrev aaR:=@List.replicate_succ
abbrev aaS:=@List.take_succ_cons
abbrev aaT:=@List.takeWhile_cons
abbrev Rf:=@Nat.mul_one
abbrev aaU:=@Array.empty_append
namespace Go.lM
open Go Go.RowKit
variable {a:Act}{b o f cap off j N:Nat}{w w':World}{v y:Value}{t:TypeId}{cs:List Value}{n:Int}{k ik:IntKind}{α:Type}{P:Program}{gl:List Bool}{op:BinOp}
inductive Sh where
 | int (k:IntKind) | bool | str | any | sl (s:Sh) | pair (a b:Sh) | unit | arr (n:Nat) (s:Sh) | mp (k:IntKind) (s:Sh)
 deriving DecidableEq
abbrev Sh.den:Sh->Type
 | .int _=>Int
 | .bool=>Bool
 | .str=>ByteArray
 | .any=>Value
 | .sl s=>List s.den
 | .pair a b=>a.den×b.den
 | .unit=>Unit
 | .arr _ s=>List s.den
 | .mp _ s=>List (Int×s.den)
abbrev Sh.size:Sh->Nat
 | .pair a b=>a.size+b.size
 | .unit=>0
 | .arr n s=>n * s.size
 | .int _=>1
 | .bool=>1
 | .str=>1
 | .any=>1
 | .sl _=>1
 | .mp _ _=>1
abbrev Sh.isAgg:Sh->Bool
 | .pair _ _=>true
 | .unit=>true
 | .arr _ _=>true
 | _=>false
abbrev FH:=Nat->Nat->Option Value
variable {h h' h0:FH}
def FH.le(h h':FH):Prop:=∀b o v,h b o=some v->h' b o=some v
theorem FH.le.refl(h:FH):h.le h:=λ_ _ _ e=>e
theorem FH.le.trans{a b c:FH} (x:a.le b) (y:b.le c):a.le c:=λ_ _ _ e=>y _ _ _ (x _ _ _ e)
def bZ(v:Value):Prop:=v.cells=#[v]/\v.oneCell'=true
def aI{α β:Type} (R:α->β->Prop):List α->List β->Prop
 | [],[]=>True
 | a :: l,b :: m=>R a b/\aI R l m
 | _,_=>False
theorem aI.mono{α β:Type}{R R':α->β->Prop} (hR:∀a b,R a b->R' a b):∀{l:List α}{m:List β},aI R l m->aI R' l m
 | [],[],_=>trivial
 | _ :: _,_ :: _,⟨a,b⟩=>⟨hR _ _ a,aI.mono hR b⟩
def O4(e:MapEntry):Value:=.tuple #[e.key,e.val,.int .i64 e.born]
def CP(es:Array MapEntry) (c:Nat):Value:=.tuple #[.agg (es.toList.map O4).toArray,.int .i64 c]
def vis(w:World) (b o:Nat):Option Value:=match w.heap[b]? with
 | some (.cells c _ _)=>match c[o]? with
   | some v=>if v.oneCell'=true then some v else none
   | none=>none
 | some (.map es c)=>if o=0 then some (CP es c) else none
 | _=>none
theorem Rh{e e':MapEntry} (h:O4 e=O4 e'):e=e':=by
 cases e;cases e';simp[O4]at h;obtain⟨a,b,c⟩:=h;have c:=Int.ofNat.inj c;subst a;subst b;subst c;rfl
theorem Ri{es es':Array MapEntry}{c c':Nat} (h:CP es c=CP es' c'):es=es'/\c=c':=by
 simp only[CP,Value.tuple.injEq,Array.mk.injEq,List.cons.injEq,Value.agg.injEq,Value.int.injEq,true_and,and_true]at h;refine⟨?_,by omega⟩
 have key:∀(l l':List MapEntry),l.map O4=l'.map O4->l=l':=by
  intro l
  induction l with
  | nil=>intro l' e;cases l'<;>simp_all
  | cons x l ih=>
    intro l' e;cases l' with
    | nil=>simp at e
    | cons y l'=>
      simp only[Es,List.cons.injEq]at e;rw[Rh e.1,ih l' e.2]
 exact Array.toList_inj.1 (key _ _ h.1)
theorem kX(h:vis w b o=some v):b < w.heap.size:=by
 rcases Wy b w.heap.size with h1 | h1
 .exact h1
 .simp[vis,VW h1]at h
theorem jf(e:w'.heap[b]?=w.heap[b]?):vis w' b o=vis w b o:=by
 simp[vis,e]
theorem zK(h:vis w b o=some v) (h1:v.oneCell'=true):w.cell? ⟨b,o,none⟩=some v:=by
 unfold vis at h;unfold World.cell?;split at h
 .rename_i c t f hb;simp only[hb];split at h
  .rename_i u hu;split at h
   .cases h;simp[hu]
   .cases h
  .cases h
 .split at h
  .cases h;simp[CP,Value.oneCell']at h1
  .cases h
 .cases h
theorem Rj(h:w.cell? ⟨b,o,none⟩=some v) (h1:v.oneCell'=true):vis w b o=some v:=by
 unfold World.cell? at h;unfold vis;split at h
 .rename_i c t f hb;simp only[hb];simp at h;simp[h,h1]
 .cases h
theorem lN{c:Array Value}{f:Nat×Nat} (hb:w.heap[b]?=some (.cells c t f)) (hv:c[o]?=some v) (h1:v.oneCell'=true):vis w b o=some v:=by
 unfold vis;simp[hb,hv,h1]
theorem WG{es:Array MapEntry}{c:Nat} (h:vis w b 0=some (CP es c)):w.heap[b]?=some (.map es c):=by
 unfold vis at h;split at h
 .split at h
  .split at h
   .rename_i h1;cases h;simp[CP,Value.oneCell']at h1
   .cases h
  .cases h
 .rename_i es' c' hb;simp at h;obtain⟨rfl,rfl⟩:=Ri h;exact hb
 .cases h
theorem LU{es:Array MapEntry}{c:Nat} (h:w.heap[b]?=some (.map es c)):vis w b 0=some (CP es c):=by
 simp[vis,h]
def Et{α:Type} (l:List (Int×α)):Prop:=l.Pairwise λx y=>x.1 < y.1
structure uO {α:Type} (k:IntKind) (R:Value->α->Prop) (es:Array MapEntry) (c:Nat) (l:List (Int×α)):Prop where
 up:Et l
 al:∃ks:List (Int×α),ks.Perm l/\aI (λx (e:MapEntry)=>e.key=.int k x.1/\R e.val x.2) ks es.toList
 st:(es.toList.map (·.born)).Nodup
 lt:∀e∈es.toList,e.born < c
def O5{α:Type} (h:FH) (k:IntKind) (R:Value->α->Prop) (v:Value) (l:List (Int×α)):Prop:=
 (v=.map none/\l=[])\/∃b es c,v=.map (some b)/\h b 0=some (CP es c)/\uO k R es c l
theorem uO.mono{α:Type}{k:IntKind}{R R':Value->α->Prop} (hR:∀v d,R v d->R' v d){es:Array MapEntry}{c:Nat}{l:List (Int×α)} (x:uO k R es c l):uO k R' es c l:=by
 obtain⟨a,⟨ks,b1,b2⟩,d,e⟩:=x;exact⟨a,⟨ks,b1,b2.mono λ_ _ q=>⟨q.1,hR _ _ q.2⟩⟩,d,e⟩
theorem O5.mono{α:Type}{h h':FH} (le:h.le h'){k:IntKind}{R R':Value->α->Prop} (hR:∀v d,R v d->R' v d){v:Value}{l:List (Int×α)}:O5 h k R v l->O5 h' k R' v l
 | .inl e=>.inl e
 | .inr ⟨b,es,c,e,q,r⟩=>.inr ⟨b,es,c,e,le _ _ _ q,r.mono hR⟩
theorem O5.bZ{α:Type}{h:FH}{k:IntKind}{R:Value->α->Prop}{v:Value}{l:List (Int×α)} (x:O5 h k R v l):bZ v:=by
 rcases x with⟨e,_⟩ | ⟨b,es,c,e,_⟩<;>subst e<;>exact⟨rfl,rfl⟩
def mkV(s:Sh) (cs:List Value):Value:=if s.isAgg then .agg cs.toArray else cs.headD undef
def eX{α:Type} (R:List Value->α->Prop):List Value->List α->Prop
 | cs,[]=>cs=[]
 | cs,d :: l=>∃c r,cs=c++r/\R c d/\eX R r l
def At(h:FH) (b o:Nat) (cs:List Value):Prop:=∀j u,cs[j]?=some u->h b (o+j)=some u
def nY{α:Type} (h:FH) (R:List Value->α->Prop) (v:Value) (l:List α):Prop:=
 (v=.slice none 0 0/\l=[])\/(∃a cap,v=.slice (some a) 0 cap/\l=[]/\cap<=maxLen) \/
 ∃b off cap,v=.slice (some ⟨b,off,none⟩) l.length cap/\l.length<=cap/\cap<=maxLen/\∃cs,eX R cs l/\At h b off cs
def Rd(h:FH):(s:Sh)->List Value->s.den->Prop
 | .int k,cs,n=>cs=[.int k n]
 | .bool,cs,b=>cs=[.bool b]
 | .str,cs,b=>cs=[.string b]
 | .any,cs,v=>cs=[v]/\bZ v
 | .unit,cs,_=>cs=[]
 | .pair a b,cs,(x,y)=>∃c1 c2,cs=c1++c2/\Rd h a c1 x/\Rd h b c2 y
 | .arr n s,cs,l=>l.length=n/\eX (Rd h s) cs l
 | .sl s,cs,l=>∃v,cs=[v]/\nY h (Rd h s) v l
 | .mp k s,cs,l=>∃v,cs=[v]/\O5 h k (λu d=>∃cs,u=mkV s cs/\Rd h s cs d) v l
theorem At.mono(le:h.le h') (x:At h b o cs):At h' b o cs:=λj u e=>le _ _ _ (x j u e)
theorem eX.mono{α:Type}{R R':List Value->α->Prop} (hR:∀c d,R c d->R' c d):∀{l:List α}{cs:List Value},eX R cs l->eX R' cs l
 | [],_,h=>h
 | _ :: _,_,⟨c,r,e,h1,h2⟩=>⟨c,r,e,hR _ _ h1,eX.mono hR h2⟩
theorem nY.mono{α:Type}{h h':FH} (le:h.le h'){R R':List Value->α->Prop} (hR:∀c d,R c d->R' c d){v:Value}{l:List α} (x:nY h R v l):nY h' R' v l:=by
 rcases x with x | x | ⟨b,off,cap,e,h1,h2,cs,h3,h4⟩
 .exact .inl x
 .exact .inr (.inl x)
 .exact .inr (.inr ⟨b,off,cap,e,h1,h2,cs,h3.mono hR,h4.mono le⟩)
theorem Rd.mono{h h':FH} (le:h.le h'):∀(s:Sh){cs:List Value}{d:s.den},Rd h s cs d->Rd h' s cs d
 | .int _,_,_,x=>x
 | .bool,_,_,x=>x
 | .str,_,_,x=>x
 | .any,_,_,x=>x
 | .unit,_,_,x=>x
 | .pair a b,_,(_,_),⟨c1,c2,e,h1,h2⟩=>⟨c1,c2,e,Rd.mono le a h1,Rd.mono le b h2⟩
 | .arr _ s,_,_,⟨e,x⟩=>⟨e,x.mono λ_ _=>Rd.mono le s⟩
 | .sl s,_,_,⟨v,e,x⟩=>⟨v,e,x.mono le λ_ _=>Rd.mono le s⟩
 | .mp k s,_,_,⟨v,e,x⟩=>⟨v,e,x.mono le λ_ _ ⟨cs,q,r⟩=>⟨cs,q,Rd.mono le s r⟩⟩
theorem eX.size{α:Type}{R:List Value->α->Prop}{k:Nat} (hR:∀c d,R c d->c.length=k):∀{l:List α}{cs:List Value},eX R cs l->cs.length=l.length * k
 | [],_,h=>by simp[show _=[] from h]
 | _ :: _,_,⟨c,r,e,h1,h2⟩=>by
   have:=eX.size hR h2;rw[e,kD,hR _ _ h1,this,zI,uN];omega
theorem Rd.size{h:FH}:∀(s:Sh){cs:List Value}{d:s.den},Rd h s cs d->cs.length=s.size
 | .int _,_,_,x=>by simp[show _=[_] from x]
 | .bool,_,_,x=>by simp[show _=[_] from x]
 | .str,_,_,x=>by simp[show _=[_] from x]
 | .any,_,_,x=>by simp[show _=[_] from x.1]
 | .unit,_,_,x=>by simp[show _=[] from x]
 | .pair a b,_,(_,_),⟨c1,c2,e,h1,h2⟩=>by rw[e,kD,Rd.size a h1,Rd.size b h2]
 | .arr _ s,_,_,⟨e,x⟩=>by rw[eX.size (λ_ _=>Rd.size s) x,e]
 | .sl s,_,_,⟨v,e,x⟩=>by simp[e]
 | .mp k s,_,_,⟨v,e,x⟩=>by simp[e]
theorem bD(k:IntKind) (n:Int):bZ (.int k n):=⟨rfl,rfl⟩
theorem bU(b:Bool):bZ (.bool b):=⟨rfl,rfl⟩
theorem fA(b:ByteArray):bZ (.string b):=⟨rfl,rfl⟩
theorem nY.bZ{α:Type}{h:FH}{R:List Value->α->Prop}{v:Value}{l:List α} (x:nY h R v l):bZ v:=by
 rcases x with⟨e,_⟩ | ⟨a,cap,e,_⟩ | ⟨b,off,cap,e,_⟩<;>subst e<;>exact⟨rfl,rfl⟩
theorem eX.all{α:Type}{R:List Value->α->Prop}{p:Value->Prop} (hR:∀c d,R c d->∀v∈c,p v):∀{l:List α}{cs:List Value},eX R cs l->∀v∈cs,p v
 | [],_,h,v,hv=>by simp[show _=[] from h]at hv
 | _ :: _,_,⟨c,r,e,h1,h2⟩,v,hv=>by
   rw[e,Cj]at hv;exact hv.elim (hR _ _ h1 v) (eX.all hR h2 v)
theorem Rd.one{h:FH}:∀(s:Sh){cs:List Value}{d:s.den},Rd h s cs d->∀v∈cs,lM.bZ v
 | .int _,_,_,x,v,hv=>by simp[show _=[_] from x]at hv;subst hv;exact bD _ _
 | .bool,_,_,x,v,hv=>by simp[show _=[_] from x]at hv;subst hv;exact bU _
 | .str,_,_,x,v,hv=>by simp[show _=[_] from x]at hv;subst hv;exact fA _
 | .any,_,_,x,v,hv=>by simp[show _=[_] from x.1]at hv;subst hv;exact x.2
 | .unit,_,_,x,v,hv=>by simp[show _=[] from x]at hv
 | .pair a b,_,(_,_),⟨c1,c2,e,h1,h2⟩,v,hv=>by
   rw[e,Cj]at hv;exact hv.elim (Rd.one a h1 v) (Rd.one b h2 v)
 | .arr _ s,_,_,⟨_,x⟩,v,hv=>eX.all (λ_ _=>Rd.one s) x v hv
 | .sl s,_,_,⟨u,e,x⟩,v,hv=>by simp[e]at hv;subst hv;exact x.bZ
 | .mp k s,_,_,⟨u,e,x⟩,v,hv=>by simp[e]at hv;subst hv;exact x.bZ
theorem eX.append{α:Type}{R:List Value->α->Prop}:∀{l l':List α}{cs cs':List Value},eX R cs l->eX R cs' l'->eX R (cs++cs') (l++l')
 | [],_,_,_,h,h'=>by simp[show _=[] from h];exact h'
 | _ :: _,_,_,_,⟨c,r,e,h1,h2⟩,h'=>⟨c,r++_,by rw[e,CJ],h1,eX.append h2 h'⟩
theorem eX.split{α:Type}{R:List Value->α->Prop}{k:Nat} (hR:∀c d,R c d->c.length=k):∀{l l':List α}{cs:List Value},eX R cs (l++l')->eX R (cs.take (l.length * k)) l/\eX R (cs.drop (l.length * k)) l'
 | [],_,_,h=>by simpa[eX]using h
 | d :: l,l',_,⟨c,r,e,h1,h2⟩=>by
   have hc:=hR _ _ h1;obtain⟨i1,i2⟩:=eX.split hR h2;have e1:(d :: l).length * k=c.length+l.length * k:=by rw[zI,uN,hc];omega
   rw[e1,e,A99,A70];exact⟨⟨c,_,rfl,h1,i1⟩,i2⟩
theorem eX.get{α:Type}{R:List Value->α->Prop}{k:Nat} (hR:∀c d,R c d->c.length=k):∀{l:List α}{cs:List Value}{j:Nat}{d:α},eX R cs l->l[j]?=some d->R ((cs.drop (j * k)).take k) d/\(j+1) * k<=cs.length
 | [],_,_,_,_,e=>by simp at e
 | x :: l,_,0,d,⟨c,r,e,h1,h2⟩,hj=>by
   have hc:=hR _ _ h1;simp at hj;subst hj;simp only[GI,Wv];refine⟨?_,?_⟩
   .rw[e,show k=c.length from hc.symm,QW];exact h1
   .rw[e,kD];omega
 | x :: l,_,j+1,d,⟨c,r,e,h1,h2⟩,hj=>by
   have hc:=hR _ _ h1;have ih:=eX.get hR h2 (show l[j]?=some d by simpa using hj)
   have e1:(j+1) * k=c.length+j * k:=by rw[uN,hc];omega
   refine⟨?_,?_⟩
   .rw[e,e1,A70];exact ih.1
   .rw[e,kD,uN,hc];have:=ih.2;omega
theorem At.sub(x:At h b o cs) (i k:Nat):At h b (o+i) ((cs.drop i).take k):=by
 intro j u e;rw[uh]at e;split at e
 .rw[Gv]at e;rw[V4];exact x _ _ e
 .cases e
abbrev bW:List Sh->Type
 | []=>Unit
 | s :: l=>s.den×bW l
def DV(h:FH) (s:Sh) (d:s.den) (v:Value):Prop:=∃cs,v=mkV s cs/\Rd h s cs d
def yF(h:FH):(ss:List Sh)->bW ss->List Value->Prop
 | [],_,[]=>True
 | s :: l,d,v :: vs=>DV h s d.1 v/\yF h l d.2 vs
 | _,_,_=>False
theorem DV.mono{h h':FH} (le:h.le h'){s:Sh}{d:s.den}{v:Value} (x:DV h s d v):DV h' s d v:=by
 obtain⟨cs,e,r⟩:=x;exact⟨cs,e,r.mono le s⟩
theorem yF.mono{h h':FH} (le:h.le h'):∀{ss:List Sh}{d:bW ss}{vs:List Value},yF h ss d vs->yF h' ss d vs
 | [],_,[],_=>trivial
 | [],_,_ :: _,x=>x.elim
 | _ :: _,_,[],x=>x.elim
 | _ :: _,_,_ :: _,⟨a,b⟩=>⟨a.mono le,yF.mono le b⟩
def capD(h:FH):(ss:List Sh)->bW ss->List Value->Prop
 | [],_,[]=>True
 | s :: l,d,y :: m=>(∃b cs,y=.pointer (some ⟨b,0,none⟩)/\Rd h s cs d.1/\At h b 0 cs)/\capD h l d.2 m
 | _,_,_=>False
theorem capD.mono{h h':FH} (le:h.le h'):∀{ss:List Sh}{d:bW ss}{ys:List Value},capD h ss d ys->capD h' ss d ys
 | [],_,[],_=>trivial
 | [],_,_ :: _,x=>x.elim
 | _ :: _,_,[],x=>x.elim
 | s :: _,_,_ :: _,⟨⟨b,cs,e,r,a⟩,x⟩=>⟨⟨b,cs,e,r.mono le s,a.mono le⟩,capD.mono le x⟩
def HW(h:FH) (w:World):Prop:=∀b o v,h b o=some v->vis w b o=some v
theorem HW.mono(le:h.le h') (x:HW h' w):HW h w:=λb o v e=>x b o v (le b o v e)
structure Gb (w w':World) (row:Option Nat):Prop extends World.grownBy w w' row where
 dr:w.drawn<=w'.drawn
theorem jO(w:World) (o:Obj) (row:Option Nat):Gb w (w.alloc o) row:=⟨World.grownBy_alloc _ _ _,mZ _⟩
abbrev ours:Obj->Bool
 | .cells _ _ _=>true
 | .map _ _=>true
 | .mapIter _ _ _ _=>true
 | _=>false
def CQ(P:Program) (f:FuncId):Prop:=∃fn,P.funcs[f]?=some fn/\fn.body.isSome=true/\(fn.name == "runtime.NumGoroutine")=false
structure Gs (G:Nat->Prop) (A A':World):Prop where
 os:A'.os=A.os
 tape:A'.tape=A.tape
 output:A'.output=A.output
 size:A.heap.size<=A'.heap.size
 dr:A.drawn<=A'.drawn
 block:∀k,k < A.heap.size->¬G k->A'.heap[k]?=A.heap[k]?
def Own'(G G':Nat->Prop) (A A':World):Prop:=∀b,G' b->b < A'.heap.size/\(G b\/A.heap.size<=b)
def Gives(P:Program) (h:FH) (ss:List Sh) (L:List (bW ss)) (y:Value):Prop:=
 ∃g lb,y=.func (.func g) #[] lb/\CQ P g/\∀(l:Nat) (J:Option Nat->(Nat->Prop)->World->Prop) (W:World),
   (∀i G A,J i G A->HW h A)->(∀i G G' A A',J i G A->Gs G A A'->Own' G G' A A'->J i G' A') ->
   (∀i d vs G A,L[i]?=some d->yF h ss d vs->J (some i) G A->YieldAt Fence.wide 0 P l vs.toArray A λe A'=>(∀b,G b->A'.heap[b]?=A.heap[b]?) /\
    ((e=.returned (.bool true)/\J (some (i+1)) G A')\/(e=.returned (.bool false)/\J none G A'))) ->
   J (some 0) (λ_=>False) W->CallsIn Fence.wide 0 P g (#[.func (.yield l) #[] #[]]++lb) W λe W'=>(∃v,e=.returned v)/\∃G,J (some L.length) G W'\/J none G W'
def Rk(P:Program) (h:FH) (ss:List Sh) (r:Sh) (pre:bW ss->Prop) (f:bW ss->r.den) (y:Value):Prop:=
 ∃g lb,y=.func (.func g) #[] lb/\CQ P g/\∀(d:bW ss) (vs:List Value) (h':FH) (w:World),h.le h'->HW h' w->yF h' ss d vs->pre d ->
   Calls P g (vs.toArray++lb) w λen w'=>∃v,en=.returned v/\DV (λ_ _=>none) r (f d) v/\Below w.heap.size w w'/\w.drawn<=w'.drawn
inductive Dj where
 | seq (P:Program) (ss:List Sh) (L:List (bW ss))
 | clo (P:Program) (ss:List Sh) (r:Sh) (pre:bW ss->Prop) (f:bW ss->r.den)
 | Rl (l:Nat)
 | O6 (s:Sh) (l:List s.den)
def Dj.rel(h:FH):Dj->Value->Prop
 | .seq P ss L,y=>Gives P h ss L y
 | .clo P ss r pre f,y=>Rk P h ss r pre f y
 | .Rl l,y=>y=.func (.yield l) #[] #[]
 | .O6 s l,y=>nY h (Rd h s) y l/\∃a n,y=.slice a n n
theorem Dj.vP(le:h.le h'):∀{x:Dj}{y:Value},x.rel h y->x.rel h' y
 | .seq P ss L,y,⟨g,lb,e,f,k⟩=>⟨g,lb,e,f,λl J W h1 h2 h3 h4=>k l J W (λi G A a=>(h1 i G A a).mono le) h2 (λi d vs G A hi hd hj=>h3 i d vs G A hi (hd.mono le) hj) h4⟩
 | .clo P ss r pre f,y,⟨g,lb,e,fi,k⟩=>⟨g,lb,e,fi,λd vs h'' w l1=>k d vs h'' w (le.trans l1)⟩
 | .Rl l,y,e=>e
 | .O6 s l,y,⟨x,e⟩=>⟨x.mono le λ_ _=>Rd.mono le s,e⟩
theorem Dj.WH:∀{x:Dj}{y:Value},x.rel h y->bZ y
 | .seq P ss L,y,⟨g,lb,e,_⟩=>by subst e;exact⟨rfl,rfl⟩
 | .clo P ss r pre f,y,⟨g,lb,e,_⟩=>by subst e;exact⟨rfl,rfl⟩
 | .Rl l,y,e=>by subst e;exact⟨rfl,rfl⟩
 | .O6 s l,y,⟨x,_⟩=>x.bZ
structure MK where
 ss:List Sh
 f:bW ss->Dj
 pre:bW ss->Prop:=λ_=>True
inductive SC where
 | v (x:Value)
 | sl (s:Sh) (l:List s.den)
 | fp (s:Sh) (d:s.den)
 | one (s:Sh) (d:s.den)
 | own (i off:Nat)
 | row (i:Nat)
 | jh (i j sz off:Nat)
 | sub (i j:Nat)
 | jX (i j k sz off:Nat)
 | abs (x:Dj)
 | junk
inductive SV where
 | c (x:SC)
 | agg (xs:List SC)
 | dat (s:Sh) (d:s.den)
 | und
inductive aW where
 | one (x:SV)
 | iQ (xs:List SV)
variable {K:aW->Prop}
inductive aC where
 | blk (t:TypeId) (cs:List SC)
 | row (t:TypeId) (s:Sh) (l:List s.den)
 | obj (t:TypeId) (s:Sh) (d:s.den)
 | deep (t:TypeId) (s:Sh) (l:List s.den) (tt:TypeId) (e:Sh) (off:Nat) (own:Nat->Bool) (hs:List Nat)
 | mp (k:IntKind) (s:Sh) (l:List (Int×s.den))
 | Jd (k:IntKind) (s:Sh) (l:List (Int×s.den)) (n:Int)
 | it (k:IntKind) (s:Sh) (l dn:List (Int×s.den))
 | GL (t:TypeId) (k:IntKind) (l:List Int) (base:Nat)
 | Dk (t:TypeId) (s:Sh) (l:List s.den) (off:Nat)
 | gone
variable {T:List aC}{r:aC}
inductive RV where
 | blk (b:Nat)
 | row (v:Value)
 | deep (v:Value) (us:Nat->Value)
 | no
variable {β:List RV}
def au:Value->Option Nat
 | .slice (some a) _ c=>if c=0 then none else some a.block
 | .map (some b)=>some b
 | _=>none
theorem aO{g n:Nat}{x:Option Nat} (h:1<=cap):au (.slice (some ⟨g,o,x⟩) n cap)=some g:=by
 simp[au];omega
def RV.block:RV->Option Nat
 | .blk b=>some b
 | .row v=>au v
 | .deep v _=>au v
 | .no=>none
def RV.sub:RV->Nat->Prop
 | .deep _ us,b=>∃j,au (us j)=some b
 | _,_=>False
def RV.has(v:RV) (b:Nat):Prop:=v.block=some b\/v.sub b
def RV.sl:RV->Option Value
 | .row v=>some v
 | .deep v _=>some v
 | _=>none
theorem ji{c:Nat}:(RV.blk c).has b↔c=b:=by simp[RV.has,RV.block,RV.sub]
theorem aT:(RV.row v).has b↔au v=some b:=by simp[RV.has,RV.block,RV.sub]
theorem Jp:¬RV.no.has b:=by simp[RV.has,RV.block,RV.sub]
theorem aN{us:Nat->Value}:(RV.deep v us).has b↔au v=some b\/∃j,au (us j)=some b:=by simp[RV.has,RV.block,RV.sub]
theorem nZ{g n:Nat}{x:Option Nat} (h:1<=cap):(RV.row (.slice (some ⟨g,o,x⟩) n cap)).block=some g:=aO (n:=n) h
def dG(h:FH) (β:List RV):SC->Value->Prop
 | .v x,y=>y=x/\bZ x
 | .sl s l,y=>nY h (Rd h s) y l
 | .fp s d,y=>∃b o cs,y=.pointer (some ⟨b,o,none⟩)/\Rd h s cs d/\At h b o cs
 | .one s d,y=>Rd h s [y] d
 | .own i off,y=>∃b,β[i]?=some (.blk b)/\y=.pointer (some ⟨b,off,none⟩)
 | .row i,y=>∃v,β[i]?=some v/\v.sl=some y
 | .jh i j sz off,y=>∃v g,β[i]?=some v/\v.block=some g/\y=.pointer (some ⟨g,j * sz+off,none⟩)
 | .sub i j,y=>∃v us,β[i]?=some (.deep v us)/\us j=y
 | .jX i j k sz off,y=>∃v us g,β[i]?=some (.deep v us)/\au (us j)=some g/\y=.pointer (some ⟨g,k * sz+off,none⟩)
 | .abs x,y=>x.rel h y
 | .junk,_=>True
def bV(h:FH) (β:List RV):SV->Value->Prop
 | .c x,y=>dG h β x y/\bZ y
 | .agg xs,y=>∃ys,y=.agg ys.toArray/\aI (λx y=>dG h β x y/\bZ y) xs ys
 | .dat s d,y=>s.isAgg=true/\∃cs,y=.agg cs.toArray/\Rd h s cs d
 | .und,y=>y=undef
def iO(h:FH) (β:List RV):aW->Value->Prop
 | .one x,y=>bV h β x y
 | .iQ xs,y=>∃ys,y=.tuple ys.toArray/\aI (bV h β) xs ys
def kE(h:FH) (w:World) (t:TypeId) (s:Sh) (l:List s.den) (v:Value):Prop:=
 (v=.slice none 0 0/\l=[])\/(∃a,v=.slice (some a) 0 0/\l=[]) \/
  ∃g cap cur,v=.slice (some ⟨g,0,none⟩) l.length cap/\w.heap[g]?=some (.cells cur t (0,0))/\l.length<=cap/\(1<=cap/\cap<=maxLen) /\
    cur.size=cap * s.size/\eX (Rd h s) (cur.toList.take (l.length * s.size)) l
def kF:(s:Sh)->Nat->(e:Sh)->s.den->List e.den->s.den->Prop
 | .sl s,o,e,_,x,d=>o=0/\∃q:e=s,q▸x=d
 | .pair a b,o,e,(p,q),x,(p',q')=>(a.size<=o/\p=p'/\kF b (o - a.size) e q x q')\/(o < a.size/\q=q'/\kF a o e p x p')
 | _,_,_,_,_,_=>False
def kY:Value:=.slice none 0 0
def xK(h:FH) (w:World) (s:Sh) (tt:TypeId) (e:Sh) (off:Nat) (own hole:Bool) (u:Value) (cs:List Value) (d:s.den):Prop:=match hole with
 | false=>match own with
   | false=>Rd h s cs d/\au u=none
   | true=>∃d0 x,Rd h s (cs.set off kY) d0/\kF s off e d0 x d/\cs[off]?=some u/\kE h w tt e x u
 | true=>au u=none/\∃d0 x,Rd h s (cs.set off kY) d0/\kF s off e d0 x d/\∃y,cs[off]?=some y/\bZ y
abbrev lC(j:Nat):List Nat->Bool
 | []=>false
 | k :: l=>decide (j=k) || lC j l
def dN(h:FH) (w:World) (t:TypeId) (s:Sh) (l:List s.den) (tt:TypeId) (e:Sh) (off:Nat) (own:Nat->Bool) (hs:List Nat) (v:Value) (us:Nat->Value):Prop:=
 (∀j k b,au (us j)=some b->au (us k)=some b->j=k)/\(∀j b,au (us j)=some b->j < l.length/\∃o,w.heap[b]?=some o/\ours o=true) /\
 ((v=.slice none 0 0/\l=[])\/(∃a,v=.slice (some a) 0 0/\l=[]) \/
   ∃g cap cur,v=.slice (some ⟨g,0,none⟩) l.length cap/\w.heap[g]?=some (.cells cur t (0,0))/\l.length<=cap/\(1<=cap/\cap<=maxLen) /\
     cur.size=cap * s.size/\(∀j,au (us j)≠some g)/\∀j d,l[j]?=some d->xK h w s tt e off (own j) (lC j hs) (us j) ((cur.toList.drop (j * s.size)).take s.size) d)
def LV{α:Type} (k:IntKind) (R:Value->α->Prop) (es:Array MapEntry) (seen:Array Nat) (dn:List (Int×α)):Prop:=
 seen.toList.Nodup/\aI (λx st=>∃e∈es.toList,e.born=st/\e.key=.int k x.1/\R e.val x.2) dn seen.toList
def DW(h:FH) (s:Sh) (v:Value) (d:s.den):Prop:=∃cs,v=mkV s cs/\Rd h s cs d
theorem DW.mono{h h':FH} (le:h.le h'){s:Sh}{v:Value}{d:s.den}:DW h s v d->DW h' s v d
 | ⟨cs,e,r⟩=>⟨cs,e,r.mono le s⟩
def WI{α:Type} (h:FH) (k:IntKind) (R:Value->α->Prop) (m:Option Nat) (c:Nat) (seen:Array Nat) (l dn:List (Int×α)):Prop:=
 (m=none/\l=[]/\dn=[])\/∃b es,m=some b/\h b 0=some (CP es c)/\uO k R es c l/\LV k R es seen dn/\∀x∈dn,x∈l
theorem LV.mono{α:Type}{k:IntKind}{R R':Value->α->Prop} (hR:∀v d,R v d->R' v d){es:Array MapEntry}{seen:Array Nat}{dn:List (Int×α)} (x:LV k R es seen dn):LV k R' es seen dn:=
 ⟨x.1,x.2.mono λ_ _ ⟨e,h1,h2,h3,h4⟩=>⟨e,h1,h2,h3,hR _ _ h4⟩⟩
theorem WI.mono{α:Type}{h h':FH} (le:h.le h'){k:IntKind}{R R':Value->α->Prop} (hR:∀v d,R v d->R' v d){m:Option Nat}{c:Nat}{seen:Array Nat}{l dn:List (Int×α)}:WI h k R m c seen l dn->WI h' k R' m c seen l dn
 | .inl e=>.inl e
 | .inr ⟨b,es,e,q,r,t,z⟩=>.inr ⟨b,es,e,le _ _ _ q,r.mono hR,t.mono hR,z⟩
def TlH(w:World) (t:TypeId) (k:IntKind) (l:List Int) (base:Nat) (v:Value):Prop:=
 (v=.slice none 0 0/\l=[])\/(∃a,v=.slice (some a) 0 0/\l=[]) \/
  ∃g cap cur,v=.slice (some ⟨g,base,none⟩) l.length cap/\w.heap[g]?=some (.cells cur t (0,0))/\l.length<=cap/\(1<=cap/\cap<=maxLen) /\
    cur.size=base+cap/\∀(j:Nat) (n:Int),l[j]?=some n->cur[base+j]?=some (.int k n)
def zL(h:FH) (w:World) (t:TypeId) (s:Sh) (l:List s.den) (off:Nat) (v:Value) (us:Nat->Value):Prop:=
 kE h w t s l v/\off<=l.length/\∃(ad:Option Addr) (cap:Nat),v=.slice ad l.length cap/\l.length<=cap/\us=λ_=>.slice (if cap=off then ad else ad.map (·.add (off * s.size))) (l.length - off) (cap - off)
theorem zL.blk{s:Sh}{l:List s.den}{us:Nat->Value} (x:zL h w t s l off v us) (hb:au (us j)=some b):au v=some b:=by
 obtain⟨r,ho,ad,cap,e,hc,eu⟩:=x;subst eu
 by_cases hcap:cap=off
 .have hz:∀(x:Option Addr) (n:Nat),au (.slice x n 0)=none:=by intro x n;cases x<;>simp[au]
  rw[hcap,Nat.sub_self,hz]at hb;cases hb
 .rw[if_neg hcap]at hb;cases ad with
  | none=>simp[au]at hb
  | some a=>
    have e0:(a.add (off * s.size)).block=a.block:=by unfold Addr.add;split<;>rfl
    simp only[QO,au]at hb;rw[e];simp only[au];split at hb
    .cases hb
    .rw[if_neg (by omega)];rw[<-hb,e0]
def Holds(h:FH) (β:List RV) (w:World):aC->RV->Prop
 | .blk t cs,.blk b=>∃ys:List Value,w.heap[b]?=some (.cells ys.toArray t (0,0))/\aI (λx y=>dG h β x y/\bZ y) cs ys
 | .row t s l,.row v=>kE h w t s l v
 | .obj t s d,.blk b=>∃ys:List Value,w.heap[b]?=some (.cells ys.toArray t (0,0))/\Rd h s ys d
 | .deep t s l tt e off own hs,.deep v us=>dN h w t s l tt e off own hs v us
 | .mp k s l,.row v=>∃b es c,v=.map (some b)/\w.heap[b]?=some (.map es c)/\uO k (DW h s) es c l
 | .Jd k s l n,.deep v us=>∃b es c e,v=.map (some b)/\w.heap[b]?=some (.map es c)/\uO k (DW h s) es c l/\e∈es.toList/\e.key=.int k n/\us=λ_=>.int .i64 e.born
 | .it k s l dn,.blk r=>∃m c seen,w.heap[r]?=some (.mapIter m c seen c)/\WI h k (DW h s) m c seen l dn
 | .GL t k l base,.row v=>TlH w t k l base v
 | .Dk t s l off,.deep v us=>zL h w t s l off v us
 | .gone,_=>True
 | _,_=>False
abbrev aC.live:aC->Bool
 | .gone=>false
 | _=>true
structure Base extends World where
 nc:Nat->Obj->Prop
 cell:∀k o,nc k o->ours o=false
 al:Nat->Prop
 up:∀k,heap.size<=k->al k
variable {B:Base}
instance:CoeOut Base World:=⟨Base.toWorld⟩
abbrev Base.of(B:World):Base:={ B with nc:=λ_ _=>False,cell:=λ_ _ h=>h.elim,al:=λk=>B.heap.size<=k,up:=λ_ h=>h }
structure Bw (B:Base) (w:World):Prop where
 os:w.os=B.os
 tape:w.tape=B.tape
 output:w.output=B.output
 size:B.heap.size<=w.heap.size
 block:∀k,k < B.heap.size->¬B.al k->w.heap[k]?=B.heap[k]?
theorem Bw.refl(B:Base):Bw B B.toWorld:=⟨rfl,rfl,rfl,mZ _,λ_ _ _=>rfl⟩
theorem Bw.bel{B:World} (x:Bw (Base.of B) w):Below B.heap.size B w:=⟨x.os,x.tape,x.output,x.size,λk hk=>x.block k hk (by show¬B.heap.size<=k;omega)⟩
theorem Bw.below(x:Bw B w) (y:Below w.heap.size w w'):Bw B w':=
 ⟨y.os.trans x.os,y.tape.trans x.tape,y.output.trans x.output,o9 x.size y.size,λk hk ha=>(y.block k (Gz hk x.size)).trans (x.block k hk ha)⟩
theorem Bw.grown{row:Option Nat} (x:Bw B w) (hg:World.grownBy w w' row) (hr:∀k,row=some k->B.al k):Bw B w':=
 ⟨hg.os.trans x.os,hg.tape.trans x.tape,hg.output.trans x.output,o9 x.size hg.size,λk hk ha=>(hg.block k (Gz hk x.size) (λe=>ha (hr k e.symm))).trans (x.block k hk ha)⟩
structure OK (B:Base) (h0:FH) (T:List aC) (h:FH) (β:List RV) (w:World):Prop where
 below:Bw B w
 dr:B.drawn<=w.drawn
 len:β.length=T.length
 holds:∀(i:Nat) r v,T[i]?=some r->β[i]?=some v->Holds h β w r v
 own:∀(i:Nat) r v b,T[i]?=some r->r.live=true->β[i]?=some v->v.has b->B.al b/\b < w.heap.size/\∀o,h b o=none
 inj:∀(i j:Nat) r r' u v b,T[i]?=some r->r.live=true->T[j]?=some r'->r'.live=true->β[i]?=some u->β[j]?=some v->u.has b->v.has b->i=j
 hle:h0.le h
 hw:∀b o v,h b o=some v->vis w b o=some v
 hg:∀b o v,h b o=some v->h0 b o=some v\/B.al b
 kn:∀k o,B.nc k o->w.heap[k]?=some o
theorem aI.length{α β:Type}{R:α->β->Prop}:∀{l:List α}{m:List β},aI R l m->l.length=m.length
 | [],[],_=>rfl
 | _ :: _,_ :: _,⟨_,b⟩=>by simp[aI.length b]
theorem aI.get{α β:Type}{R:α->β->Prop}:∀{l:List α}{m:List β}{i:Nat}{a:α},aI R l m->l[i]?=some a->∃b,m[i]?=some b/\R a b
 | [],[],_,_,_,e=>by simp at e
 | _ :: _,y :: _,0,_,⟨a,_⟩,e=>by simp at e;subst e;exact⟨y,rfl,a⟩
 | _ :: _,_ :: _,i+1,_,⟨_,b⟩,e=>by simpa using aI.get b (by simpa using e)
def Ext(β β':List RV):Prop:=∀(i:Nat) v,β[i]?=some v->β'[i]?=some v
theorem Ext.refl(β:List RV):Ext β β:=λ_ _ e=>e
theorem Ext.append(β γ:List RV):Ext β (β++γ):=λi v e=>by
 rw[QM (by exact(eU.1 e).1)];exact e
theorem dG.mono{h h':FH}{β β':List RV} (le:h.le h') (eb:Ext β β'):∀{x:SC}{y:Value},dG h β x y->dG h' β' x y
 | .v _,_,e=>e
 | .sl s _,_,e=>nY.mono le (λ_ _=>Rd.mono le s) e
 | .fp s _,_,⟨b,o,cs,e,r,a⟩=>⟨b,o,cs,e,r.mono le s,a.mono le⟩
 | .one s _,_,r=>Rd.mono le s r
 | .own _ _,_,⟨b,e,e'⟩=>⟨b,eb _ _ e,e'⟩
 | .row _,_,⟨v,e,e'⟩=>⟨v,eb _ _ e,e'⟩
 | .jh _ _ _ _,_,⟨v,g,e,e'⟩=>⟨v,g,eb _ _ e,e'⟩
 | .sub _ _,_,⟨v,us,e,e'⟩=>⟨v,us,eb _ _ e,e'⟩
 | .jX _ _ _ _ _,_,⟨v,us,g,e,e'⟩=>⟨v,us,g,eb _ _ e,e'⟩
 | .abs _,_,e=>Dj.vP le e
 | .junk,_,_=>trivial
theorem bV.mono{h h':FH}{β β':List RV} (le:h.le h') (eb:Ext β β'):∀{x:SV}{y:Value},bV h β x y->bV h' β' x y
 | .c _,_,⟨e,o⟩=>⟨e.mono le eb,o⟩
 | .agg _,_,⟨ys,e,a⟩=>⟨ys,e,a.mono λ_ _ ⟨p,q⟩=>⟨p.mono le eb,q⟩⟩
 | .dat s _,_,⟨g,cs,e,r⟩=>⟨g,cs,e,r.mono le s⟩
 | .und,_,e=>e
theorem iO.mono{h h':FH}{β β':List RV} (le:h.le h') (eb:Ext β β'):∀{x:aW}{y:Value},iO h β x y->iO h' β' x y
 | .one _,_,e=>bV.mono le eb e
 | .iQ _,_,⟨ys,e,a⟩=>⟨ys,e,a.mono λ_ _=>bV.mono le eb⟩
theorem Holds.cells:∀{r:aC}{v:RV},Holds h β w r v->r.live=true->v.has b->∃o,w.heap[b]?=some o/\ours o=true
 | .blk _ _,.blk c,⟨ys,e,_⟩,_,hb=>by rw[ji]at hb;subst hb;exact⟨_,e,rfl⟩
 | .obj _ _ _,.blk c,⟨ys,e,_⟩,_,hb=>by rw[ji]at hb;subst hb;exact⟨_,e,rfl⟩
 | .row _ _ _,.row v,.inl ⟨e,_⟩,_,hb=>by rw[aT]at hb;subst e;simp[au]at hb
 | .row _ _ _,.row v,.inr (.inl ⟨a,e,_⟩),_,hb=>by rw[aT]at hb;subst e;simp[au]at hb
 | .row _ _ _,.row v,.inr (.inr ⟨g,cap,cur,e,e1,_,e3,_⟩),_,hb=>by
   rw[aT]at hb;subst e;rw[aO e3.1]at hb;cases hb;exact⟨_,e1,rfl⟩
 | .deep _ _ _ _ _ _ _ _,.deep v us,⟨_,c,e⟩,_,hb=>by
   rw[aN]at hb;rcases hb with hb | ⟨j,hb⟩
   .rcases e with⟨e,_⟩ | ⟨a,e,_⟩ | ⟨g,cap,cur,e,e1,_,e3,_⟩
    .subst e;simp[au]at hb
    .subst e;simp[au]at hb
    .subst e;rw[aO e3.1]at hb;cases hb;exact⟨_,e1,rfl⟩
   .exact(c j b hb).2
 | .mp _ _ _,.row v,⟨b',es,c,e,e1,_⟩,_,hb=>by
   rw[aT]at hb;subst e;simp only[au]at hb;cases hb;exact⟨_,e1,rfl⟩
 | .Jd _ _ _ _,.deep v us,⟨b',es,c,x,e,e1,_,_,_,eu⟩,_,hb=>by
   rw[aN]at hb;subst e;subst eu;rcases hb with hb | ⟨j,hb⟩
   .simp only[au]at hb;cases hb;exact⟨_,e1,rfl⟩
   .simp[au]at hb
 | .it _ _ _ _,.blk c,⟨m,cl,seen,e,_⟩,_,hb=>by rw[ji]at hb;subst hb;exact⟨_,e,rfl⟩
 | .GL _ _ _ _,.row v,.inl ⟨e,_⟩,_,hb=>by rw[aT]at hb;subst e;simp[au]at hb
 | .GL _ _ _ _,.row v,.inr (.inl ⟨a,e,_⟩),_,hb=>by rw[aT]at hb;subst e;simp[au]at hb
 | .GL _ _ _ _,.row v,.inr (.inr ⟨g,cap,cur,e,e1,_,e3,_⟩),_,hb=>by
   rw[aT]at hb;subst e;rw[aO e3.1]at hb;cases hb;exact⟨_,e1,rfl⟩
 | .Dk _ _ _ _,.deep v us,x,_,hb=>by
   have hb:au v=some b:=by
    rw[aN]at hb;rcases hb with hb | ⟨j,hb⟩
    .exact hb
    .exact x.blk hb
   rcases x.1 with⟨e,_⟩ | ⟨a,e,_⟩ | ⟨g,cap,cur,e,e1,_,e3,_⟩
   .subst e;simp[au]at hb
   .subst e;simp[au]at hb
   .subst e;rw[aO e3.1]at hb;cases hb;exact⟨_,e1,rfl⟩
 | .gone,_,_,hl,_=>by cases hl
theorem OK.kept(ok:OK B h0 T h β w){row:Option Nat} (hg:Gb w w' row)
 (hr:∀b,row=some b->∃o,w.heap[b]?=some o/\ours o=true):∀k o,B.nc k o->w'.heap[k]?=some o:=by
 intro k o hk;have h1:=ok.kn k o hk;refine(hg.block k (zh.1 h1).1 λe=>?_).trans h1
 obtain⟨o',e1,e2⟩:=hr k e.symm;rw[h1]at e1;cases e1;rw[B.cell k o hk]at e2;cases e2
def yV{α:Type}:List (Int×α)->Int->Option α
 | [],_=>none
 | (k,v) :: l,n=>if k=n then some v else yV l n
section
variable {α:Type}
theorem WJ{x:Int×α}{l:List (Int×α)}:Et (x :: l)↔(∀y∈l,x.1 < y.1)/\Et l:=ZW
theorem Rn{l:List (Int×α)} (h:Et l){d:α}:yV l n=some d↔(n,d)∈l:=by
 induction l with
 | nil=>simp[yV]
 | cons x l ih=>
   obtain⟨k,v⟩:=x;obtain⟨h1,h2⟩:=WJ.1 h;simp only[yV,jM,Q8];split
   .rename_i hk;subst hk;constructor
    .intro e;cases e;exact .inl ⟨rfl,rfl⟩
    .rintro(⟨_,e⟩ | hm)
     .rw[e]
     .have:=h1 _ hm;simp at this
   .rename_i hk;rw[ih h2];constructor
    .exact .inr
    .rintro(⟨e,_⟩ | hm)
     .exact absurd e.symm hk
     .exact hm
theorem O7{l:List (Int×α)}:yV l n=none↔∀x∈l,x.1≠n:=by
 induction l with
 | nil=>simp[yV]
 | cons x l ih=>
   obtain⟨k,v⟩:=x;simp only[yV,jM,forall_eq_or_imp];split
   .rename_i hk;simp[hk]
   .rename_i hk;rw[ih];simp[hk]
open Instr in
theorem LW{k:IntKind}{R:Value->α->Prop}{kk:IntKind}{n:Int}:∀{ks:List (Int×α)}{es:List MapEntry} (i:Nat),aI (λx (e:MapEntry)=>e.key=.int k x.1/\R e.val x.2) ks es ->
 (∃j e d,es[j]?=some e/\ks[j]?=some (n,d)/\R e.val d/\e.key=.int k n/\findNow (.int kk) (.int k n) es i=some (some (i+j,e.val)))\/((∀x∈ks,x.1≠n)/\findNow (.int kk) (.int k n) es i=some none)
 | [],[],i,_=>.inr ⟨λx hx=>(by cases hx),rfl⟩
 | (m,d) :: ks,e :: es,i,⟨⟨h1,h2⟩,h3⟩=>by
   have h1:e.key=.int k m:=h1
   by_cases hm:m=n
   .subst hm;refine .inl ⟨0,e,d,rfl,rfl,h2,h1,?_⟩;simp[findNow,sameNow,h1]
   .have hb:sameNow (.int kk) (.int k n) e.key=some false:=by
     rw[h1];simp[sameNow];omega
    rcases LW (kk:=kk) (n:=n) (i+1) h3 with⟨j,e',d',a1,a2,a3,a4,a5⟩ | ⟨a1,a2⟩
    .refine .inl ⟨j+1,e',d',by simpa using a1,by simpa using a2,a3,a4,?_⟩
     simp only[findNow,hb];rw[a5,show i+1+j=i+(j+1) by omega]
    .refine .inr ⟨λx hx=>?_,?_⟩
     .rcases jM.1 hx with rfl | hx
      .exact hm
      .exact a1 x hx
     .simp only[findNow,hb];exact a2
variable {k:IntKind}{R:Value->α->Prop}{es:Array MapEntry}{c:Nat}{l:List (Int×α)}
theorem uO.find(m:uO k R es c l) (kk:IntKind) (n:Int):
 (∃j e d,es[j]?=some e/\yV l n=some d/\R e.val d/\e.key=.int k n/\Instr.findNow (.int kk) (.int k n) es.toList 0=some (some (j,e.val)))\/(yV l n=none/\Instr.findNow (.int kk) (.int k n) es.toList 0=some none):=by
 obtain⟨up,⟨ks,p,al⟩,_,_⟩:=m;rcases LW (kk:=kk) (n:=n) 0 al with⟨j,e,d,a1,a2,a3,a4,a5⟩ | ⟨a1,a2⟩
 .exact .inl ⟨j,e,d,by simpa using a1,(Rn up).2 (p.mem_iff.1 (kT a2)),a3,a4,by simpa using a5⟩
 .exact .inr ⟨O7.2 λx hx=>a1 x (p.mem_iff.2 hx),a2⟩
theorem aI.snoc{α β:Type}{R:α->β->Prop}{a:α}{b:β}:∀{l:List α}{m:List β},aI R l m->R a b->aI R (l++[a]) (m++[b])
 | [],[],_,r=>⟨r,trivial⟩
 | _ :: _,_ :: _,⟨h1,h2⟩,r=>⟨h1,aI.snoc h2 r⟩
theorem uO.empty:uO k R #[] 0 ([]:List (Int×α)):=⟨List.Pairwise.nil,⟨[],.refl _,trivial⟩,List.nodup_nil,λe he=>by simp at he⟩
theorem uO.len(m:uO k R es c l):es.size=l.length:=by
 obtain⟨up,⟨ks,p,al⟩,st,lt⟩:=m;have:∀{α β:Type}{R:α->β->Prop}{l:List α}{m:List β},aI R l m->l.length=m.length:=by
  intro α β R l
  induction l with
  | nil=>intro m h;cases m with
    | nil=>rfl
    | cons _ _=>exact h.elim
  | cons x l ih=>intro m h;cases m with
    | nil=>exact h.elim
    | cons _ _=>simp[ih h.2]
 have:=this al;rw[p.length_eq]at this;simpa using this.symm
end
theorem kE.move(le:h.le h'){s:Sh}{l:List s.den}:kE h w t s l v->(∀b,au v=some b->w'.heap[b]?=w.heap[b]?)->kE h' w' t s l v
 | .inl e,_=>.inl e
 | .inr (.inl e),_=>.inr (.inl e)
 | .inr (.inr ⟨g,cap,cur,e,e1,e2,e3,e4,r⟩),k=>.inr (.inr ⟨g,cap,cur,e,by rw[k g (by rw[e];exact aO e3.1)];exact e1,e2,e3,e4,r.mono λ_ _=>Rd.mono le s⟩)
theorem xK.move{h h':FH}{w w':World} (le:h.le h'){s:Sh}{tt:TypeId}{e:Sh}{off:Nat}{own hole:Bool}{u:Value}{cs:List Value}{d:s.den}
 (x:xK h w s tt e off own hole u cs d) (k:∀b,au u=some b->w'.heap[b]?=w.heap[b]?):xK h' w' s tt e off own hole u cs d:=by
 unfold xK at *;cases hole with
 | false=>
   cases own with
   | false=>exact⟨x.1.mono le s,x.2⟩
   | true=>
     obtain⟨d0,y,r,p,c,q⟩:=x;exact⟨d0,y,r.mono le s,p,c,q.move le k⟩
 | true=>
   obtain⟨x0,d0,y,rd,p,z⟩:=x;exact⟨x0,d0,y,rd.mono le s,p,z⟩
theorem dN.move{h h':FH}{w w':World} (le:h.le h'){t:TypeId}{s:Sh}{l:List s.den}{tt:TypeId}{e:Sh}{off:Nat}{own:Nat->Bool}{hs:List Nat}{v:Value}{us:Nat->Value}
 (x:dN h w t s l tt e off own hs v us) (k:∀b,(RV.deep v us).has b->w'.heap[b]?=w.heap[b]?):dN h' w' t s l tt e off own hs v us:=by
 obtain⟨x1,x2,x3⟩:=x;refine⟨x1,λj b hb=>⟨(x2 j b hb).1,by rw[k b (aN.2 (.inr ⟨j,hb⟩))];exact(x2 j b hb).2⟩,?_⟩
 rcases x3 with x3 | x3 | ⟨g,cap,cur,e0,e1,e2,e3,e4,e5,e6⟩
 .exact .inl x3
 .exact .inr (.inl x3)
 .refine .inr (.inr ⟨g,cap,cur,e0,?_,e2,e3,e4,e5,λj d hd=>(e6 j d hd).move le λb hb=>k b (aN.2 (.inr ⟨j,hb⟩))⟩)
  rw[k g (aN.2 (.inl (by rw[e0];exact aO e3.1)))];exact e1
theorem TlH.move{l:List Int}{n:Nat} (x:TlH w t k l n v) (f:∀b,au v=some b->w'.heap[b]?=w.heap[b]?):TlH w' t k l n v:=by
 rcases x with x | x | ⟨g,cap,cur,e0,e1,e2,e3,e4⟩
 .exact .inl x
 .exact .inr (.inl x)
 .exact .inr (.inr ⟨g,cap,cur,e0,by rw[f g (by rw[e0];exact aO e3.1)];exact e1,e2,e3,e4⟩)
theorem zL.move{h h':FH}{w w':World} (le:h.le h'){t:TypeId}{s:Sh}{l:List s.den}{off:Nat}{v:Value}{us:Nat->Value} (x:zL h w t s l off v us) (k:∀b,(RV.deep v us).has b->w'.heap[b]?=w.heap[b]?):zL h' w' t s l off v us:=
 ⟨x.1.move le λb hb=>k b (aN.2 (.inl hb)),x.2⟩
theorem Holds.move{h h':FH}{β β':List RV}{w w':World} (le:h.le h') (eb:Ext β β'):
 ∀{r:aC}{v:RV},Holds h β w r v->(r.live=true->∀b,v.has b->w'.heap[b]?=w.heap[b]?)->Holds h' β' w' r v
 | .blk _ _,.blk b,⟨ys,e,a⟩,k=>⟨ys,by rw[k rfl b (ji.2 rfl)];exact e,a.mono λ_ _ ⟨p,q⟩=>⟨p.mono le eb,q⟩⟩
 | .row _ _ _,.row v,x,k=>kE.move le x λb hb=>k rfl b (aT.2 hb)
 | .obj _ s _,.blk b,⟨ys,e,r⟩,k=>⟨ys,by rw[k rfl b (ji.2 rfl)];exact e,r.mono le s⟩
 | .deep _ _ _ _ _ _ _ _,.deep _ _,x,k=>dN.move le x (k rfl)
 | .mp _ s _,.row v,⟨b,es,c,e,e1,m⟩,k=>⟨b,es,c,e,by rw[k rfl b (aT.2 (by rw[e];rfl))];exact e1,m.mono λ_ _=>DW.mono le⟩
 | .Jd _ s _ _,.deep v us,⟨b,es,c,x,e,e1,m,h1,h2,h3⟩,k=>⟨b,es,c,x,e,by rw[k rfl b (aN.2 (.inl (by rw[e];rfl)))];exact e1,m.mono λ_ _=>DW.mono le,h1,h2,h3⟩
 | .it _ s _ _,.blk r,⟨m,c,seen,e,x⟩,k=>⟨m,c,seen,by rw[k rfl r (ji.2 rfl)];exact e,x.mono le λ_ _=>DW.mono le⟩
 | .GL _ _ _ _,.row v,x,k=>TlH.move x λb hb=>k rfl b (aT.2 hb)
 | .Dk _ _ _ _,.deep _ _,x,k=>zL.move le x (k rfl)
 | .gone,_,_,_=>trivial
theorem aj{l:List α}{x y:α}{i:Nat} (e:(l++[x])[i]?=some y):(i < l.length/\l[i]?=some y)\/(i=l.length/\x=y):=by
 by_cases hi:i < l.length
 .rw[QM hi]at e;exact .inl ⟨hi,e⟩
 .rw[Jh (by omega)]at e
  by_cases h0:i - l.length=0
  .rw[h0]at e;simp at e;exact .inr ⟨by omega,e⟩
  .rw[LJ (by simp;omega)]at e;cases e
theorem frozen_kept{row:Option Nat} (hw:∀b o v,h b o=some v->vis w b o=some v) (hg:Gb w w' row)
 (hr:∀k,row=some k->∀o,h k o=none):∀b o v,h b o=some v->vis w' b o=some v:=by
 intro b o v e;refine(jf (hg.block b (kX (hw b o v e)) λhb=>?_)).trans (hw b o v e)
 have:=hr b hb.symm o;rw[this]at e;cases e
theorem OK.add(ok:OK B h0 T h β w){v:RV}
 (hg:Gb w w' none) (hv:∀b,v.has b->w.heap.size<=b/\b < w'.heap.size) (hold:Holds h (β++[v]) w' r v):
 OK B h0 (T++[r]) h (β++[v]) w' where
 below:=ok.below.grown hg.togrownBy (by intro k e;cases e)
 dr:=o9 ok.dr hg.dr
 len:=by simp[ok.len]
 holds:=by
  intro i r' v' e e';rcases aj e with⟨hi,e⟩ | ⟨hi,rfl⟩
  .rcases aj e' with⟨_,e'⟩ | ⟨hj,_⟩
   .refine(ok.holds i r' v' e e').move (FH.le.refl h) (Ext.append _ _) λhl b hb=>?_
    have:=ok.own i r' v' b e hl e' hb;exact hg.block b this.2.1 (by simp)
   .have:=ok.len;omega
  .rcases aj e' with⟨hj,_⟩ | ⟨_,rfl⟩
   .have:=ok.len;omega
   .exact hold
 own:=by
  intro i r' v' b e hl e' hb;rcases aj e' with⟨hj,e'⟩ | ⟨hj,rfl⟩
  .rcases aj e with⟨_,e⟩ | ⟨hi,rfl⟩
   .obtain⟨h1,h2,h3⟩:=ok.own i r' v' b e hl e' hb;exact⟨h1,Gz h2 hg.size,h3⟩
   .have:=ok.len;omega
  .obtain⟨h1,h2⟩:=hv b hb;refine⟨B.up _ (o9 ok.below.size h1),h2,λo=>?_⟩
   cases hh:h b o with
   | none=>rfl
   | some u=>have:=kX (ok.hw b o u hh);omega
 inj:=by
  intro i j r1 r2 u v' b ei hl1 ej hl2 eu ev hu hv';have lt:∀(k:Nat) r'' u' b',T[k]?=some r''->r''.live=true->β[k]?=some u'->u'.has b'->b' < w.heap.size:=λk r'' u' b' e1 e2 e3 e4=>(ok.own k r'' u' b' e1 e2 e3 e4).2.1
  have L:=ok.len;rcases aj ei with⟨hi,ei⟩ | ⟨hi,_⟩<;>rcases aj ej with⟨hj,ej⟩ | ⟨hj,_⟩<;>
   rcases aj eu with⟨hi',eu⟩ | ⟨hi',rfl⟩<;>rcases aj ev with⟨hj',ev⟩ | ⟨hj',rfl⟩<;>first
    | omega
    | exact ok.inj i j r1 r2 u v' b ei hl1 ej hl2 eu ev hu hv'
    | (exfalso;have a1:=lt i r1 u b ei hl1 eu hu;have a2:=hv b hv';omega)
    | (exfalso;have a1:=lt j r2 v' b ej hl2 ev hv';have a2:=hv b hu;omega)
 hle:=ok.hle
 hw:=frozen_kept ok.hw hg (by intro k e;cases e)
 hg:=ok.hg
 kn:=ok.kept hg (by intro b e;cases e)
abbrev SC.free(i:Nat):SC->Bool
 | .own j _=>!Nat.beq i j
 | .row j=>!Nat.beq i j
 | .jh j _ _ _=>!Nat.beq i j
 | .sub j _=>!Nat.beq i j
 | .jX j _ _ _ _=>!Nat.beq i j
 | _=>true
theorem dG.set{h:FH}{β:List RV}{i:Nat}{v:RV}:∀{x:SC}{y:Value},x.free i=true->dG h β x y->dG h (β.set i v) x y
 | .v _,_,_,e=>e
 | .sl s _,_,_,e=>e
 | .fp s _,_,_,e=>e
 | .one s _,_,_,e=>e
 | .own j _,_,f,⟨b,e,e'⟩=>⟨b,by rw[kU (by rintro rfl;simp at f)];exact e,e'⟩
 | .row j,_,f,⟨u,e,e'⟩=>⟨u,by rw[kU (by rintro rfl;simp at f)];exact e,e'⟩
 | .jh j _ _ _,_,f,⟨v,g,e,e'⟩=>⟨v,g,by rw[kU (by rintro rfl;simp at f)];exact e,e'⟩
 | .sub j _,_,f,⟨v,us,e,e'⟩=>⟨v,us,by rw[kU (by rintro rfl;simp at f)];exact e,e'⟩
 | .jX j _ _ _ _,_,f,⟨v,us,g,e,e'⟩=>⟨v,us,g,by rw[kU (by rintro rfl;simp at f)];exact e,e'⟩
 | .abs _,_,_,e=>e
 | .junk,_,_,_=>trivial
abbrev sN(i:Nat):List SC->Bool
 | []=>true
 | x :: l=>x.free i && sN i l
theorem aI.set{h:FH}{β:List RV}{i:Nat}{v:RV}:∀{xs:List SC}{ys:List Value},sN i xs=true->aI (λx y=>dG h β x y/\bZ y) xs ys->aI (λx y=>dG h (β.set i v) x y/\bZ y) xs ys
 | [],[],_,_=>trivial
 | _ :: _,_ :: _,f,⟨a,b⟩=>by
   simp only[sN,A8]at f;exact⟨⟨a.1.set f.1,a.2⟩,aI.set f.2 b⟩
abbrev aC.free(i:Nat):aC->Bool
 | .blk _ cs=>sN i cs
 | _=>true
theorem Holds.set{h:FH}{β:List RV}{w:World}{i:Nat}{v':RV}:∀{r:aC}{v:RV},r.free i=true->Holds h β w r v->Holds h (β.set i v') w r v
 | .blk _ _,.blk _,f,⟨ys,e,a⟩=>⟨ys,e,a.set f⟩
 | .row _ _ _,.row _,_,e=>e
 | .obj _ _ _,.blk _,_,e=>e
 | .deep _ _ _ _ _ _ _ _,.deep _ _,_,e=>e
 | .mp _ _ _,.row _,_,e=>e
 | .Jd _ _ _ _,.deep _ _,_,e=>e
 | .it _ _ _ _,.blk _,_,e=>e
 | .GL _ _ _ _,.row _,_,e=>e
 | .Dk _ _ _ _,.deep _ _,_,e=>e
 | .gone,_,_,_=>trivial
theorem iF{α:Type}:∀{l:List α}{i:Nat}{u:α},l[i]?=some u->l.set i u=l
 | _ :: _,0,_,e=>by simp at e;simp[e]
 | _ :: _,i+1,_,e=>by simp at e;simp[iF e]
theorem OK.upd(ok:OK B h0 T h β w){i:Nat}{r':aC}{u v:RV}
 (hT:T[i]?=some r) (hl:r.live=true) (hu:β[i]?=some u){row:Option Nat} (hg:Gb w w' row) (jr:∀k,row=some k->u.has k)
 (hv:∀b,v.has b->u.has b\/(w.heap.size<=b/\b < w'.heap.size))
 (free:v=u\/∀j rj,j≠i->T[j]?=some rj->rj.free i=true) (hold:Holds h (β.set i v) w' r' v):
 OK B h0 (T.set i r') h (β.set i v) w':=by
 have hi:i < T.length:=(eU.1 hT).1;have hi':i < β.length:=by rw[ok.len];exact hi
 have zM:∀b,u.has b->B.al b/\b < w.heap.size/\∀o,h b o=none:=λb hb=>ok.own i r u b hT hl hu hb
 have nf:∀b,w.heap.size<=b->∀o,h b o=none:=by
  intro b hb o;cases hh:h b o with
  | none=>rfl
  | some x=>have:=kX (ok.hw b o x hh);omega
 have Ro:∀b,v.has b->B.al b/\b < w'.heap.size/\∀o,h b o=none:=by
  intro b hb;rcases hv b hb with hb' | ⟨h1,h2⟩
  .obtain⟨a1,a2,a3⟩:=zM b hb';exact⟨a1,Gz a2 hg.size,a3⟩
  .exact⟨B.up _ (o9 ok.below.size h1),h2,nf b h1⟩
 exact {
  below:=ok.below.grown hg.togrownBy λk e=>(zM k (jr k e)).1
  dr:=o9 ok.dr hg.dr
  len:=by simp[ok.len]
  holds:=by
   intro j rj vj ej iP
   by_cases hj:j=i
   .subst hj;rw[nX hi]at ej;rw[nX hi']at iP;cases ej;cases iP;exact hold
   .rw[kU (Ne.symm hj)]at ej iP;have h1:=ok.holds j rj vj ej iP;have h2:Holds h (β.set i v) w rj vj:=by
     rcases free with rfl | free
     .rw[iF hu];exact h1
     .exact h1.set (free j rj hj ej)
    refine h2.move (FH.le.refl h) (Ext.refl _) λhlj b hb=>hg.block b (ok.own j rj vj b ej hlj iP hb).2.1 λe=>hj ?_
    exact ok.inj j i rj r vj u b ej hlj hT hl iP hu hb (jr b e.symm)
  own:=by
   intro j rj vj b ej hlj iP hb
   by_cases hj:j=i
   .subst hj;rw[nX hi']at iP;cases iP;exact Ro b hb
   .rw[kU (Ne.symm hj)]at ej iP;obtain⟨a1,a2,a3⟩:=ok.own j rj vj b ej hlj iP hb;exact⟨a1,Gz a2 hg.size,a3⟩
  inj:=by
   intro j k r1 r2 u1 u2 b e1 l1 e2 l2 e3 e4 b1 b2
   by_cases hj:j=i<;>by_cases hk:k=i
   .rw[hj,hk]
   .exfalso;subst hj;rw[nX hi']at e3;cases e3;rw[kU (Ne.symm hk)]at e2 e4;have a:=ok.own k r2 u2 b e2 l2 e4 b2;rcases hv b b1 with hb | hb
    .exact hk (ok.inj k j r2 r u2 u b e2 l2 hT hl e4 hu b2 hb)
    .omega
   .exfalso;subst hk;rw[nX hi']at e4;cases e4;rw[kU (Ne.symm hj)]at e1 e3;have a:=ok.own j r1 u1 b e1 l1 e3 b1;rcases hv b b2 with hb | hb
    .exact hj (ok.inj j k r1 r u1 u b e1 l1 hT hl e3 hu b1 hb)
    .omega
   .rw[kU (Ne.symm hj)]at e1 e3;rw[kU (Ne.symm hk)]at e2 e4;exact ok.inj j k r1 r2 u1 u2 b e1 l1 e2 l2 e3 e4 b1 b2
  hle:=ok.hle
  hw:=frozen_kept ok.hw hg λk e=>(zM k (jr k e)).2.2
  hg:=ok.hg
  kn:=ok.kept hg λb e=>(ok.holds i r u hT hu).cells hl (jr b e) }
theorem OK.forget(ok:OK B h0 T h β w){i:Nat} (hT:T[i]?=some r):
 OK B h0 (T.set i .gone) h β w where
 below:=ok.below
 dr:=ok.dr
 len:=by simp[ok.len]
 holds:=by
  intro j rj vj ej iP
  by_cases hj:j=i
  .subst hj;rw[nX (eU.1 hT).1]at ej;cases ej;cases vj<;>trivial
  .rw[kU (Ne.symm hj)]at ej;exact ok.holds j rj vj ej iP
 own:=by
  intro j rj vj b ej hl iP hb
  by_cases hj:j=i
  .subst hj;rw[nX (eU.1 hT).1]at ej;cases ej;cases hl
  .rw[kU (Ne.symm hj)]at ej;exact ok.own j rj vj b ej hl iP hb
 inj:=by
  intro j k r1 r2 u1 u2 b e1 l1 e2 l2 e3 e4 b1 b2;have key:∀{m:Nat}{rm:aC},(T.set i .gone)[m]?=some rm->rm.live=true->T[m]?=some rm:=by
   intro m rm e l
   by_cases hm:m=i
   .subst hm;rw[nX (eU.1 hT).1]at e;cases e;cases l
   .rw[kU (Ne.symm hm)]at e;exact e
  exact ok.inj j k r1 r2 u1 u2 b (key e1 l1) l1 (key e2 l2) l2 e3 e4 b1 b2
 hle:=ok.hle
 hw:=ok.hw
 hg:=ok.hg
 kn:=ok.kn
def FH.plus(h:FH) (w:World) (g:Nat):FH:=λb o=>if b=g then vis w b o else h b o
theorem OK.freeze(ok:OK B h0 T h β w){i:Nat}{s:Sh}{l:List s.den}
 (hT:T[i]?=some (.row t s l)) (hu:β[i]?=some (.row y)):
 ∃h',h.le h'/\OK B h0 (T.set i .gone) h' β w/\nY h' (Rd h' s) y l:=by
 have hold:=ok.holds i _ _ hT hu;have ok':=ok.forget hT;rcases hold with⟨e,e'⟩ | ⟨a,e,e'⟩ | ⟨g,cap,cur,e,e1,e2,e3,e4,r⟩
 .exact⟨h,FH.le.refl h,ok',.inl ⟨e,e'⟩⟩
 .exact⟨h,FH.le.refl h,ok',.inr (.inl ⟨a,0,e,e',zJ _⟩)⟩
 .subst e;have own:=ok.own i _ _ g hT rfl hu (.inl (nZ e3.1));have le:h.le (h.plus w g):=by
   intro b o v hb;unfold FH.plus
   by_cases hbg:b=g
   .subst hbg;rw[own.2.2 o]at hb;cases hb
   .rw[if_neg hbg];exact hb
  refine⟨h.plus w g,le,?_,?_⟩
  .have key:∀{m:Nat}{rm:aC},(T.set i .gone)[m]?=some rm->rm.live=true->T[m]?=some rm/\m≠i:=by
    intro m rm e l
    by_cases hm:m=i
    .subst hm;rw[nX (eU.1 hT).1]at e;cases e;cases l
    .rw[kU (Ne.symm hm)]at e;exact⟨e,hm⟩
   exact {
    below:=ok'.below
    dr:=ok'.dr
    len:=ok'.len
    holds:=λj rj vj ej iP=>(ok'.holds j rj vj ej iP).move le (Ext.refl _) λ_ _ _=>rfl
    own:=by
     intro j rj vj b ej hl iP hb;obtain⟨ejT,hj⟩:=key ej hl;obtain⟨a1,a2,a3⟩:=ok'.own j rj vj b ej hl iP hb;refine⟨a1,a2,λo=>?_⟩
     unfold FH.plus;rw[if_neg,a3 o];rintro rfl;exact hj (ok.inj j i _ _ _ _ _ ejT hl hT rfl iP hu hb (.inl (nZ e3.1)))
    inj:=ok'.inj
    hle:=ok.hle.trans le
    hw:=by
     intro b o v hb;unfold FH.plus at hb;split at hb
     .exact hb
     .exact ok.hw b o v hb
    hg:=by
     intro b o v hb;unfold FH.plus at hb;split at hb
     .rename_i hbg;subst hbg;exact .inr own.1
     .exact ok.hg b o v hb
    kn:=ok.kn }
  .refine .inr (.inr ⟨g,0,cap,rfl,e2,e3.2,_,r.mono λ_ _=>Rd.mono le s,?_⟩)
   intro j u hj;unfold FH.plus;rw[if_pos rfl,yU];have h1:=eX.all (λ_ _=>Rd.one s) r u (kT hj)
   rw[uh]at hj;split at hj
   .exact lN e1 (by simpa using hj) h1.2
   .cases hj
theorem OK.O8(ok:OK B h0 T h β w){i g:Nat}{v:RV} (hT:T[i]?=some r) (hl:r.live=true) (hu:β[i]?=some v) (hv:v.has g):
 h.le (h.plus w g)/\OK B h0 (T.set i .gone) (h.plus w g) β w:=by
 have ok':=ok.forget hT;have own:=ok.own i r v g hT hl hu hv;have le:h.le (h.plus w g):=by
  intro b o v hb;unfold FH.plus
  by_cases hbg:b=g
  .subst hbg;rw[own.2.2 o]at hb;cases hb
  .rw[if_neg hbg];exact hb
 have key:∀{m:Nat}{rm:aC},(T.set i .gone)[m]?=some rm->rm.live=true->T[m]?=some rm/\m≠i:=by
  intro m rm e l
  by_cases hm:m=i
  .subst hm;rw[nX (eU.1 hT).1]at e;cases e;cases l
  .rw[kU (Ne.symm hm)]at e;exact⟨e,hm⟩
 exact⟨le,{
  below:=ok'.below
  dr:=ok'.dr
  len:=ok'.len
  holds:=λj rj vj ej iP=>(ok'.holds j rj vj ej iP).move le (Ext.refl _) λ_ _ _=>rfl
  own:=by
   intro j rj vj b ej hl' iP hb;obtain⟨ejT,hj⟩:=key ej hl';obtain⟨a1,a2,a3⟩:=ok'.own j rj vj b ej hl' iP hb;refine⟨a1,a2,λo=>?_⟩
   unfold FH.plus;rw[if_neg,a3 o];rintro rfl;exact hj (ok.inj j i _ _ _ _ _ ejT hl' hT hl iP hu hb hv)
  inj:=ok'.inj
  hle:=ok.hle.trans le
  hw:=by
   intro b o v hb;unfold FH.plus at hb;split at hb
   .exact hb
   .exact ok.hw b o v hb
  hg:=by
   intro b o v hb;unfold FH.plus at hb;split at hb
   .rename_i hbg;subst hbg;exact .inr own.1
   .exact ok.hg b o v hb
  kn:=ok.kn }⟩
open Classical in
noncomputable def FH.jZ (h:FH) (w:World) (S:Nat->Prop):FH:=λb o=>if S b then vis w b o else h b o
theorem OK.sO(ok:OK B h0 T h β w){i:Nat}{v:RV} (hT:T[i]?=some r) (hl:r.live=true) (hu:β[i]?=some v):
 h.le (h.jZ w v.has)/\OK B h0 (T.set i .gone) (h.jZ w v.has) β w/\∀b,v.has b->∀o u,vis w b o=some u->h.jZ w v.has b o=some u:=by
 have ok':=ok.forget hT;have own:=λg hv=>ok.own i r v g hT hl hu hv
 have le:h.le (h.jZ w v.has):=by
  intro b o x hb;unfold FH.jZ
  by_cases hbg:v.has b
  .rw[(own b hbg).2.2 o]at hb;cases hb
  .rw[if_neg hbg];exact hb
 have key:∀{m:Nat}{rm:aC},(T.set i .gone)[m]?=some rm->rm.live=true->T[m]?=some rm/\m≠i:=by
  intro m rm e l
  by_cases hm:m=i
  .subst hm;rw[nX (eU.1 hT).1]at e;cases e;cases l
  .rw[kU (Ne.symm hm)]at e;exact⟨e,hm⟩
 exact⟨le,{
  below:=ok'.below
  dr:=ok'.dr
  len:=ok'.len
  holds:=λj rj vj ej iP=>(ok'.holds j rj vj ej iP).move le (Ext.refl _) λ_ _ _=>rfl
  own:=by
   intro j rj vj b ej hl' iP hb;obtain⟨ejT,hj⟩:=key ej hl';obtain⟨a1,a2,a3⟩:=ok'.own j rj vj b ej hl' iP hb;refine⟨a1,a2,λo=>?_⟩
   unfold FH.jZ;rw[if_neg,a3 o];exact λhg=>hj (ok.inj j i _ _ _ _ _ ejT hl' hT hl iP hu hb hg)
  inj:=ok'.inj
  hle:=ok.hle.trans le
  hw:=by
   intro b o x hb;unfold FH.jZ at hb;split at hb
   .exact hb
   .exact ok.hw b o x hb
  hg:=by
   intro b o x hb;unfold FH.jZ at hb;split at hb
   .rename_i hbg;exact .inr (own b hbg).1
   .exact ok.hg b o x hb
  kn:=ok.kn },λb hb o u hc=>by
   unfold FH.jZ;rw[if_pos hb];exact hc⟩
abbrev cnd{α:Type}:Bool->α->α->α
 | true,a,_=>a
 | false,_,b=>b
abbrev tl{α:Type}:Array α->List α | ⟨l⟩=>l
abbrev dH{α:Type}:List α->Nat->Option α
 | [],_=>none
 | x :: _,0=>some x
 | _ :: l,n+1=>dH l n
abbrev aJ{α:Type}:List α->Nat
 | []=>0
 | _ :: l=>Nat.succ (aJ l)
abbrev snoc{α:Type}:List α->α->List α
 | [],y=>[y]
 | x :: l,y=>x :: snoc l y
abbrev bQ{α:Type}:List α->Nat->α->List α
 | [],_,_=>[]
 | _ :: l,0,y=>y :: l
 | x :: l,n+1,y=>x :: bQ l n y
abbrev og{α:Type}:Nat->List α->List α
 | 0,_=>[]
 | _+1,[]=>[]
 | n+1,x :: l=>x :: og n l
abbrev GN{α:Type}:Nat->List α->List α
 | 0,l=>l
 | _+1,[]=>[]
 | n+1,_ :: l=>GN n l
abbrev dO{α:Type}:List α->List α->List α
 | [],m=>m
 | x :: l,m=>x :: dO l m
abbrev dQ{α β:Type} (f:α->β):List α->List β
 | []=>[]
 | x :: l=>f x :: dQ f l
theorem dI{α:Type}:∀(l:List α) (n:Nat),dH l n=l[n]?
 | [],_=>rfl
 | _ :: _,0=>rfl
 | _ :: l,n+1=>by simpa using dI l n
theorem aV{α:Type}:∀(l:List α),aJ l=l.length
 | []=>rfl
 | _ :: l=>by simp[aJ,aV l]
theorem fM{α:Type} (y:α):∀(l:List α),snoc l y=l++[y]
 | []=>rfl
 | _ :: l=>by simp[snoc,fM y l]
theorem dM{α:Type} (y:α):∀(l:List α) (n:Nat),bQ l n y=l.set n y
 | [],_=>rfl
 | _ :: _,0=>rfl
 | _ :: l,n+1=>by simp[bQ,dM y l n]
theorem jc{α:Type}:∀(n:Nat) (l:List α),og n l=l.take n
 | 0,_=>by simp
 | _+1,[]=>rfl
 | n+1,_ :: l=>by simp[jc n l]
theorem oh{α:Type}:∀(n:Nat) (l:List α),GN n l=l.drop n
 | 0,_=>rfl
 | _+1,[]=>rfl
 | n+1,_ :: l=>by simp[oh n l]
theorem dW{α:Type} (m:List α):∀(l:List α),dO l m=l++m
 | []=>rfl
 | _ :: l=>by simp[dO,dW m l]
theorem zi{α β:Type} (f:α->β):∀(l:List α),dQ f l=l.map f
 | []=>rfl
 | _ :: l=>by simp[dQ,zi f l]
abbrev Gd:=List (Nat×Bool)
variable {G:Gd}
abbrev lb:List Bool->Nat->Bool
 | [],_=>false
 | b :: _,0=>b
 | _ :: l,n+1=>lb l n
abbrev GR(gl:List Bool) (i:Nat) (w:Bool):Bool:=cnd w (lb gl i) (!(lb gl i))
abbrev gv(gl:List Bool):Gd->Bool
 | []=>true
 | (i,w) :: g=>match g with
   | []=>GR gl i w
   | _ :: _=>GR gl i w && gv gl g
abbrev O9:Bool->Bool->Bool
 | true,b=>b
 | false,b=>!b
abbrev bY:Bool->Bool->Bool
 | true,b=>b
 | false,_=>false
abbrev gmem(i:Nat) (w:Bool):Gd->Bool
 | []=>false
 | (j,u) :: g=>cnd (bY (Nat.beq i j) (O9 w u)) true (gmem i w g)
abbrev oq:Gd->Gd->Bool
 | [],_=>true
 | (i,w) :: g,g'=>bY (gmem i w g') (oq g g')
theorem pF(gl:List Bool) (i:Nat) (w:Bool) (g:Gd):gv gl ((i,w) :: g)=(GR gl i w && gv gl g):=by
 cases g<;>simp[gv]
theorem Eu{a b:Bool} (h:O9 a b=true):a=b:=by cases a<;>cases b<;>simp_all[O9]
theorem ay(a b:Bool):bY a b=(a && b):=by cases a<;>rfl
theorem jo(c:Bool) (a b:α):cnd c a b=if c=true then a else b:=by cases c<;>rfl
theorem LX{gl:List Bool}{i:Nat}{w:Bool}:∀{g:Gd},gmem i w g=true->gv gl g=true->GR gl i w=true
 | [],h,_=>by simp[gmem]at h
 | (j,u) :: g,h,k=>by
   rw[pF,A8]at k;unfold gmem at h;rw[jo]at h;split at h
   .rename_i hc;rw[ay,A8]at hc;have e1:i=j:=by simpa using hc.1
    rw[e1,Eu hc.2];exact k.1
   .exact LX h k.2
theorem dX{gl:List Bool}:∀{g g':Gd},oq g g'=true->gv gl g'=true->gv gl g=true
 | [],_,_,_=>rfl
 | (i,w) :: g,g',h,k=>by
   unfold oq at h;rw[ay,A8]at h;rw[pF,A8];exact⟨LX h.1 k,dX h.2 k⟩
structure St where
 env:List (Nat×Gd×aW)
 T:List (Gd×aC)
 gl:List Bool
 gs:List (Nat×Nat)
variable {s:St}
abbrev fH:List (Nat×Gd×aW)->Nat->Option (Gd×aW)
 | [],_=>none
 | (k,e) :: l,n=>cnd (Nat.beq k n) (some e) (fH l n)
abbrev Rq:List (Nat×Nat)->Nat->Option Nat
 | [],_=>none
 | (k,e) :: l,n=>cnd (Nat.beq k n) (some e) (Rq l n)
abbrev WL:List (Nat×Nat)->Nat->List (Nat×Nat)
 | [],_=>[]
 | (k,e) :: l,n=>cnd (Nat.beq k n) (WL l n) ((k,e) :: WL l n)
abbrev eff(gl:List Bool):List (Gd×aC)->List aC
 | []=>[]
 | (g,r) :: l=>(cnd (gv gl g) r .gone) :: eff gl l
theorem aX(k:Nat) (e:Gd×aW) (l:List (Nat×Gd×aW)) (n:Nat):fH ((k,e) :: l) n=if k=n then some e else fH l n:=by
 simp only[fH,jo]
 by_cases h:k=n<;>simp[h]
theorem zN(k e:Nat) (l:List (Nat×Nat)) (n:Nat):Rq ((k,e) :: l) n=if k=n then some e else Rq l n:=by
 simp only[Rq,jo]
 by_cases h:k=n<;>simp[h]
theorem xM:∀(l:List (Nat×Nat)) (d n i:Nat),Rq (WL l d) n=some i->n≠d/\Rq l n=some i
 | [],_,_,_,h=>by simp[WL,Rq]at h
 | (k,e) :: l,d,n,i,h=>by
   unfold WL at h;rw[jo]at h;split at h
   .rename_i hk;have hk:k=d:=by simpa using hk
    obtain⟨h1,h2⟩:=xM l d n i h;refine⟨h1,?_⟩;rw[zN,if_neg (by rintro rfl;exact h1 hk)];exact h2
   .rename_i hk;have hk:k≠d:=by simpa using hk
    rw[zN]at h ⊢
    split at h
    .rename_i hn;subst hn;exact⟨hk,by rw[if_pos rfl];exact h⟩
    .rename_i hn;rw[if_neg hn];exact xM l d n i h
theorem fO(gl:List Bool):∀(T:List (Gd×aC)),(eff gl T).length=T.length
 | []=>rfl
 | (_,_) :: l=>by simp[eff,fO gl l]
theorem iT(gl:List Bool):∀(T:List (Gd×aC)) (i:Nat),(eff gl T)[i]?=(T[i]?).map λp=>cnd (gv gl p.1) p.2 .gone
 | [],_=>by simp[eff]
 | (_,_) :: _,0=>by simp[eff]
 | (_,_) :: l,i+1=>by simpa[eff]using iT gl l i
theorem fJ(gl:List Bool) (g:Gd) (r:aC):∀(T:List (Gd×aC)),eff gl (snoc T (g,r))=eff gl T++[cnd (gv gl g) r .gone]
 | []=>rfl
 | (_,_) :: l=>by simp[snoc,eff,fJ gl g r l]
theorem dY(gl:List Bool) (g:Gd) (r:aC):∀(T:List (Gd×aC)) (i:Nat),eff gl (bQ T i (g,r))=(eff gl T).set i (cnd (gv gl g) r .gone)
 | [],_=>rfl
 | (_,_) :: l,0=>by simp[bQ,eff]
 | (_,_) :: l,i+1=>by simp[bQ,eff,dY gl g r l i]
abbrev qX(n:Nat):Gd->Bool
 | []=>true
 | (i,_) :: g=>bY (Nat.ble (i+1) n) (qX n g)
theorem Ew{b:Bool}:∀{gl:List Bool}{i:Nat},i < gl.length->lb (snoc gl b) i=lb gl i
 | _ :: _,0,_=>rfl
 | _ :: l,i+1,h=>by simpa[snoc,lb]using Ew (gl:=l) (i:=i) (by simpa using h)
theorem Ey{b:Bool}:∀{gl:List Bool},lb (snoc gl b) gl.length=b
 | []=>rfl
 | _ :: l=>by simpa[snoc,lb]using Ey (gl:=l)
theorem zk{b:Bool}{gl:List Bool}:∀{G:Gd},qX gl.length G=true->gv (snoc gl b) G=gv gl G
 | [],_=>rfl
 | (i,w) :: g,h=>by
   simp only[qX,ay,A8]at h;have hi:i < gl.length:=by have:=lK h.1;omega
   rw[pF,pF,zk h.2];unfold GR;rw[Ew hi]
theorem vT{n m:Nat} (h:n<=m):∀{G:Gd},qX n G=true->qX m G=true
 | [],_=>rfl
 | (i,w) :: g,k=>by
   simp only[qX,ay,A8]at k ⊢;refine⟨?_,vT h k.2⟩;have:=lK k.1;exact Wq (by omega)
def Jq(B:Base) (a:Act):Prop:=∃X:List Nat,a.defers=X.map (λD=>({ target:=.collected D,args:=#[] }:Deferred))/\X.Nodup/\∀D∈X,B.al D/\B.nc D (.deferred (some []))
theorem Jq.nil(h:a.defers=[]):Jq B a:=⟨[],by simpa using h,List.nodup_nil,λD hD=>by cases hD⟩
theorem Jq.same{a':Act} (h:Jq B a) (e:a'.defers=a.defers):Jq B a':=by unfold Jq;rw[e];exact h
structure Sat (N:Nat) (B:Base) (h0:FH) (s:St) (h:FH) (β:List RV) (w:World) (a:Act):Prop where
 ok:OK B h0 (eff s.gl s.T) h β w
 env:∀t G e,fH s.env t=some (G,e)->∃z,a.tmps[t]?=some z/\(gv s.gl G=true->iO h β e z)/\(gv s.gl G=false->z=undef)
 gs:∀d i,Rq s.gs d=some i->∃G b,fH s.env d=some (G,.one (.c (.v (.bool b))))/\i < s.gl.length/\lb s.gl i=b
 defers:Jq B a
 sz:a.tmps.size=N
 gb:∀t G e,fH s.env t=some (G,e)->qX s.gl.length G=true
 gT:∀p∈s.T,qX s.gl.length p.1=true
abbrev zO:Value->Bool
 | .agg _=>false
 | .tuple _=>false
 | _=>true
theorem ou(h:zO v=true):bZ v:=by
 cases v<;>first | (simp[zO]at h;done) | exact⟨rfl,rfl⟩
abbrev St.put(s:St) (d:Option Nat) (G:Gd) (e:aW):St:=match d with
 | some d=>{ s with env:=(d,G,e) :: s.env,gs:=WL s.gs d }
 | none=>s
theorem Act.WM(a:Act) (d:Nat) (v:Value) (t:Nat) (hd:d < a.tmps.size):(a.put (some d) v).tmps[t]?=if t=d then some v else a.tmps[t]?:=by
 simp only[Act.put,Array.getElem?_setIfInBounds]
 by_cases h:d=t
 .subst h;simp[hd]
 .simp[h,Ne.symm h]
theorem Sat.put{N:Nat}{B:Base}{h0:FH}{s:St}{h:FH}{β:List RV}{w:World}{a:Act} (ah:Sat N B h0 s h β w a){d:Option Nat}{G:Gd}{e:aW}{z:Value}
 (hd:∀k,d=some k->k < N) (hG:qX s.gl.length G=true) (h1:gv s.gl G=true->iO h β e z) (h2:gv s.gl G=false->z=undef):Sat N B h0 (s.put d G e) h β w (a.put d z):=by
 cases d with
 | none=>exact ah
 | some d=>
   have hd':d < a.tmps.size:=by rw[ah.sz];exact hd d rfl
   refine⟨ah.ok,?_,?_,ah.defers.same rfl,by simp[Act.put,ah.sz],?_,ah.gT⟩
   .intro t G' e' ht;rw[Act.WM a d z t hd'];simp only[St.put]at ht;rw[aX]at ht
    by_cases hdt:d=t
    .subst hdt;simp at ht;obtain⟨rfl,rfl⟩:=ht;exact⟨z,by simp,h1,h2⟩
    .rw[if_neg hdt]at ht;obtain⟨y,q1,q2⟩:=ah.env t G' e' ht;exact⟨y,by rw[if_neg (Ne.symm hdt)];exact q1,q2⟩
   .intro k i hk;simp only[St.put]at hk;obtain⟨hne,hk⟩:=xM _ _ _ _ hk;obtain⟨G',b,q1,q2⟩:=ah.gs k i hk;refine⟨G',b,?_,q2⟩;simp only[St.put];rw[aX,if_neg (Ne.symm hne)];exact q1
   .intro t G' e' ht;simp only[St.put]at ht;rw[aX]at ht;split at ht
    .cases ht;exact hG
    .exact ah.gb _ _ _ ht
theorem Sat.mem(ah:Sat N B h0 s h β w a){T':List (Gd×aC)}{β':List RV}
 (ok:OK B h0 (eff s.gl T') h' β' w') (le:h.le h') (eb:Ext β β') (gT:∀p∈T',qX s.gl.length p.1=true):Sat N B h0 { s with T:=T' } h' β' w' a:=by
 refine⟨ok,?_,ah.gs,ah.defers,ah.sz,ah.gb,gT⟩;intro t G e ht;obtain⟨z,q1,q2,q3⟩:=ah.env t G e ht;exact⟨z,q1,λhg=>(q2 hg).mono le eb,q3⟩
abbrev flat:(s:Sh)->s.den->Option (List SC)
 | .int k,n=>some [.v (.int k n)]
 | .bool,b=>some [.v (.bool b)]
 | .str,b=>some [.v (.string b)]
 | .any,v=>none
 | .sl s,l=>some [.sl s l]
 | .unit,_=>some []
 | .pair a b,d=>match flat a d.1 with
   | some x=>match flat b d.2 with
     | some y=>some (dO x y)
     | none=>none
   | none=>none
 | .arr _ _,_=>none
 | .mp k s,l=>some [.one (.mp k s) l]
abbrev iG:(s:Sh)->s.den->SV
 | .int k,n=>.c (.v (.int k n))
 | .bool,b=>.c (.v (.bool b))
 | .str,b=>.c (.v (.string b))
 | .any,v=>.c (.v v)
 | .sl s,l=>.c (.sl s l)
 | .unit,_=>.agg []
 | .pair a b,d=>match flat (.pair a b) d with
   | some xs=>.agg xs
   | none=>.dat (.pair a b) d
 | .arr n s,d=>.dat (.arr n s) d
 | .mp k s,l=>.c (.one (.mp k s) l)
theorem aI.cat{α β:Type}{R:α->β->Prop}:∀{a:List α}{b:List β}{c:List α}{d:List β},aI R a b->aI R c d->aI R (a++c) (b++d)
 | [],[],_,_,_,h=>h
 | _ :: _,_ :: _,_,_,⟨x,y⟩,h=>⟨x,aI.cat y h⟩
theorem eY{h:FH}{β:List RV}:∀(s:Sh){d:s.den}{cs:List Value}{xs:List SC},flat s d=some xs->Rd h s cs d->aI (λx y=>dG h β x y/\bZ y) xs cs
 | .int k,n,cs,xs,e,r=>by simp[flat]at e;subst e;rw[show cs=[_] from r];exact⟨⟨⟨rfl,bD _ _⟩,bD _ _⟩,trivial⟩
 | .bool,n,cs,xs,e,r=>by simp[flat]at e;subst e;rw[show cs=[_] from r];exact⟨⟨⟨rfl,bU _⟩,bU _⟩,trivial⟩
 | .str,n,cs,xs,e,r=>by simp[flat]at e;subst e;rw[show cs=[_] from r];exact⟨⟨⟨rfl,fA _⟩,fA _⟩,trivial⟩
 | .any,n,cs,xs,e,r=>by simp[flat]at e
 | .sl s,l,cs,xs,e,r=>by
   simp[flat]at e;subst e;obtain⟨v,rfl,r⟩:=r;exact⟨⟨r,r.bZ⟩,trivial⟩
 | .unit,n,cs,xs,e,r=>by simp[flat]at e;subst e;rw[show cs=[] from r];trivial
 | .arr _ _,n,cs,xs,e,r=>by simp[flat]at e
 | .mp k s,l,cs,xs,e,r=>by
   simp[flat]at e;subst e;obtain⟨v,rfl,r⟩:=r;exact⟨⟨⟨v,rfl,r⟩,r.bZ⟩,trivial⟩
 | .pair a b,(x,y),cs,xs,e,r=>by
   obtain⟨c1,c2,rfl,r1,r2⟩:=r;unfold flat at e;split at e
   .rename_i p hp;split at e
    .rename_i q hq;cases e;rw[dW];exact aI.cat (eY a hp r1) (eY b hq r2)
    .cases e
   .cases e
theorem iH:∀(s:Sh){d:s.den}{cs:List Value},Rd h s cs d->bV h β (iG s d) (mkV s cs)
 | .int k,n,cs,r=>by rw[show cs=[_] from r];exact⟨⟨rfl,bD _ _⟩,bD _ _⟩
 | .bool,n,cs,r=>by rw[show cs=[_] from r];exact⟨⟨rfl,bU _⟩,bU _⟩
 | .str,n,cs,r=>by rw[show cs=[_] from r];exact⟨⟨rfl,fA _⟩,fA _⟩
 | .any,n,cs,r=>by rw[show cs=[_] from r.1];exact⟨⟨rfl,r.2⟩,r.2⟩
 | .sl s,l,cs,r=>by
   obtain⟨v,rfl,r⟩:=r;exact⟨r,r.bZ⟩
 | .unit,n,cs,r=>by rw[show cs=[] from r];exact⟨[],rfl,trivial⟩
 | .arr n s,l,cs,r=>⟨rfl,cs,rfl,r⟩
 | .mp k s,l,cs,r=>by
   obtain⟨v,rfl,r⟩:=r;exact⟨⟨v,rfl,r⟩,r.bZ⟩
 | .pair a b,d,cs,r=>by
   have e:iG (.pair a b) d=match flat (.pair a b) d with
    | some xs=>.agg xs
    | none=>.dat (.pair a b) d:=rfl
   rw[e];cases hx:flat (.pair a b) d with
   | some xs=>exact⟨cs,rfl,eY (.pair a b) hx r⟩
   | none=>exact⟨rfl,cs,rfl,r⟩
abbrev zQ:IntKind->Nat
 | .i8=>0 | .i16=>1 | .i32=>2 | .i64=>3 | .u8=>4 | .u16=>5 | .u32=>6 | .u64=>7
theorem ng{a b:IntKind} (h:Nat.beq (zQ a) (zQ b)=true):a=b:=by cases a<;>cases b<;>first | rfl | (simp[zQ]at h)
abbrev pG:(a b:Sh)->Bool
 | .int k,b=>match b with | .int k'=>Nat.beq (zQ k) (zQ k') | _=>false
 | .bool,b=>match b with | .bool=>true | _=>false
 | .str,b=>match b with | .str=>true | _=>false
 | .any,b=>match b with | .any=>true | _=>false
 | .unit,b=>match b with | .unit=>true | _=>false
 | .sl s,b=>match b with | .sl s'=>pG s s' | _=>false
 | .pair s t,b=>match b with | .pair s' t'=>bY (pG s s') (pG t t') | _=>false
 | .arr n s,b=>match b with | .arr n' s'=>bY (Nat.beq n n') (pG s s') | _=>false
 | .mp k s,b=>match b with | .mp k' s'=>bY (Nat.beq (zQ k) (zQ k')) (pG s s') | _=>false
theorem ni:∀{a b:Sh},pG a b=true->a=b
 | .int k,b,h=>by
   cases b with
   | int k'=>rw[ng (show Nat.beq (zQ k) (zQ k')=true from h)]
   | _=>simp[pG]at h
 | .bool,b,h=>by cases b<;>simp[pG]at h;rfl
 | .str,b,h=>by cases b<;>simp[pG]at h;rfl
 | .any,b,h=>by cases b<;>simp[pG]at h;rfl
 | .unit,b,h=>by cases b<;>simp[pG]at h;rfl
 | .sl s,b,h=>by cases b<;>simp[pG]at h;rw[ni h]
 | .pair s t,b,h=>by
   cases b<;>simp[pG]at h;rw[ay,A8]at h;rw[ni h.1,ni h.2]
 | .arr n s,b,h=>by
   cases b with
   | arr n' s'=>
     have h:bY (Nat.beq n n') (pG s s')=true:=h;rw[ay,A8]at h;have e1:n=n':=gI h.1;rw[ni h.2,e1]
   | _=>simp[pG]at h
 | .mp k s,b,h=>by
   cases b with
   | mp k' s'=>
     have h:bY (Nat.beq (zQ k) (zQ k')) (pG s s')=true:=h;rw[ay,A8]at h;rw[ni h.2,ng h.1]
   | _=>simp[pG]at h
abbrev iV(s:Sh) (d:s.den) (s':Sh):Option s'.den:=
 match h:pG s s' with
 | true=>some ((ni h)▸d)
 | false=>none
theorem jv{s s':Sh}{d:s.den}{d':s'.den} (h:iV s d s'=some d'):∃e:s=s',e▸d=d':=by
 unfold iV at h;split at h
 .rename_i hs;exact⟨ni hs,by simpa using h⟩
 .cases h
abbrev zS{α:Type} (f:List SC->Option (α×List SC)):Nat->List SC->Option (List α×List SC)
 | 0,xs=>some ([],xs)
 | n+1,xs=>match f xs with
   | some p=>match zS f n p.2 with
     | some q=>some (p.1 :: q.1,q.2)
     | none=>none
   | none=>none
abbrev takeD:(s:Sh)->List SC->Option (s.den×List SC)
 | .int k,xs=>match xs with
   | .v (.int k' n) :: r=>cnd (Nat.beq (zQ k) (zQ k')) (some (n,r)) none
   | _=>none
 | .bool,xs=>match xs with
   | .v (.bool b) :: r=>some (b,r)
   | _=>none
 | .str,xs=>match xs with
   | .v (.string b) :: r=>some (b,r)
   | _=>none
 | .any,xs=>match xs with
   | .v x :: r=>some (x,r)
   | _=>none
 | .sl s,xs=>match xs with
   | .sl s' l :: r=>match iV (.sl s') l (.sl s) with
     | some l'=>some (l',r)
     | none=>none
   | .v (.slice none 0 0) :: r=>some ([],r)
   | _=>none
 | .unit,xs=>some ((),xs)
 | .pair a b,xs=>match takeD a xs with
   | some p=>match takeD b p.2 with
     | some q=>some ((p.1,q.1),q.2)
     | none=>none
   | none=>none
 | .arr n s,xs=>zS (takeD s) n xs
 | .mp k s,xs=>match xs with
   | .one s' l :: r=>match iV s' l (.mp k s) with
     | some l'=>some (l',r)
     | none=>none
   | .v (.map none) :: r=>some ([],r)
   | _=>none
theorem GU{h:FH}{β:List RV}{α:Type}{R:List Value->α->Prop}{f:List SC->Option (α×List SC)}
 (hf:∀{xs:List SC}{ys:List Value}{d:α}{r:List SC},f xs=some (d,r)->aI (λx y=>dG h β x y/\bZ y) xs ys->∃c1 c2,ys=c1++c2/\R c1 d/\aI (λx y=>dG h β x y/\bZ y) r c2):
 ∀{n:Nat}{xs:List SC}{ys:List Value}{l:List α}{r:List SC},zS f n xs=some (l,r)->aI (λx y=>dG h β x y/\bZ y) xs ys ->
 ∃c1 c2,ys=c1++c2/\(l.length=n/\eX R c1 l)/\aI (λx y=>dG h β x y/\bZ y) r c2
 | 0,xs,ys,l,r,e,a=>by
   simp only[zS]at e;cases e;exact⟨[],ys,rfl,⟨rfl,rfl⟩,a⟩
 | n+1,xs,ys,l,r,e,a=>by
   unfold zS at e;split at e
   .rename_i p hp;split at e
    .rename_i q hq;cases e;obtain⟨c1,c2,rfl,r1,a1⟩:=hf (show f xs=some (p.1,p.2) from hp) a
     obtain⟨c3,c4,rfl,⟨l2,r2⟩,a2⟩:=GU hf (show zS f n p.2=some (q.1,q.2) from hq) a1
     exact⟨c1++c3,c4,by rw[CJ],⟨by simp[l2],c1,c3,rfl,r1,r2⟩,a2⟩
    .cases e
   .cases e
theorem lW{h:FH}{β:List RV}:∀(s:Sh){xs:List SC}{ys:List Value}{d:s.den}{r:List SC},takeD s xs=some (d,r)->aI (λx y=>dG h β x y/\bZ y) xs ys ->
 ∃c1 c2,ys=c1++c2/\Rd h s c1 d/\aI (λx y=>dG h β x y/\bZ y) r c2
 | .int k,xs,ys,d,r,e,a=>by
   unfold takeD at e;split at e
   .rename_i k' n r'
    match ys,a with
    | y :: ys,⟨⟨q1,q2⟩,q3⟩=>
      rw[jo]at e;split at e
      .rename_i hk;have:=ng hk;subst this;cases e;exact⟨[y],ys,rfl,by rw[q1.1];rfl,q3⟩
      .cases e
   .cases e
 | .bool,xs,ys,d,r,e,a=>by
   unfold takeD at e;split at e
   .match ys,a with
    | y :: ys,⟨⟨q1,q2⟩,q3⟩=>cases e;exact⟨[y],ys,rfl,by rw[q1.1];rfl,q3⟩
   .cases e
 | .str,xs,ys,d,r,e,a=>by
   unfold takeD at e;split at e
   .match ys,a with
    | y :: ys,⟨⟨q1,q2⟩,q3⟩=>cases e;exact⟨[y],ys,rfl,by rw[q1.1];rfl,q3⟩
   .cases e
 | .any,xs,ys,d,r,e,a=>by
   unfold takeD at e;split at e
   .match ys,a with
    | y :: ys,⟨⟨q1,q2⟩,q3⟩=>cases e;exact⟨[y],ys,rfl,by rw[q1.1];exact⟨rfl,q1.2⟩,q3⟩
   .cases e
 | .sl s,xs,ys,d,r,e,a=>by
   unfold takeD at e;split at e
   .rename_i s' l r'
    match ys,a with
    | y :: ys,⟨⟨q1,q2⟩,q3⟩=>
      split at e
      .rename_i l' hl;cases e;obtain⟨es,el⟩:=jv hl;cases es;simp only at el;subst el;exact⟨[y],ys,rfl,⟨y,rfl,q1⟩,q3⟩
      .cases e
   .match ys,a with
    | y :: ys,⟨⟨q1,q2⟩,q3⟩=>cases e;exact⟨[y],ys,rfl,⟨y,rfl,.inl ⟨q1.1,rfl⟩⟩,q3⟩
   .cases e
 | .unit,xs,ys,d,r,e,a=>by
   simp[takeD]at e;subst e;exact⟨[],ys,rfl,rfl,a⟩
 | .pair s t,xs,ys,d,r,e,a=>by
   unfold takeD at e;split at e
   .rename_i p hp;split at e
    .rename_i q hq;cases e;obtain⟨c1,c2,rfl,r1,a1⟩:=lW s (show takeD s xs=some (p.1,p.2) from hp) a
     obtain⟨c3,c4,rfl,r2,a2⟩:=lW t (show takeD t p.2=some (q.1,q.2) from hq) a1
     exact⟨c1++c3,c4,by rw[CJ],⟨c1,c3,rfl,r1,r2⟩,a2⟩
    .cases e
   .cases e
 | .arr n s,xs,ys,d,r,e,a=>GU (λe a=>lW s e a) (show zS (takeD s) n xs=some (d,r) from e) a
 | .mp k s,xs,ys,d,r,e,a=>by
   unfold takeD at e;split at e
   .rename_i s' l r'
    match ys,a with
    | y :: ys,⟨⟨q1,q2⟩,q3⟩=>
      split at e
      .rename_i l' hl;cases e;obtain⟨es,el⟩:=jv hl;cases es;simp only at el;subst el;exact⟨[y],ys,rfl,q1,q3⟩
      .cases e
   .match ys,a with
    | y :: ys,⟨⟨q1,q2⟩,q3⟩=>cases e;exact⟨[y],ys,rfl,⟨y,rfl,.inl ⟨q1.1,rfl⟩⟩,q3⟩
   .cases e
abbrev lD:SV->Option (List SC)
 | .c x=>some [x]
 | .agg xs=>some xs
 | _=>none
abbrev ZY(s':Sh) (d:s'.den):(s:Sh)->Option s.den
 | .pair a .unit=>match a.isAgg with
   | true=>match iV s' d a with
     | some x=>some (x,())
     | none=>none
   | false=>none
 | _=>none
abbrev afe(s':Sh) (d:s'.den) (s:Sh):Option s.den:=match iV s' d s with
 | some x=>some x
 | none=>ZY s' d s
abbrev toDat(s:Sh) (v:SV):Option s.den:=match v with
 | .dat s' d=>afe s' d s
 | .und=>none
 | .c x=>match s.isAgg with
   | true=>none
   | false=>match takeD s [x]with
     | some (d,[])=>some d
     | _=>none
 | .agg xs=>match s.isAgg with
   | false=>none
   | true=>match takeD s xs with
     | some (d,[])=>some d
     | _=>none
theorem toDat_ok{s:Sh}{v:SV}{d:s.den} (e:toDat s v=some d) (c:bV h β v y):∃cs,y=mkV s cs/\Rd h s cs d:=by
 unfold toDat at e;split at e
 .unfold afe at e;split at e
  .rename_i x hx;cases e;obtain⟨es,ed⟩:=jv hx;subst es;simp only at ed;subst ed;obtain⟨hg,cs,rfl,r⟩:=c;exact⟨cs,by simp[mkV,hg],r⟩
  .unfold ZY at e;split at e
   .split at e
    .split at e
     .rename_i x hx;cases e;obtain⟨es,ed⟩:=jv hx;subst es;simp only at ed;subst ed;obtain⟨hg,cs,rfl,r⟩:=c;exact⟨cs,by simp[mkV,Sh.isAgg],cs,[],by simp,r,rfl⟩
     .cases e
    .cases e
   .cases e
 .cases e
 .split at e
  .cases e
  .rename_i hs;split at e
   .rename_i hd;cases e;obtain⟨c1,c2,e1,r,a⟩:=lW (β:=β) (ys:=[y]) s hd ⟨c,trivial⟩;have:c2=[]:=by cases c2 with | nil=>rfl | cons _ _=>exact a.elim
    subst this;rw[OO]at e1;subst e1;exact⟨[y],by simp[mkV,hs],r⟩
   .cases e
 .split at e
  .cases e
  .rename_i hs;split at e
   .rename_i hd;cases e;obtain⟨ys,rfl,a⟩:=c;obtain⟨c1,c2,e1,r,a'⟩:=lW (β:=β) s hd a;have:c2=[]:=by cases c2 with | nil=>rfl | cons _ _=>exact a'.elim
    subst this;rw[OO]at e1;subst e1;exact⟨ys,by simp[mkV,hs],r⟩
   .cases e
abbrev isU:Sh->Bool
 | .unit=>true
 | _=>false
abbrev pI:(s:Sh)->s.den->Nat->Nat->Bool->Option (Sigma Sh.den)
 | .pair a b,d,off,k,ag=>match bY (Nat.beq off 0) (bY (Nat.beq (a.size+b.size) k) ag) with
   | true=>match bY (isU b) a.isAgg with
     | true=>some ⟨a,d.1⟩
     | false=>some ⟨.pair a b,d⟩
   | false=>match Nat.ble (off+1) a.size with
     | true=>pI a d.1 off k ag
     | false=>pI b d.2 (off - a.size) k ag
 | s,d,off,k,ag=>match bY (Nat.beq off 0) (bY (Nat.beq s.size k) (O9 s.isAgg ag)) with
   | true=>some ⟨s,d⟩
   | false=>none
theorem sQ{h:FH}:∀(s:Sh){d:s.den}{cs:List Value}{off k:Nat}{ag:Bool}{p:Sigma Sh.den},pI s d off k ag=some p->Rd h s cs d ->
 Rd h p.1 ((cs.drop off).take k) p.2/\p.1.size=k/\p.1.isAgg=ag/\off+k<=cs.length
 | .pair a b,(x,y),cs,off,k,ag,p,e,r=>by
   unfold pI at e;split at e
   .rename_i hc;rw[ay,ay]at hc;simp at hc;obtain⟨rfl,hk,rfl⟩:=hc;split at e
    .rename_i hu;rw[ay,A8]at hu;cases e;obtain⟨hu,ha⟩:=hu;cases b<;>simp[isU]at hu;obtain⟨c1,c2,e1,r1,r2⟩:=r;have r2:c2=[]:=r2;subst r2;have hs:=Rd.size a r1;simp only[Sh.size,O1]at hk;have e1:cs=c1:=by simpa using e1
     subst e1;refine⟨?_,hk,ha,by omega⟩
     simp only[Wv];rw[Gy (by omega)];exact r1
    cases e;have hs:=Rd.size (.pair a b) r;have:cs.length=k:=by rw[hs];exact hk
    refine⟨?_,hk,rfl,by omega⟩
    simp only[Wv];rw[Gy (by omega)];exact r
   .obtain⟨c1,c2,rfl,r1,r2⟩:=r;have h1:=Rd.size a r1;split at e
    .rename_i hl;have hl:off < a.size:=by have:=lK hl;omega
     obtain⟨q1,q2,q3,q4⟩:=sQ a e r1;refine⟨?_,q2,q3,by rw[kD];omega⟩
     rw[A96 (by omega),A87 (by rw[yT];omega)];exact q1
    .rename_i hl;have hl:a.size<=off:=by
      have:¬off+1<=a.size:=λhh=>by rw[Wq hh]at hl;cases hl
      omega
     obtain⟨q1,q2,q3,q4⟩:=sQ b e r2;refine⟨?_,q2,q3,by rw[kD];omega⟩
     rw[List.drop_append,Wp (by omega),LP,h1];exact q1
 | .int q,d,cs,off,k,ag,p,e,r=>leaf (.int q) e r
 | .bool,d,cs,off,k,ag,p,e,r=>leaf .bool e r
 | .str,d,cs,off,k,ag,p,e,r=>leaf .str e r
 | .any,d,cs,off,k,ag,p,e,r=>leaf .any e r
 | .sl s,d,cs,off,k,ag,p,e,r=>leaf (.sl s) e r
 | .unit,d,cs,off,k,ag,p,e,r=>leaf .unit e r
 | .arr n s,d,cs,off,k,ag,p,e,r=>leaf (.arr n s) e r
 | .mp n s,d,cs,off,k,ag,p,e,r=>leaf (.mp n s) e r
where
 leaf {h:FH} (s:Sh){d:s.den}{cs:List Value}{off k:Nat}{ag:Bool}{p:Sigma Sh.den} (e:(match bY (Nat.beq off 0) (bY (Nat.beq s.size k) (O9 s.isAgg ag)) with
  | true=>some (⟨s,d⟩:Sigma Sh.den)
  | false=>none)=some p) (r:Rd h s cs d):Rd h p.1 ((cs.drop off).take k) p.2/\p.1.size=k/\p.1.isAgg=ag/\off+k<=cs.length:=by
  split at e
  .rename_i hc;rw[ay,ay,A8,A8]at hc;obtain⟨h1,h2,h3⟩:=hc;have h1:off=0:=by simpa using h1
   have h2:s.size=k:=by simpa using h2
   subst h1;cases e;have hs:=Rd.size s r;refine⟨?_,h2,Eu h3,by omega⟩
   simp only[Wv];rw[Gy (by omega)];exact r
  .cases e
abbrev dflt:(s:Sh)->s.den
 | .int _=>(0:Int)
 | .bool=>false
 | .str=>ByteArray.empty
 | .any=>undef
 | .sl _=>[]
 | .pair a b=>(dflt a,dflt b)
 | .unit=>()
 | .arr _ _=>[]
 | .mp _ _=>[]
theorem eX.set{α:Type}{R:List Value->α->Prop}{k:Nat} (hR:∀c d,R c d->c.length=k):∀{l:List α}{cs:List Value}{j:Nat}{d:α}{c:List Value},eX R cs l->j < l.length->R c d ->
 eX R (cs.take (j * k)++c++cs.drop (j * k+k)) (l.set j d)
 | [],_,_,_,_,_,h,_=>by simp at h
 | x :: l,_,0,d,c,⟨c0,r,e,h1,h2⟩,_,hc=>by
   have h0:=hR _ _ h1;simp only[GI,OW,LP,yU,List.set_cons_zero];refine⟨c,_,rfl,hc,?_⟩;rw[e,<-h0,List.drop_left];exact h2
 | x :: l,_,j+1,d,c,⟨c0,r,e,h1,h2⟩,hj,hc=>by
   have h0:=hR _ _ h1;have ih:=eX.set hR h2 (by simpa using hj) hc
   simp only[List.set_cons_succ];have e1:(j+1) * k=c0.length+j * k:=by rw[uN,h0];omega
   refine⟨c0,_,?_,h1,ih⟩;rw[e,e1,A99,show c0.length+j * k+k=c0.length+(j * k+k) by omega,A70,CJ,CJ,CJ]
theorem Dl{sh:Sh}{d:sh.den} (r:Rd h sh cs d):(mkV sh cs).cells=cs.toArray:=by
 unfold mkV;cases hs:sh.isAgg with
 | true=>rfl
 | false=>
   have:=Rd.size sh r;have h1:sh.size=1:=by cases sh<;>first | rfl | simp[Sh.isAgg]at hs
   rw[h1]at this
   match cs,this,r with
   | [c],_,r=>exact(Rd.one sh r c (by simp)).1
abbrev ny:(s:Sh)->s.den->Nat->Option (Sigma λe:Sh=>List e.den×Nat×Nat)
 | .pair a b,(x,y),off=>match Nat.ble (off+1) a.size with
   | true=>ny a x off
   | false=>ny b y (off - a.size)
 | .arr n e,l,off=>match Nat.ble (off+1) e.size with
   | true=>some ⟨e,l,n,off⟩
   | false=>none
 | _,_,_=>none
theorem vU{h:FH}:∀(s:Sh){d:s.den}{cs:List Value}{off:Nat}{q:Sigma λe:Sh=>List e.den×Nat×Nat},ny s d off=some q->Rd h s cs d ->
 ∃base,off=base+q.2.2.2/\q.2.1.length=q.2.2.1/\base+q.2.2.1 * q.1.size<=cs.length/\eX (Rd h q.1) ((cs.drop base).take (q.2.2.1 * q.1.size)) q.2.1
 | .pair a b,(x,y),cs,off,q,e,r=>by
   obtain⟨c1,c2,rfl,r1,r2⟩:=r;have h1:=Rd.size a r1;unfold ny at e;split at e
   .rename_i gY;obtain⟨base,e1,e2,e3,e4⟩:=vU a e r1;refine⟨base,e1,e2,by rw[kD];omega,?_⟩
    rw[A96 (by omega),A87 (by rw[yT];omega)]
    exact e4
   .rename_i gY;have gY:¬off+1<=a.size:=λhh=>by rw[Wq hh]at gY;cases gY
    obtain⟨base,e1,e2,e3,e4⟩:=vU b e r2;refine⟨c1.length+base,by omega,e2,by rw[kD];omega,?_⟩
    rw[A70];exact e4
 | .arr n s,l,cs,off,q,e,r=>by
   unfold ny at e;split at e
   .cases e;refine⟨0,by simp,r.1,?_,?_⟩
    .rw[eX.size (λ_ _=>Rd.size s) r.2,r.1];simp
    .have:=eX.size (λ_ _=>Rd.size s) r.2
     rw[r.1]at this;show eX (Rd h s) ((cs.drop 0).take (n * s.size)) l;rw[Wv,Gy (by omega)]
     exact r.2
   .cases e
 | .int _,_,_,_,_,e,_=>by simp[ny]at e
 | .bool,_,_,_,_,e,_=>by simp[ny]at e
 | .str,_,_,_,_,e,_=>by simp[ny]at e
 | .any,_,_,_,_,e,_=>by simp[ny]at e
 | .unit,_,_,_,_,e,_=>by simp[ny]at e
 | .sl _,_,_,_,_,e,_=>by simp[ny]at e
 | .mp _ _,_,_,_,_,e,_=>by simp[ny]at e
abbrev vV:(s:Sh)->s.den->Nat->Nat->SV->Option s.den
 | .pair a b,(p,q),off,k,v=>match bY (Nat.beq off 0) (Nat.beq (a.size+b.size) k) with
   | true=>match toDat (.pair a b) v with
     | some x=>some x
     | none=>match Nat.ble 1 a.size with
       | true=>match vV a p 0 k v with
         | some x=>some (x,q)
         | none=>none
       | false=>none
   | false=>match Nat.ble (off+1) a.size with
     | true=>match vV a p off k v with
       | some x=>some (x,q)
       | none=>none
     | false=>match vV b q (off - a.size) k v with
       | some x=>some (p,x)
       | none=>none
 | s,_,off,k,v=>match bY (Nat.beq off 0) (Nat.beq s.size k) with
   | true=>toDat s v
   | false=>none
def V5(h:FH) (s:Sh) (cs:List Value) (off k:Nat) (y:Value) (d':s.den):Prop:=
 ∃cs',y.cells=cs'.toArray/\cs'.length=k/\(∀u∈cs',bZ u)/\off+k<=cs.length/\Rd h s (cs.take off++cs'++cs.drop (off+k)) d'
theorem xO{s:Sh}{d d':s.den}{k:Nat}{v:SV} (hk:s.size=k) (e:toDat s v=some d') (r:Rd h s cs d) (c:bV h β v y):V5 h s cs 0 k y d':=by
 obtain⟨cs',ey,r'⟩:=toDat_ok e c;have h1:=Rd.size s r;have h2:=Rd.size s r';refine⟨cs',by rw[ey];exact Dl r',by omega,Rd.one s r',by omega,?_⟩
 rw[OW,LP,yU,Wp (by omega),OO]
 exact r'
theorem zU{a b:Sh}{x:a.den}{y0:b.den}{c1 c2:List Value}{k:Nat} (u:V5 h a c1 off k y x) (r2:Rd h b c2 y0):V5 h (.pair a b) (c1++c2) off k y (x,y0):=by
 obtain⟨cs',e1,e2,e3,e4,e5⟩:=u;refine⟨cs',e1,e2,e3,by rw[kD];omega,_,c2,?_,e5,r2⟩
 rw[A87 (by omega),A96 (by omega)]
 simp only[CJ]
theorem Dn{a b:Sh}{x:a.den}{y0:b.den}{c1 c2:List Value}{k:Nat} (hs:c1.length<=off) (r1:Rd h a c1 x) (u:V5 h b c2 (off - c1.length) k y y0):V5 h (.pair a b) (c1++c2) off k y (x,y0):=by
 obtain⟨cs',e1,e2,e3,e4,e5⟩:=u;refine⟨cs',e1,e2,e3,by rw[kD];omega,c1,_,?_,r1,e5⟩
 have o:off=c1.length+(off - c1.length):=by omega
 generalize off - c1.length=m at o;subst o;rw[A99,show c1.length+m+k=c1.length+(m+k) by omega,A70]
 simp only[CJ]
theorem kL(s:Sh){d d':s.den}{k:Nat}{v:SV} (e:(match bY (Nat.beq off 0) (Nat.beq s.size k) with | true=>toDat s v | false=>none)=some d') (r:Rd h s cs d) (c:bV h β v y):V5 h s cs off k y d':=by
 split at e
 .rename_i hz;rw[ay,A8]at hz;have h1:off=0:=gI hz.1;have h2:s.size=k:=gI hz.2;subst h1;exact xO h2 e r c
 .cases e
theorem lF{h:FH}{β:List RV}:∀(s:Sh){d d':s.den}{cs:List Value}{off k:Nat}{v:SV}{y:Value},vV s d off k v=some d'->Rd h s cs d->bV h β v y->V5 h s cs off k y d'
 | .pair a b,(x,y0),d',cs,off,k,v,y,e,r,c=>by
   unfold vV at e;split at e
   .rename_i hz;rw[ay,A8]at hz;have h1:off=0:=gI hz.1;have h2:a.size+b.size=k:=gI hz.2;subst h1;split at e
    .rename_i x' hx;cases e;exact xO (s:=.pair a b) h2 hx r c
    .split at e
     .split at e
      .rename_i x' hx;cases e;obtain⟨c1,c2,rfl,r1,r2⟩:=r;exact zU (lF a hx r1 c) r2
      .cases e
     .cases e
   .obtain⟨c1,c2,rfl,r1,r2⟩:=r;have h1:=Rd.size a r1;split at e
    .split at e
     .rename_i x' hx;cases e;exact zU (lF a hx r1 c) r2
     .cases e
    .rename_i gY;have gY:¬off+1<=a.size:=λhh=>by rw[Wq hh]at gY;cases gY
     split at e
     .rename_i x' hx;cases e;refine Dn (by omega) r1 ?_
      rw[h1];exact lF b hx r2 c
     .cases e
 | .int q,d,d',cs,off,k,v,y,e,r,c=>kL (.int q) e r c
 | .bool,d,d',cs,off,k,v,y,e,r,c=>kL .bool e r c
 | .str,d,d',cs,off,k,v,y,e,r,c=>kL .str e r c
 | .any,d,d',cs,off,k,v,y,e,r,c=>kL .any e r c
 | .unit,d,d',cs,off,k,v,y,e,r,c=>kL .unit e r c
 | .sl q,d,d',cs,off,k,v,y,e,r,c=>kL (.sl q) e r c
 | .arr n q,d,d',cs,off,k,v,y,e,r,c=>kL (.arr n q) e r c
 | .mp n q,d,d',cs,off,k,v,y,e,r,c=>kL (.mp n q) e r c
abbrev xP:(s:Sh)->s.den->Nat->Nat->Nat->Nat->SV->Option (Nat×s.den)
 | .pair a b,(p,q),off,j,sz,k,v=>match Nat.ble (off+1) a.size with
   | true=>match xP a p off j sz k v with
     | some (m,x)=>some (m,(x,q))
     | none=>none
   | false=>match xP b q (off - a.size) j sz k v with
     | some (m,x)=>some (m,(p,x))
     | none=>none
 | .arr n e,l,off,j,sz,k,v=>match bY (Nat.beq off 0) (bY (Nat.beq e.size sz) (Nat.beq sz k)) with
   | true=>match toDat e v with
     | some x=>some (n,l.set j x)
     | none=>none
   | false=>none
 | _,_,_,_,_,_,_=>none
theorem Ez{h:FH}{β:List RV}:∀(s:Sh){d:s.den}{cs:List Value}{off j sz k:Nat}{v:SV}{y:Value}{p:Nat×s.den},xP s d off j sz k v=some p->Rd h s cs d->bV h β v y->j < p.1->V5 h s cs (j * sz+off) k y p.2
 | .pair a b,(x,y0),cs,off,j,sz,k,v,y,p,e,r,c,hj=>by
   obtain⟨c1,c2,rfl,r1,r2⟩:=r;have h1:=Rd.size a r1;unfold xP at e;split at e
   .split at e
    .rename_i m x' hq;cases e;exact zU (Ez a (p:=(m,x')) hq r1 c hj) r2
    .cases e
   .rename_i gY;have gY:¬off+1<=a.size:=λhh=>by rw[Wq hh]at gY;cases gY
    split at e
    .rename_i m x' hq;cases e;refine Dn (by omega) r1 ?_
     have:=Ez b (p:=(m,x')) hq r2 c hj
     rwa [show j * sz+(off - a.size)=j * sz+off - c1.length by omega]at this
    .cases e
 | .arr n s,l,cs,off,j,sz,k,v,y,p,e,r,c,hj=>by
   unfold xP at e;split at e
   .rename_i hz;rw[ay,ay,A8,A8]at hz;have z1:off=0:=gI hz.1;have z2:s.size=sz:=gI hz.2.1;have z3:sz=k:=gI hz.2.2;subst z1;subst z3;subst z2;split at e
    .rename_i x hx;cases e;obtain⟨cs',ey,r'⟩:=toDat_ok hx c;have hs:=Rd.size s r';have hl:=eX.size (λ_ _=>Rd.size s) r.2
     have hj:j < l.length:=by have:=r.1;omega
     have hm:(j+1) * s.size<=l.length * s.size:=vO _ hj;rw[uN]at hm;refine⟨cs',by rw[ey];exact Dl r',hs,Rd.one s r',by omega,by rw[Eo];exact r.1,?_⟩
     exact eX.set (λ_ _=>Rd.size s) r.2 hj r'
    .cases e
   .cases e
 | .int _,_,_,_,_,_,_,_,_,_,e,_,_,_=>by simp[xP]at e
 | .bool,_,_,_,_,_,_,_,_,_,e,_,_,_=>by simp[xP]at e
 | .str,_,_,_,_,_,_,_,_,_,e,_,_,_=>by simp[xP]at e
 | .any,_,_,_,_,_,_,_,_,_,e,_,_,_=>by simp[xP]at e
 | .unit,_,_,_,_,_,_,_,_,_,e,_,_,_=>by simp[xP]at e
 | .sl _,_,_,_,_,_,_,_,_,_,e,_,_,_=>by simp[xP]at e
 | .mp _ _,_,_,_,_,_,_,_,_,_,e,_,_,_=>by simp[xP]at e
abbrev CU:(s:Sh)->s.den->Nat->(e:Sh)->Option (List e.den)
 | .sl s,d,o,e=>match Nat.beq o 0 with
   | true=>iV (.sl s) d (.sl e)
   | false=>none
 | .pair a b,d,o,e=>match Nat.ble a.size o with
   | true=>CU b d.2 (o - a.size) e
   | false=>CU a d.1 o e
 | .int _,_,_,_=>none
 | .bool,_,_,_=>none
 | .str,_,_,_=>none
 | .any,_,_,_=>none
 | .unit,_,_,_=>none
 | .arr _ _,_,_,_=>none
 | .mp _ _,_,_,_=>none
abbrev CV:(s:Sh)->s.den->Nat->(e:Sh)->List e.den->Option s.den
 | .sl s,_,o,e,x=>match Nat.beq o 0 with
   | true=>iV (.sl e) x (.sl s)
   | false=>none
 | .pair a b,d,o,e,x=>match Nat.ble a.size o with
   | true=>match CV b d.2 (o - a.size) e x with
     | some y=>some (d.1,y)
     | none=>none
   | false=>match CV a d.1 o e x with
     | some y=>some (y,d.2)
     | none=>none
 | .int _,_,_,_,_=>none
 | .bool,_,_,_,_=>none
 | .str,_,_,_,_=>none
 | .any,_,_,_,_=>none
 | .unit,_,_,_,_=>none
 | .arr _ _,_,_,_,_=>none
 | .mp _ _,_,_,_,_=>none
theorem sS{a:Nat} (h:Nat.ble a b=false):b < a:=by
 rcases Wy b a with hh | hh
 .exact hh
 .rw[Wq hh]at h;cases h
theorem EC:∀{s:Sh}{d:s.den}{o:Nat}{e:Sh}{x:List e.den}{d':s.den},CV s d o e x=some d'->kF s o e d x d'
 | .sl s,d,o,e,x,d',h=>by
   unfold CV at h;split at h
   .rename_i ho;obtain⟨q,hq⟩:=jv h;injection q with q
    subst q;exact⟨gI ho,rfl,hq⟩
   .cases h
 | .pair a b,(p,q),o,e,x,d',h=>by
   unfold CV at h;split at h
   .rename_i ho;split at h
    .rename_i y hy;cases h;exact .inl ⟨lK ho,rfl,EC hy⟩
    .cases h
   .rename_i ho;split at h
    .rename_i y hy;cases h;exact .inr ⟨sS ho,rfl,EC hy⟩
    .cases h
 | .int _,_,_,_,_,_,h=>by cases h
 | .bool,_,_,_,_,_,h=>by cases h
 | .str,_,_,_,_,_,h=>by cases h
 | .any,_,_,_,_,_,h=>by cases h
 | .unit,_,_,_,_,_,h=>by cases h
 | .arr _ _,_,_,_,_,_,h=>by cases h
 | .mp _ _,_,_,_,_,_,h=>by cases h
theorem ED:∀{s:Sh}{d0 d:s.den}{o:Nat}{e:Sh}{x x':List e.den},kF s o e d0 x d->CU s d o e=some x'->x'=x
 | .sl s,d0,d,o,e,x,x',⟨ho,q,hq⟩,h=>by
   subst q;subst hq;unfold CU at h;split at h
   .obtain⟨_,hq⟩:=jv h;exact hq.symm
   .cases h
 | .pair a b,(p0,q0),(p,q),o,e,x,x',hp,h=>by
   unfold CU at h;split at h
   .rename_i ho;rcases hp with⟨_,_,hp⟩ | ⟨gY,_,_⟩
    .exact ED hp h
    .have:=lK ho;omega
   .rename_i ho;have:=sS ho;rcases hp with⟨hge,_,hp⟩ | ⟨_,_,hp⟩
    .omega
    .exact ED hp h
 | .int _,_,_,_,_,_,_,h,_=>h.elim
 | .bool,_,_,_,_,_,_,h,_=>h.elim
 | .str,_,_,_,_,_,_,h,_=>h.elim
 | .any,_,_,_,_,_,_,h,_=>h.elim
 | .unit,_,_,_,_,_,_,h,_=>h.elim
 | .arr _ _,_,_,_,_,_,_,h,_=>h.elim
 | .mp _ _,_,_,_,_,_,_,h,_=>h.elim
theorem kF.turn:∀{s:Sh}{o:Nat}{e:Sh}{d d1 d2:s.den}{x x':List e.den},kF s o e d x d1->kF s o e d x' d2->kF s o e d1 x' d2
 | .sl s,o,e,d,d1,d2,x,x',⟨h1,_,_⟩,⟨_,q,hq⟩=>⟨h1,q,hq⟩
 | .pair a b,o,e,(p,q),(p1,q1),(p2,q2),x,x',h1,h2=>by
   rcases h1 with⟨g1,e1,h1⟩ | ⟨g1,e1,h1⟩<;>rcases h2 with⟨g2,e2,h2⟩ | ⟨g2,e2,h2⟩
   .exact .inl ⟨g1,e1.symm.trans e2,h1.turn h2⟩
   .omega
   .omega
   .exact .inr ⟨g1,e1.symm.trans e2,h1.turn h2⟩
 | .int _,_,_,_,_,_,_,_,h,_=>h.elim
 | .bool,_,_,_,_,_,_,_,h,_=>h.elim
 | .str,_,_,_,_,_,_,_,h,_=>h.elim
 | .any,_,_,_,_,_,_,_,h,_=>h.elim
 | .unit,_,_,_,_,_,_,_,h,_=>h.elim
 | .arr _ _,_,_,_,_,_,_,_,h,_=>h.elim
 | .mp _ _,_,_,_,_,_,_,_,h,_=>h.elim
theorem kF.trans:∀{s:Sh}{o:Nat}{e:Sh}{d d1 d2:s.den}{x x':List e.den},kF s o e d x d1->kF s o e d1 x' d2->kF s o e d x' d2
 | .sl s,o,e,d,d1,d2,x,x',⟨h1,_,_⟩,⟨_,q,hq⟩=>⟨h1,q,hq⟩
 | .pair a b,o,e,(p,q),(p1,q1),(p2,q2),x,x',h1,h2=>by
   rcases h1 with⟨g1,e1,h1⟩ | ⟨g1,e1,h1⟩<;>rcases h2 with⟨g2,e2,h2⟩ | ⟨g2,e2,h2⟩
   .exact .inl ⟨g1,e1.trans e2,h1.trans h2⟩
   .omega
   .omega
   .exact .inr ⟨g1,e1.trans e2,h1.trans h2⟩
 | .int _,_,_,_,_,_,_,_,h,_=>h.elim
 | .bool,_,_,_,_,_,_,_,h,_=>h.elim
 | .str,_,_,_,_,_,_,_,h,_=>h.elim
 | .any,_,_,_,_,_,_,_,h,_=>h.elim
 | .unit,_,_,_,_,_,_,_,h,_=>h.elim
 | .arr _ _,_,_,_,_,_,_,_,h,_=>h.elim
 | .mp _ _,_,_,_,_,_,_,_,h,_=>h.elim
theorem kF.ex:∀{s:Sh}{o:Nat}{e:Sh}{d d1:s.den}{x:List e.den} (x':List e.den),kF s o e d x d1->∃d2,kF s o e d x' d2
 | .sl s,o,e,d,d1,x,x',⟨h1,q,_⟩=>⟨q▸x',h1,q,rfl⟩
 | .pair a b,o,e,(p,q),(p1,q1),x,x',h1=>by
   rcases h1 with⟨g1,e1,h1⟩ | ⟨g1,e1,h1⟩
   .obtain⟨d2,h2⟩:=h1.ex x';exact⟨(p,d2),.inl ⟨g1,rfl,h2⟩⟩
   .obtain⟨d2,h2⟩:=h1.ex x';exact⟨(d2,q),.inr ⟨g1,rfl,h2⟩⟩
 | .int _,_,_,_,_,_,_,h=>h.elim
 | .bool,_,_,_,_,_,_,h=>h.elim
 | .str,_,_,_,_,_,_,h=>h.elim
 | .any,_,_,_,_,_,_,h=>h.elim
 | .unit,_,_,_,_,_,_,h=>h.elim
 | .arr _ _,_,_,_,_,_,_,h=>h.elim
 | .mp _ _,_,_,_,_,_,_,h=>h.elim
theorem kF.lt:∀{s:Sh}{o:Nat}{e:Sh}{d d1:s.den}{x:List e.den},kF s o e d x d1->o < s.size
 | .sl s,o,e,d,d1,x,⟨h1,_,_⟩=>by subst h1;exact Nat.one_pos
 | .pair a b,o,e,(p,q),(p1,q1),x,h1=>by
   show o < a.size+b.size;rcases h1 with⟨g1,e1,h1⟩ | ⟨g1,e1,h1⟩
   .have:=h1.lt;omega
   .omega
 | .int _,_,_,_,_,_,h=>h.elim
 | .bool,_,_,_,_,_,h=>h.elim
 | .str,_,_,_,_,_,h=>h.elim
 | .any,_,_,_,_,_,h=>h.elim
 | .unit,_,_,_,_,_,h=>h.elim
 | .arr _ _,_,_,_,_,_,h=>h.elim
 | .mp _ _,_,_,_,_,_,h=>h.elim
theorem kF.rd{h:FH}:∀{s:Sh}{o:Nat}{e:Sh}{d d1:s.den}{x:List e.den}{cs:List Value}{y:Value},kF s o e d x d1->Rd h s cs d->nY h (Rd h e) y x->Rd h s (cs.set o y) d1
 | .sl s,o,e,d,d1,x,cs,y,⟨h1,q,hq⟩,⟨v,hv,_⟩,hy=>by
   subst h1;subst q;subst hq;subst hv;exact⟨y,rfl,hy⟩
 | .pair a b,o,e,(p,q),(p1,q1),x,cs,y,h1,⟨c1,c2,ec,r1,r2⟩,hy=>by
   have hs:=Rd.size a r1;rcases h1 with⟨g1,e1,h1⟩ | ⟨g1,e1,h1⟩
   .subst e1;refine⟨c1,c2.set (o - a.size) y,?_,r1,h1.rd r2 hy⟩;rw[ec,List.set_append_right _ _ (by omega),hs]
   .subst e1;refine⟨c1.set o y,c2,?_,h1.rd r1 hy,r2⟩;rw[ec,List.set_append_left _ _ (by omega)]
 | .int _,_,_,_,_,_,_,_,h,_,_=>h.elim
 | .bool,_,_,_,_,_,_,_,h,_,_=>h.elim
 | .str,_,_,_,_,_,_,_,h,_,_=>h.elim
 | .any,_,_,_,_,_,_,_,h,_,_=>h.elim
 | .unit,_,_,_,_,_,_,_,h,_,_=>h.elim
 | .arr _ _,_,_,_,_,_,_,_,h,_,_=>h.elim
 | .mp _ _,_,_,_,_,_,_,_,h,_,_=>h.elim
theorem nY.nil(h:FH) (R:List Value->α->Prop):nY h R kY []:=.inl ⟨rfl,rfl⟩
theorem vW:∀{s:Sh}{so:Nat}{e:Sh}{d0 d:s.den}{x:List e.den}{off k:Nat}{ag:Bool}{q:Sigma Sh.den},kF s so e d0 x d->off+k<=so\/so+1<=off->pI s d off k ag=some q->pI s d0 off k ag=some q
 | .sl s,so,e,d0,d,x,off,k,ag,q,⟨h1,_,_⟩,hd,h=>by
   exfalso;unfold pI at h;split at h
   .rename_i hh;rw[ay,ay,A8,A8]at hh;have a1:=gI hh.1;have a2:1=k:=gI hh.2.1;omega
   .cases h
 | .pair a b,so,e,(p0,q0),(p,q'),x,off,k,ag,q,hp,hd,h=>by
   have gY:=kF.lt hp;have gY:so < a.size+b.size:=gY;unfold pI at h ⊢
   split at h
   .rename_i hh;rw[ay,ay,A8,A8]at hh;have a1:=gI hh.1;have a2:=gI hh.2.1;omega
   .rename_i hh;cases hle:Nat.ble (off+1) a.size with
    | true=>
      rw[hle]at h;simp only at h ⊢
      have hle:=lK hle;rcases hp with⟨g1,e1,h1⟩ | ⟨g1,e1,h1⟩
      .rw[e1];exact h
      .exact vW h1 hd h
    | false=>
      rw[hle]at h;simp only at h ⊢
      have hle:=sS hle;rcases hp with⟨g1,e1,h1⟩ | ⟨g1,e1,h1⟩
      .exact vW h1 (by omega) h
      .rw[e1];exact h
 | .int _,_,_,_,_,_,_,_,_,_,h,_,_=>h.elim
 | .bool,_,_,_,_,_,_,_,_,_,h,_,_=>h.elim
 | .str,_,_,_,_,_,_,_,_,_,h,_,_=>h.elim
 | .any,_,_,_,_,_,_,_,_,_,h,_,_=>h.elim
 | .unit,_,_,_,_,_,_,_,_,_,h,_,_=>h.elim
 | .arr _ _,_,_,_,_,_,_,_,_,_,h,_,_=>h.elim
 | .mp _ _,_,_,_,_,_,_,_,_,_,h,_,_=>h.elim
abbrev zV:List Value->Bool
 | []=>true
 | v :: l=>bY (zO v) (zV l)
theorem xQ:∀{l:List Value},zV l=true->∀v∈l,bZ v
 | [],_,v,hv=>by simp at hv
 | x :: l,h,v,hv=>by
   simp only[zV,ay,A8]at h;rcases jM.1 hv with rfl | hv
   .exact ou h.1
   .exact xQ h.2 v hv
inductive Cl where
 | i | b | s
 deriving DecidableEq
structure TI where
 desc:TypeDesc
 size:Nat
 bytes:Nat
 zero:List Value
 jK:Option Sh
 Dp:List Cl:=[]
variable {i:TI}
abbrev jB:TypeDesc->Bool
 | .struct _=>true
 | .array _ _=>true
 | _=>false
abbrev oz:(s:Sh)->s.den
 | .int _=>(0:Int)
 | .bool=>false
 | .str=>ByteArray.empty
 | .any=>undef
 | .sl _=>[]
 | .pair a b=>(oz a,oz b)
 | .unit=>()
 | .arr n s=>List.replicate n (oz s)
 | .mp _ _=>[]
abbrev jd(t o:Nat):Field:={ name:= "",type:=t,offset:=o,embedded:=false,tag:= "",pkgPath:= "",byteOffset:=0 }
def uP(f:Field):Field:=jd f.type f.offset
def nf:TypeDesc->TypeDesc
 | .struct fs=>.struct (fs.map uP)
 | d=>d
def aff:TypeDesc->Bool
 | .struct _=>true
 | _=>false
def vX(P:Program) (t:TypeId):Option Cl:=match P.underlying t with
 | some (.int _)=>some .i
 | some .bool=>some .b
 | some .string=>some .s
 | _=>none
def Pg(P:Program):Nat->List Cl->List Field->Bool
 | i,c :: cs,f :: fs=>f.name != "_" && f.offset == i && vX P f.type == some c && Pg P (i+1) cs fs
 | _,[],[]=>true
 | _,_,_=>false
def WO(P:Program) (t:TypeId) (cls:List Cl):Bool:=match P.underlying t with
 | some (.struct fs)=>Pg P 0 cls fs.toList && !P.stoodInHeld t && !P.eqGuardType P.depth t
 | some (.array _ e)=>vX P e == some .i && P.cellsOf e == 1 && (P.info? e).isSome && !P.eqGuardType P.depth t
 | _=>false
def afg:Value->Bool
 | .agg _=>true
 | _=>false
structure aU (P:Program) (t:TypeId) (i:TI):Prop where
 und:∃d,P.underlying t=some d/\nf d=i.desc
 info:∃inf z,P.info? t=some inf/\inf.size=i.size/\inf.bytes=i.bytes/\inf.zero=some z/\z.cells=i.zero.toArray
 mP:i.zero.length=i.size
 zone:∀v∈i.zero,bZ v
 Ph:∀s,i.jK=some s->Rd (λ_ _=>none) s i.zero (oz s)/\s.isAgg=jB i.desc
 Dp:i.Dp≠[]->WO P t i.Dp=true
 afh:∀inf z,P.info? t=some inf->inf.zero=some z->afg z=jB i.desc
theorem aU.CW(k:aU P t i){D:TypeDesc} (hd:i.desc=D) (h:aff D=false):P.underlying t=some D:=by
 obtain⟨d,h1,h2⟩:=k.und;rw[h1];rw[hd]at h2;cases d<;>first
  | (simp only[nf]at h2;rw[h2])
  | (simp only[nf]at h2;rw[<-h2]at h;cases h)
theorem aU.EF(k:aU P t i){fs:Array Field} (hd:i.desc=.struct fs):∃fs0,P.underlying t=some (.struct fs0)/\fs0.map uP=fs:=by
 obtain⟨d,h1,h2⟩:=k.und;rw[hd]at h2;cases d<;>simp only[nf]at h2<;>first
  | (cases h2;exact⟨_,h1,rfl⟩)
  | cases h2
theorem aaW(d:TypeDesc):jB (nf d)=jB d:=by cases d<;>rfl
abbrev zc:Sh->List Value
 | .int k=>[.int k 0]
 | .bool=>[.bool false]
 | .str=>[.string ByteArray.empty]
 | .any=>[]
 | .sl _=>[.slice none 0 0]
 | .pair a b=>zc a++zc b
 | .unit=>[]
 | .arr n s=>(List.replicate n (zc s)).flatten
 | .mp _ _=>[.map none]
abbrev Dq:Sh->Bool
 | .any=>false
 | .pair a b=>Dq a && Dq b
 | .arr _ s=>Dq s
 | _=>true
theorem LY:∀{s:Sh},Dq s=true->Rd (λ_ _=>none) s (zc s) (oz s)
 | .int _,_=>rfl
 | .bool,_=>rfl
 | .str,_=>rfl
 | .any,h=>by cases h
 | .sl _,_=>⟨_,rfl,.inl ⟨rfl,rfl⟩⟩
 | .mp _ _,_=>⟨_,rfl,.inl ⟨rfl,rfl⟩⟩
 | .pair a b,h=>by
   simp only[Dq,A8]at h;exact⟨_,_,rfl,LY h.1,LY h.2⟩
 | .unit,_=>rfl
 | .arr n s,h=>by
   refine⟨by simp[oz],?_⟩
   have r:=LY (s:=s) h;have:∀n,eX (Rd (λ_ _=>none) s) (List.replicate n (zc s)).flatten (List.replicate n (oz s)):=by
    intro n
    induction n with
    | zero=>rfl
    | succ n ih=>exact⟨zc s,_,by rw[aaR,List.flatten_cons],r,ih⟩
   exact this n
theorem aZ{s0:Sh} (h:i.jK=some s0) (h1:Dq s0=true) (h2:zc s0=i.zero) (h3:s0.isAgg=jB i.desc):∀s,i.jK=some s->Rd (λ_ _=>none) s i.zero (oz s)/\s.isAgg=jB i.desc:=by
 intro s hs;rw[h]at hs;cases hs;exact⟨by rw[<-h2];exact LY h1,h3⟩
structure Cx where
 ti:List (Nat×TI)
 gd:Nat->Option (Sigma Sh.den)
 wr:Bool:=false
 dm:Bool:=false
 rt:Bool:=false
 cz:Bool:=false
variable {cx:Cx}
abbrev mQ:List (Nat×TI)->Nat->Option TI
 | [],_=>none
 | (k,e) :: l,n=>cnd (Nat.beq k n) (some e) (mQ l n)
theorem aU.of_eq(h1:(P.underlying t).map nf=some i.desc) (h2:(P.info? t).map (λx=>(x.size,x.bytes,x.zero.map λz=>(z.cells,afg z)))=some (i.size,i.bytes,some (i.zero.toArray,jB i.desc)))
 (h3:i.zero.length=i.size) (h4:zV i.zero=true) (h5:∀s,i.jK=some s->Rd (λ_ _=>none) s i.zero (oz s)/\s.isAgg=jB i.desc) (h6:i.Dp≠[]->WO P t i.Dp=true:=by intro h;exact absurd rfl h):aU P t i where
 und:=by
  cases h:P.underlying t with
  | none=>rw[h]at h1;cases h1
  | some d=>rw[h]at h1;exact⟨d,rfl,by simpa using h1⟩
 info:=by
  cases h:P.info? t with
  | none=>rw[h]at h2;cases h2
  | some x=>
    rw[h]at h2;simp only[QO,OU,Q8]at h2;cases hz:x.zero with
    | none=>rw[hz]at h2;cases h2.2.2
    | some z=>rw[hz]at h2;simp only[QO,OU,Q8]at h2;exact⟨x,z,rfl,h2.1,h2.2.1,hz,h2.2.2.1⟩
 afh:=by
  intro inf z e1 e2;rw[e1]at h2;simp only[QO,OU,Q8,e2]at h2;exact h2.2.2.2
 mP:=h3
 zone:=xQ h4
 Ph:=h5
 Dp:=h6
def bT(P:Program):List (Nat×TI)->Prop
 | []=>True
 | (k,e) :: l=>aU P k e/\bT P l
theorem bT.get{P:Program}:∀{l:List (Nat×TI)}{t:Nat}{i:TI},bT P l->mQ l t=some i->aU P t i
 | [],_,_,_,e=>by simp[mQ]at e
 | (k,x) :: l,t,i,⟨h1,h2⟩,e=>by
   simp only[mQ,jo]at e;split at e
   .rename_i hk;have:k=t:=by simpa using hk
    subst this;cases e;exact h1
   .exact bT.get h2 e
def aG(gd:Nat->Option (Sigma Sh.den)) (h:FH):Prop:=∀g p,gd g=some p->∃cs,Rd h p.1 cs p.2/\At h g 0 cs
theorem aG.mono{gd:Nat->Option (Sigma Sh.den)}{h h':FH} (g:aG gd h) (le:h.le h'):aG gd h':=λk p e=>by
 obtain⟨cs,r,a⟩:=g k p e;exact⟨cs,r.mono le p.1,a.mono le⟩
theorem dZ{h:FH}{β:List RV}:∀{l:List Value},(∀v∈l,bZ v)->aI (λx y=>dG h β x y/\bZ y) (dQ SC.v l) l
 | [],_=>trivial
 | x :: l,k=>⟨⟨⟨rfl,k x (by simp)⟩,k x (by simp)⟩,dZ λv hv=>k v (by simp[hv])⟩
abbrev Jr(v:Value):Option aW:=match v with
 | .agg cs=>match zV (tl cs) with
   | true=>some (.one (.agg (dQ SC.v (tl cs))))
   | false=>none
 | .tuple _=>none
 | v=>some (.one (.c (.v v)))
theorem Pj{e:aW} (k:Jr v=some e):iO h β e v:=by
 unfold Jr at k;split at k
 .rename_i cs;split at k
  .rename_i ha;cases k;exact⟨tl cs,by cases cs;rfl,dZ (xQ ha)⟩
  .cases k
 .cases k
 .rename_i h1 h2;cases k;have:zO v=true:=by
   cases v<;>first | rfl | exact(h1 _ rfl).elim | exact(h2 _ rfl).elim
  exact⟨⟨rfl,ou this⟩,ou this⟩
abbrev bI(cx:Cx) (s:St) (G:Gd):Operand->Option aW
 | .tmp t=>match fH s.env t with
   | some (G',e)=>match oq G' G with
     | true=>some e
     | false=>none
   | none=>none
 | .const v=>Jr v
 | .global g=>match cx.gd g with
   | some p=>some (.one (.c (.fp p.1 p.2)))
   | none=>none
 | .func f=>some (.one (.c (.v (.func (.func f) #[] #[]))))
theorem aH(ah:Sat N B h0 s h β w a) (hg:aG cx.gd h) (hG:gv s.gl G=true):
 ∀{x:Operand}{e:aW},bI cx s G x=some e->iO h β e (a.eval x)
 | .tmp t,e,k=>by
   simp only[bI]at k;split at k
   .rename_i G' e' hk;split at k
    .rename_i hs;cases k;obtain⟨z,q1,q2,q3⟩:=ah.env _ _ _ hk;have:a.eval (.tmp t)=z:=by simp[Act.eval,q1]
     rw[this];exact q2 (dX hs hG)
    .cases k
   .cases k
 | .const v,e,k=>Pj k
 | .global g,e,k=>by
   simp only[bI]at k;split at k
   .rename_i p hp;cases k;obtain⟨cs,r,at_⟩:=hg g p hp;exact⟨⟨g,0,cs,rfl,r,at_⟩,rfl,rfl⟩
   .cases k
 | .func f,e,k=>by
   simp only[bI]at k;cases k;exact⟨⟨rfl,rfl,rfl⟩,rfl,rfl⟩
abbrev side(gl:List Bool) (G:Gd) (p:Prop):Prop:=match G with
 | []=>p
 | x :: g=>gv gl (x :: g)=true->p
theorem dU{p:Prop} (h:side gl G p) (hG:gv gl G=true):p:=by
 cases G with
 | nil=>exact h
 | cons x g=>exact h hG
def Je(k:IntKind) (n:Int):Prop:=k.wrap n=n
def InL(n:Nat):Prop:=(n:Int)<=IntKind.i64.max
def jF(op:BinOp) (k:IntKind) (x y:Int):Int:=
 let a:=BitVec.ofInt k.bits x
 let b:=BitVec.ofInt k.bits y
 match op with
 | .and=>k.wrap (a &&& b).toNat
 | .or=>k.wrap (a ||| b).toNat
 | .xor=>k.wrap (a ^^^ b).toNat
 | _=>k.wrap (a &&& ~~~b).toNat
def afi(k:IntKind) (x y:Int):Int:=k.wrap (x * 2 ^ (min y.toNat k.bits))
def afj(k:IntKind) (x y:Int):Int:=x.fdiv (2 ^ (min y.toNat k.bits))
def strLt(x y:ByteArray):Bool:=Op.bytesLess x.toList y.toList
abbrev afk:IntKind->Bool
 | .i64=>true
 | _=>false
abbrev vI(k:IntKind) (n:Int):aW:=.one (.c (.v (.int k n)))
abbrev vB(b:Bool):aW:=.one (.c (.v (.bool b)))
abbrev vS(s:ByteArray):aW:=.one (.c (.v (.string s)))
abbrev arith(gl:List Bool) (G:Gd) (k:IntKind) (n:Int) (K:aW->Prop):Prop:=match afk k with
 | true=>side gl G (Je k n)/\K (vI k n)
 | false=>K (vI k (k.wrap n))
abbrev zW(wr:Bool) (gl:List Bool) (G:Gd) (k:IntKind) (n:Int) (K:aW->Prop):Prop:=cnd wr (K (vI k (k.wrap n))) (arith gl G k n K)
abbrev aaX(wr:Bool) (gl:List Bool) (G:Gd) (op:BinOp) (k:IntKind) (x y:Int) (K:aW->Prop):Prop:=match op with
 | .add=>zW wr gl G k (x+y) K
 | .sub=>zW wr gl G k (x - y) K
 | .mul=>zW wr gl G k (x * y) K
 | .quo=>side gl G (y≠0)/\arith gl G k (x.tdiv y) K
 | .rem=>side gl G (y≠0)/\K (vI k (x.tmod y))
 | .and=>K (vI k (jF .and k x y))
 | .or=>K (vI k (jF .or k x y))
 | .xor=>K (vI k (jF .xor k x y))
 | .andNot=>K (vI k (jF .andNot k x y))
 | .eql=>K (vB (decide (x=y)))
 | .neq=>K (vB (!decide (x=y)))
 | .lss=>K (vB (decide (x < y)))
 | .leq=>K (vB (decide (x<=y)))
 | .gtr=>K (vB (decide (y < x)))
 | .geq=>K (vB (decide (y<=x)))
 | .shl=>False
 | .shr=>False
abbrev aaY(gl:List Bool) (G:Gd) (op:BinOp) (x y:ByteArray) (K:aW->Prop):Prop:=match op with
 | .add=>side gl G (InL (x.size+y.size))/\K (vS (x++y))
 | .eql=>K (vB (decide (x=y)))
 | .neq=>K (vB (!decide (x=y)))
 | .lss=>K (vB (strLt x y))
 | .leq=>K (vB (strLt x y || decide (x=y)))
 | .gtr=>K (vB (!(strLt x y || decide (x=y))))
 | .geq=>K (vB (!strLt x y))
 | _=>False
abbrev LZ(cx:Cx) (t:TypeId):Bool:=match mQ cx.ti t with
 | some i=>match i.desc with
   | .bool=>true
   | _=>false
 | none=>false
abbrev aaZ(cx:Cx) (gl:List Bool) (G:Gd) (op:BinOp) (xt:TypeId) (a b:Value) (K:aW->Prop):Prop:=match a with
 | .int k x=>match b with
   | .int k' y=>match op with
     | .shl=>side gl G (0<=y)/\K (vI k (afi k x y))
     | .shr=>side gl G (0<=y)/\K (vI k (afj k x y))
     | op=>cnd (Nat.beq (zQ k) (zQ k')) (aaX cx.wr gl G op k x y K) False
   | _=>False
 | .string x=>match b with
   | .string y=>aaY gl G op x y K
   | _=>False
 | .bool x=>match b with
   | .bool y=>match LZ cx xt with
     | true=>match op with
       | .eql=>K (vB (x == y))
       | .neq=>K (vB (!(x == y)))
       | _=>False
     | false=>False
   | _=>False
 | _=>False
def aa0(P:Program) (m:Sem Value) (v:Value):Prop:=∀w,m.run P w=.ok v w
def Good(gl:List Bool) (G:Gd) (P:Program) (m:Sem Value) (K:aW->Prop):Prop:=
 ∃v,K (.one (.c (.v v)))/\bZ v/\(gv gl G=true->aa0 P m v)
theorem vY{m:Sem Value} (h:arith gl G k n K)
 (hm:gv gl G=true->aa0 P m (.int k (k.wrap n))):Good gl G P m K:=by
 unfold arith at h;split at h
 .obtain⟨h1,h2⟩:=h;exact⟨_,h2,bD _ _,λhG=>by have:=dU h1 hG;unfold Je at this;rw[this]at hm;exact hm hG⟩
 .exact⟨_,h,bD _ _,hm⟩
theorem xR{wr:Bool}{m:Sem Value} (h:zW wr gl G k n K)
 (hm:gv gl G=true->aa0 P m (.int k (k.wrap n))):Good gl G P m K:=by
 unfold zW at h;cases wr
 .exact vY h hm
 .exact⟨_,h,bD _ _,hm⟩
theorem WQ{wr:Bool}{x y:Int} (h:aaX wr gl G op k x y K):
 Good gl G P (binOp op t (.int k x) (.int k y)) K:=by
 unfold aaX at h;cases op<;>simp only at h
 case add=>exact xR h λ_ w=>by simp[binOp,Op.intArith]
 case sub=>exact xR h λ_ w=>by simp[binOp,Op.intArith]
 case mul=>exact xR h λ_ w=>by simp[binOp,Op.intArith]
 case quo=>
  obtain⟨h1,h2⟩:=h;exact vY h2 λhG w=>by have:=dU h1 hG;simp[binOp,Op.intDiv,this]
 case rem=>
  obtain⟨h1,h2⟩:=h;exact⟨_,h2,bD _ _,λhG w=>by have:=dU h1 hG;simp[binOp,Op.intDiv,this]⟩
 case and=>exact⟨_,h,bD _ _,λhG w=>by simp[binOp,Op.intBits,jF]⟩
 case or=>exact⟨_,h,bD _ _,λhG w=>by simp[binOp,Op.intBits,jF]⟩
 case xor=>exact⟨_,h,bD _ _,λhG w=>by simp[binOp,Op.intBits,jF]⟩
 case andNot=>exact⟨_,h,bD _ _,λhG w=>by simp[binOp,Op.intBits,jF]⟩
 case eql=>exact⟨_,h,bU _,λhG w=>by simp[binOp,Op.intCmp];rfl⟩
 case neq=>exact⟨_,h,bU _,λhG w=>by simp[binOp,Op.intCmp,bne];rfl⟩
 case lss=>exact⟨_,h,bU _,λhG w=>by simp[binOp,Op.intCmp]⟩
 case leq=>exact⟨_,h,bU _,λhG w=>by simp[binOp,Op.intCmp]⟩
 case gtr=>exact⟨_,h,bU _,λhG w=>by simp[binOp,Op.intCmp]⟩
 case geq=>exact⟨_,h,bU _,λhG w=>by simp[binOp,Op.intCmp]⟩
theorem bytes_eq(x y:ByteArray):(x.toList == y.toList)=decide (x=y):=by
 have key:∀a:ByteArray,a.toList=a.data.toList:=λa=>ByteArray.toList_eq a
 rw[key,key]
 by_cases h:x=y
 .subst h;simp
 .rw[Ep h];rw[beq_eq_false_iff_ne];intro e;apply h;cases x;cases y;simp only[ByteArray.mk.injEq];exact Array.ext' e
theorem WR{x y:ByteArray} (h:aaY gl G op x y K):
 Good gl G P (binOp op t (.string x) (.string y)) K:=by
 unfold aaY at h;cases op<;>simp only at h
 case add=>
  obtain⟨h1,h2⟩:=h;refine⟨_,h2,fA _,λhG w=>?_⟩
  have:=dU h1 hG;unfold InL at this;have hn:¬(((x.size+y.size:Nat):Int) > IntKind.i64.max):=by omega
  simp only[binOp,Op.stringOp];rw[if_neg hn];rfl
 case eql=>exact⟨_,h,bU _,λhG w=>by simp only[binOp,Op.stringOp,bytes_eq];rfl⟩
 case neq=>exact⟨_,h,bU _,λhG w=>by simp only[binOp,Op.stringOp,bytes_eq];rfl⟩
 case lss=>exact⟨_,h,bU _,λhG w=>by simp only[binOp,Op.stringOp,strLt];rfl⟩
 case leq=>exact⟨_,h,bU _,λhG w=>by simp only[binOp,Op.stringOp,bytes_eq,strLt];rfl⟩
 case gtr=>exact⟨_,h,bU _,λhG w=>by simp only[binOp,Op.stringOp,bytes_eq,strLt];rfl⟩
 case geq=>exact⟨_,h,bU _,λhG w=>by simp only[binOp,Op.stringOp,strLt];rfl⟩
theorem L6(hc:bT P cx.ti){xt:TypeId}{a b:Value} (h:aaZ cx gl G op xt a b K):
 Good gl G P (binOp op xt a b) K:=by
 unfold aaZ at h;split at h
 .rename_i k x;split at h
  .rename_i k' y;split at h
   .exact⟨_,h.2,bD _ _,λhG w=>by have:=dU h.1 hG;simp[binOp,Op.shift,afi,show¬y < 0 by omega]⟩
   .exact⟨_,h.2,bD _ _,λhG w=>by have:=dU h.1 hG;simp[binOp,Op.shift,afj,show¬y < 0 by omega]⟩
   .rw[jo]at h;split at h
    .rename_i hk;have:=ng hk;subst this;exact WQ h
    .cases h
  .cases h
 .split at h
  .exact WR h
  .cases h
 .split at h
  .split at h
   .rename_i hb;have hu:P.underlying xt=some .bool:=by
     unfold LZ at hb;split at hb
     .rename_i i hi;split at hb
      .rename_i hd;exact(hc.get hi).CW hd rfl
      .cases hb
     .cases hb
    split at h
    .exact⟨_,h,bU _,λhG w=>run_eql_bool w xt _ _ hu⟩
    .exact⟨_,h,bU _,λhG w=>run_neq_bool w xt _ _ hu⟩
    .cases h
   .cases h
  .cases h
 .cases h
abbrev xU:Value->Bool
 | .agg _=>false
 | .nilIface=>false
 | _=>true
theorem pJ(P:Program) (op:BinOp) (t:TypeId) (x y:Operand){a b:Value} (h:xU a=true) (w:World):(eqGuard op t x y a b).run P w=.ok () w:=by
 unfold eqGuard;cases a<;>first
  | (simp[xU]at h;done)
  | (cases op<;>rfl)
theorem add_lit(b o j:Nat):(⟨b,o,none⟩:Addr).add j=⟨b,o+j,none⟩:=by
 unfold Addr.add;split
 .rename_i h;simp[h]
 .rfl
theorem Dt(k:aU P t i) (w:World):(isAgg t).run P w=.ok (jB i.desc) w:=by
 unfold isAgg;obtain⟨d,h1,h2⟩:=k.und;rw[Sem.run_bind,run_underlying h1 w,<-h2,aaW];cases d<;>rfl
theorem run_sizeOf(k:aU P t i) (w:World):(sizeOf t).run P w=.ok i.size w:=by
 obtain⟨inf,z,h1,h2,_⟩:=k.info;simp[sizeOf,typeInfo,h1,h2]
theorem fZ(k:aU P t i) (hl:cs.length=i.size)
 (h1:jB i.desc=false->i.size=1) (hc:∀j u,cs[j]?=some u->w.cell? ⟨b,o+j,none⟩=some u):
 (loadVar t ⟨b,o,none⟩).run P w=.ok (if jB i.desc=true then .agg cs.toArray else cs.headD undef) w:=by
 unfold loadVar;rw[Sem.run_bind,Dt k];simp only[Result.andThen_ok];cases hd:jB i.desc with
 | true=>
   have:=run_loadCells_list (P:=P) w ⟨b,o,none⟩ cs (λj v hj=>by rw[add_lit];exact hc j v hj)
   rw[hl]at this;simp[run_sizeOf k,this]
 | false=>
   have h:=h1 hd
   match cs,hl with
   | [c],_=>
     have:=hc 0 c rfl;simp at this;simp[run_load,this]
   | [],hl=>simp at hl;omega
   | _ :: _ :: _,hl=>simp at hl;omega
abbrev SC.ok:SC->Bool
 | .junk=>false
 | _=>true
abbrev Z4(s:St) (G:Gd) (i:TI) (gl:List Bool) (r off:Nat) (K:aW->Prop):Prop:=match dH s.T r with
 | some (Gr,.blk _ cs)=>match oq Gr G with
   | true=>match jB i.desc with
     | true=>match Nat.ble (off+i.size) (aJ cs) with
       | true=>K (.one (.agg (og i.size (GN off cs))))
       | false=>False
     | false=>match Nat.beq i.size 1 with
       | true=>match dH cs off with
         | some x=>K (.one (.c x))
         | none=>False
       | false=>False
   | false=>False
 | some (Gr,.obj _ sh d)=>match oq Gr G with
   | true=>match pI sh d off i.size (jB i.desc) with
     | some q=>K (.one (iG q.1 q.2))
     | none=>False
   | false=>False
 | _=>False
abbrev WS:Bool->Bool->Bool
 | true,_=>true
 | false,b=>b
abbrev loadRow(s:St) (G:Gd) (i:TI) (gl:List Bool) (r j sz off:Nat) (K:aW->Prop):Prop:=match dH s.T r with
 | some (Gr,.row _ sh l)=>match bY (oq Gr G) (Nat.beq sz sh.size) with
   | true=>side gl G (j < l.length)/\∀d:sh.den,side gl G (l[j]?=some d)->match pI sh d off i.size (jB i.desc) with
     | some q=>K (.one (iG q.1 q.2))
     | none=>False
   | false=>False
 | some (Gr,.obj _ sh d0)=>match ny sh d0 off with
   | some p=>match bY (oq Gr G) (Nat.beq sz p.1.size) with
     | true=>side gl G (j < p.2.2.1)/\∀d:p.1.den,side gl G (p.2.1[j]?=some d)->match pI p.1 d p.2.2.2 i.size (jB i.desc) with
       | some q=>K (.one (iG q.1 q.2))
       | none=>False
     | false=>False
   | none=>False
 | _=>False
abbrev Pm(s:St) (G:Gd) (r j:Nat) (K:(e:Sh)->List e.den->Prop):Prop:=match dH s.T r with
 | some (Gr,.deep _ sh l _ e so own hs)=>match oq Gr G with
   | true=>side s.gl G (own j=true/\lC j hs=false/\j < l.length)/\∀d:sh.den,side s.gl G (l[j]?=some d)->match CU sh d so e with
     | some x=>K e x
     | none=>False
   | false=>False
 | _=>False
abbrev L8(s:St) (G:Gd) (i:TI) (r j k sz off:Nat) (K:aW->Prop):Prop:=Pm s G r j λe x=>match Nat.beq sz e.size with
 | true=>side s.gl G (k < x.length)/\∀y:e.den,side s.gl G (x[k]?=some y)->match pI e y off i.size (jB i.desc) with
   | some q=>K (.one (iG q.1 q.2))
   | none=>False
 | false=>False
abbrev Rt(s:St) (G:Gd) (i:TI) (sh:Sh) (l:List sh.den) (so:Nat) (own:Nat->Bool) (hs:List Nat) (r j off:Nat) (K:aW->Prop):Prop:=
 side s.gl G (j < l.length)/\∀d:sh.den,side s.gl G (l[j]?=some d)->match WS (Nat.ble (off+i.size) so) (Nat.ble (so+1) off) with
  | true=>match pI sh d off i.size (jB i.desc) with
    | some q=>K (.one (iG q.1 q.2))
    | none=>False
  | false=>side s.gl G (lC j hs=false)/\(own j=true->match bY (Nat.beq off so) (bY (Nat.beq i.size 1) (!(jB i.desc))) with
   | true=>K (.one (.c (.sub r j)))
   | false=>False)/\(own j=false->match pI sh d off i.size (jB i.desc) with
   | some q=>K (.one (iG q.1 q.2))
   | none=>False)
abbrev qY(cx:Cx) (s:St) (G:Gd) (t:TypeId) (p:SC) (K:aW->Prop):Prop:=match mQ cx.ti t with
 | none=>False
 | some i=>match p with
   | .fp sh d=>match pI sh d 0 i.size (jB i.desc) with
     | some q=>K (.one (iG q.1 q.2))
     | none=>False
   | .own r off=>Z4 s G i s.gl r off K
   | .jh r j sz off=>match dH s.T r with
     | some (Gr,.deep _ sh l _ _ so own hs)=>match bY (oq Gr G) (Nat.beq sz sh.size) with
       | true=>Rt s G i sh l so own hs r j off K
       | false=>False
     | _=>loadRow s G i s.gl r j sz off K
   | .jX r j k sz off=>L8 s G i r j k sz off K
   | _=>False
theorem vZ{s:Sh} (h:s.isAgg=false):s.size=1:=by cases s<;>first | rfl | simp[Sh.isAgg]at h
theorem aI.take{α β:Type}{R:α->β->Prop}:∀{l:List α}{m:List β} (n:Nat),aI R l m->aI R (l.take n) (m.take n)
 | [],[],n,_=>by cases n<;>trivial
 | _ :: _,_ :: _,0,_=>trivial
 | _ :: _,_ :: _,n+1,⟨a,b⟩=>⟨a,aI.take n b⟩
theorem aI.drop{α β:Type}{R:α->β->Prop}:∀{l:List α}{m:List β} (n:Nat),aI R l m->aI R (l.drop n) (m.drop n)
 | [],[],n,_=>by cases n<;>trivial
 | _ :: _,_ :: _,0,h=>h
 | _ :: _,_ :: _,n+1,⟨a,b⟩=>aI.drop n b
theorem fC{cs:List α}{k:Nat}{u:α} (h:((cs.drop off).take k)[j]?=some u):cs[off+j]?=some u:=by
 rw[uh]at h;split at h
 .rwa [Gv]at h
 .cases h
theorem bf{r:Nat}{Gr:Gd}{x:aC} (h:dH s.T r=some (Gr,x)) (hG:gv s.gl Gr=true):(eff s.gl s.T)[r]?=some x:=by
 rw[iT,<-dI,h];simp[jo,hG]
def jL(w w':World):Prop:=w.heap.size<=w'.heap.size/\∀k,k < w.heap.size->w'.heap[k]?=w.heap[k]?
theorem jL.refl(w:World):jL w w:=⟨mZ _,λ_ _=>rfl⟩
theorem jL.trans{a b c:World} (x:jL a b) (y:jL b c):jL a c:=⟨o9 x.1 y.1,λk h=>(y.2 k (Gz h x.1)).trans (x.2 k h)⟩
theorem jL.cell{w w':World} (g:jL w w'){a:Addr}{u:Value} (h:w.cell? a=some u):w'.cell? a=some u:=by
 have hb:=World.block_lt_of_cell? _ _ h;rw[World.cell?_of_block (g.2 _ hb)];exact h
theorem OK.row_of(ok:OK B h0 T h β w){i:Nat}{s:Sh}{l:List s.den} (hT:T[i]?=some (.row t s l)) (hx:dG h β (.row i) y):β[i]?=some (.row y):=by
 obtain⟨v,e,es⟩:=hx;have hold:=ok.holds i _ _ hT e
 match v,hold,es with
 | .row v,_,es=>cases es;exact e
theorem OK.sU(ok:OK B h0 T h β w){i:Nat}{s:Sh}{l:List s.den}{tt:TypeId}{e:Sh}{so:Nat}{own:Nat->Bool}{hs:List Nat}
 (hT:T[i]?=some (.deep t s l tt e so own hs)) (hx:dG h β (.row i) y):∃us,β[i]?=some (.deep y us)/\dN h w t s l tt e so own hs y us:=by
 obtain⟨v,e,es⟩:=hx;have hold:=ok.holds i _ _ hT e
 match v,hold,es with
 | .deep v us,hold,es=>cases es;exact⟨us,e,hold⟩
theorem zX{sh:Sh}{l:List sh.den} (k1:side gl G (j < l.length)):∃d:sh.den,side gl G (l[j]?=some d)/\(gv gl G=true->l[j]?=some d):=by
 by_cases hG:gv gl G=true
 .have:=dU k1 hG;refine⟨l[j],?_,λ_=>kW this⟩
  cases G with
  | nil=>exact kW this
  | cons x g=>exact λ_=>kW this
 .refine⟨dflt sh,?_,λhh=>(hG hh).elim⟩
  cases G with
  | nil=>exact(hG rfl).elim
  | cons x g=>exact λhh=>(hG hh).elim
theorem Ru{p q:Prop} (f:p->q) (h:side gl G p):side gl G q:=by
 cases G with
 | nil=>exact f h
 | cons x g=>exact λhh=>f (h hh)
theorem zl(ah:Sat N B h0 s h β w a){r:Nat}{K:(e:Sh)->List e.den->Prop} (k:Pm s G r j K):
 ∃e x,K e x/\(gv s.gl G=true->∀v us,β[r]?=some (.deep v us)->∃tt,kE h w tt e x (us j)):=by
 unfold Pm at k;split at k
 .rename_i Gr t sh l tt e so own hs hT;split at k
  .rename_i hg;obtain⟨k1,k2⟩:=k;obtain⟨d,d1,d2⟩:=zX (Ru (λq=>q.2.2) k1)
   have k3:=k2 d d1;split at k3
   .rename_i x hx;refine⟨e,x,k3,λhG v us hb=>⟨tt,?_⟩⟩
    obtain⟨o1,o2,o3⟩:=dU k1 hG;have hold:dN h w t sh l tt e so own hs v us:=ah.ok.holds r _ _ (bf hT (dX hg hG)) hb;obtain⟨_,_,h3⟩:=hold;rcases h3 with⟨_,e0⟩ | ⟨_,_,e0⟩ | ⟨g,cap,cur,_,_,_,_,_,_,h6⟩
    .subst e0;simp at o3
    .subst e0;simp at o3
    .have h7:=h6 j d (d2 hG);rw[o1,o2]at h7;obtain⟨d0,x',_,p,_,rw_⟩:=h7;have:=ED p hx;subst this;exact rw_
   .cases k3
  .cases k
 .cases k
theorem zY(hc:bT P cx.ti) (ah:Sat N B h0 s h β w a)
 {p:SC} (k:qY cx s G t p K):
 ∃e,K e/\(gv s.gl G=true->∀pv,dG h β p pv->∃y,(∀w',jL w w'->(Instr.loadAt t pv).run P w'=.ok y w')/\iO h β e y):=by
 unfold qY at k;split at k
 .cases k
 rename_i i hi;have ti:=hc.get hi
 -- reading typed data out of cells
 have typed:∀{b o:Nat}{sh:Sh}{d:sh.den}{cs:List Value}{off:Nat}{q:Sigma Sh.den},Rd h sh cs d->(∀j u,cs[j]?=some u->w.cell? ⟨b,o+j,none⟩=some u) ->
  pI sh d off i.size (jB i.desc)=some q->∃y,(∀w',jL w w'->(Instr.loadAt t (.pointer (some ⟨b,o+off,none⟩))).run P w'=.ok y w')/\iO h β (.one (iG q.1 q.2)) y:=by
  intro b o sh d cs off q r at_ e;obtain⟨q1,q2,q3,q4⟩:=sQ sh e r;have hs:=Rd.size q.1 q1;refine⟨mkV q.1 ((cs.drop off).take i.size),λw' xW=>?_,iH q.1 q1⟩
  have:=fZ (P:=P) ti (w:=w') (b:=b) (o:=o+off) (cs:=(cs.drop off).take i.size) (by rw[hs,q2])
   (λha=>by rw[<-q2];exact vZ (q3.trans ha)) (λj u hj=>by rw[V4];exact xW.cell (at_ _ _ (fC hj)))
  simp only[Instr.loadAt,Instr.sureAddr,Sem.run_bind,Sem.run_pure,Result.andThen_ok,this];unfold mkV;rw[q3]
 split at k
 .rename_i sh d;split at k
  .rename_i q hq;refine⟨_,k,λhG pv hp=>?_⟩
   obtain⟨b,o,cs,rfl,r,at_⟩:=hp;have:=typed (b:=b) (o:=o) (off:=0) r (λj u hj=>zK (ah.ok.hw _ _ _ (at_ j u hj)) (Rd.one _ r u (kT hj)).2) hq
   simpa using this
  .cases k
 .rename_i r off;unfold Z4 at k;split at k
  .rename_i Gr tt cs hT;split at k
   .rename_i hs;split at k
    .rename_i ha;split at k
     .rename_i hle;refine⟨_,k,λhG pv hp=>?_⟩
      obtain⟨b,hb,rfl⟩:=hp;obtain⟨ys,he,hall⟩:=ah.ok.holds r _ _ (bf hT (dX hs hG)) hb;have hlen:=hall.length;have hle:off+i.size<=cs.length:=by have:=lK hle;rwa [aV]at this
      refine⟨.agg ((ys.drop off).take i.size).toArray,λw' xW=>?_,_,rfl,?_⟩
      .have:=fZ (P:=P) ti (w:=w') (b:=b) (o:=off) (cs:=(ys.drop off).take i.size) (by rw[mY,yT];omega) (λh'=>by rw[ha]at h';cases h')
        (λj u hj=>xW.cell (by rw[cell_of_row w b (off+j) ys.toArray tt (0,0) he];simpa using fC hj))
       simp only[Instr.loadAt,Instr.sureAddr,Sem.run_bind,Sem.run_pure,Result.andThen_ok,this,ha,if_true]
      .rw[jc,oh];exact(hall.drop off).take i.size
     .cases k
    .rename_i ha;split at k
     .rename_i h1;split at k
      .rename_i x hx;refine⟨_,k,λhG pv hp=>?_⟩
       obtain⟨b,hb,rfl⟩:=hp;obtain⟨ys,he,hall⟩:=ah.ok.holds r _ _ (bf hT (dX hs hG)) hb;obtain⟨y,hy,hxy⟩:=hall.get (show cs[off]?=some x by rw[<-dI];exact hx)
       refine⟨y,λw' xW=>?_,hxy⟩
       have h1:i.size=1:=gI h1;have:=fZ (P:=P) ti (w:=w') (b:=b) (o:=off) (cs:=[y]) (by rw[h1];rfl) (λ_=>h1)
        (λj u hj=>by
         refine xW.cell ?_;rw[cell_of_row w b (off+j) ys.toArray tt (0,0) he]
         match j,hj with
         | 0,hj=>simp at hj;subst hj;simpa using hy)
       simp only[Instr.loadAt,Instr.sureAddr,Sem.run_bind,Sem.run_pure,Result.andThen_ok,this,ha];rfl
      .cases k
     .cases k
   .cases k
  .rename_i Gr tt sh d hT;split at k
   .rename_i hs;split at k
    .rename_i q hq;refine⟨_,k,λhG pv hp=>?_⟩
     obtain⟨b,hb,rfl⟩:=hp;obtain⟨ys,he,r'⟩:=ah.ok.holds r _ _ (bf hT (dX hs hG)) hb;have:=typed (b:=b) (o:=0) r' (λj u hj=>by rw[cell_of_row w b (0+j) ys.toArray tt (0,0) he];simpa using hj) hq
     simpa using this
    .cases k
   .cases k
  .cases k
 .rename_i r j sz off;split at k
  .rename_i Gr tt sh l t2 e so own hsl hT;split at k
   .rename_i hs;rw[ay,A8]at hs;obtain⟨hs,hz⟩:=hs;have hz:sz=sh.size:=gI hz;obtain⟨k1,k2⟩:=k;obtain⟨d,d1,d2⟩:=zX k1;have k3:=k2 d d1
    -- what is known of the element
    have elem:gv s.gl G=true->∀v g,β[r]?=some v->v.block=some g->∃us cs,β[r]?=some (.deep (match v with | .deep v _=>v | _=>kY) us)/\xK h w sh t2 e so (own j) (lC j hsl) (us j) cs d/\(∀i u,cs[i]?=some u->w.cell? ⟨g,j * sz+i,none⟩=some u):=by
     intro hG v g hb hg;have hold:=ah.ok.holds r _ _ (bf hT (dX hs hG)) hb
     match v,hold,hg with
     | .deep v us,hold,hg=>
       obtain⟨_,_,h3⟩:=hold;rcases h3 with⟨hv,_⟩ | ⟨_,hv,_⟩ | ⟨g',cap,cur,hv,he,_,h4,_,_,h6⟩
       .subst hv;simp[RV.block,au]at hg
       .subst hv;simp[RV.block,au]at hg
       .subst hv;have hg:au (.slice (some ⟨g',0,none⟩) l.length cap)=some g:=hg;rw[aO h4.1]at hg;have hg:g'=g:=VZ hg;subst hg;refine⟨us,_,hb,h6 j d (d2 hG),λi u hi=>?_⟩
        have h5:=fC hi;rw[cell_of_row w g' _ cur tt (0,0) he,hz];simpa using h5
    split at k3
    .rename_i hdis;have hdis:off+i.size<=so\/so+1<=off:=by
      unfold WS at hdis;split at hdis
      .rename_i hh;exact .inl (lK hh)
      .exact .inr (lK hdis)
     split at k3
     .rename_i q hq;refine⟨_,k3,λhG pv hp=>?_⟩
      obtain⟨v,g,hb,hg,rfl⟩:=hp;obtain⟨us,cs,hb',el,at_⟩:=elem hG v g hb hg
      -- with the field emptied it reads as data
      have emp:∃d0 cs0,Rd h sh cs0 d0/\pI sh d0 off i.size (jB i.desc)=some q/\∀i' u,i'≠so->cs0[i']?=some u->cs[i']?=some u:=by
       unfold xK at el;cases hh:lC j hsl with
       | false=>
         rw[hh]at el;cases ho:own j with
         | false=>rw[ho]at el;exact⟨d,cs,el.1,hq,λ_ _ _ x=>x⟩
         | true=>
           rw[ho]at el;obtain⟨d0,x,r0,p,_,_⟩:=el;exact⟨d0,_,r0,vW p hdis hq,λi' u hne hu=>by rwa [kU (Ne.symm hne)]at hu⟩
       | true=>
         rw[hh]at el;obtain⟨_,d0,x,r0,p,_⟩:=el;exact⟨d0,_,r0,vW p hdis hq,λi' u hne hu=>by rwa [kU (Ne.symm hne)]at hu⟩
      obtain⟨d0,cs0,r0,hq0,hc⟩:=emp;obtain⟨q1,q2,q3,q4⟩:=sQ sh hq0 r0;have hsz:=Rd.size q.1 q1;refine⟨mkV q.1 ((cs0.drop off).take i.size),λw' xW=>?_,iH q.1 q1⟩
      have:=fZ (P:=P) ti (w:=w') (b:=g) (o:=j * sz+off) (cs:=(cs0.drop off).take i.size) (by rw[hsz,q2])
       (λha=>by rw[<-q2];exact vZ (q3.trans ha)) (λi' u hj=>by
        have gY:i' < i.size:=by
         rw[uh]at hj;split at hj
         .assumption
         .cases hj
        rw[V4];exact xW.cell (at_ _ _ (hc _ _ (by omega) (fC hj))))
      simp only[Instr.loadAt,Instr.sureAddr,Sem.run_bind,Sem.run_pure,Result.andThen_ok,this];unfold mkV;rw[q3]
     .cases k3
    .obtain⟨m1,m2,m3⟩:=k3;cases ho:own j with
     | true=>
       have m4:=m2 ho;split at m4
       .rename_i hz2;rw[ay,ay,A8,A8]at hz2;have a1:off=so:=gI hz2.1;have a2:i.size=1:=gI hz2.2.1;have a3:jB i.desc=false:=by simpa using hz2.2.2
        refine⟨_,m4,λhG pv hp=>?_⟩
        obtain⟨v,g,hb,hg,rfl⟩:=hp;obtain⟨us,cs,hb',el,at_⟩:=elem hG v g hb hg;rw[ho,dU m1 hG]at el;obtain⟨d0,x,_,_,hu,rh⟩:=el;refine⟨us j,λw' xW=>?_,⟨⟨_,us,hb',rfl⟩,?_⟩⟩
        .have:=fZ (P:=P) ti (w:=w') (b:=g) (o:=j * sz+off) (cs:=[us j]) (by rw[a2];rfl) (λ_=>a2)
          (λi' u hj=>by
           match i',hj with
           | 0,hj=>
             simp at hj;subst hj;rw[a1];exact xW.cell (at_ so _ hu))
         simp only[Instr.loadAt,Instr.sureAddr,Sem.run_bind,Sem.run_pure,Result.andThen_ok,this,a3];rfl
        .rcases rh with⟨e1,_⟩ | ⟨_,e1,_⟩ | ⟨_,_,_,e1,_⟩<;>rw[e1]<;>exact⟨rfl,rfl⟩
       .cases m4
     | false=>
       have m4:=m3 ho;split at m4
       .rename_i q hq;refine⟨_,m4,λhG pv hp=>?_⟩
        obtain⟨v,g,hb,hg,rfl⟩:=hp;obtain⟨us,cs,hb',el,at_⟩:=elem hG v g hb hg;rw[ho,dU m1 hG]at el;exact typed (b:=g) (o:=j * sz) (cs:=cs) el.1 at_ hq
       .cases m4
   .cases k
  unfold loadRow at k;split at k
  .rename_i Gr tt sh l hT;split at k
   .rename_i hs;rw[ay,A8]at hs;obtain⟨hs,hz⟩:=hs;have hz:sz=sh.size:=gI hz;obtain⟨k1,k2⟩:=k;have hd:∃d:sh.den,(gv s.gl G=true->l[j]?=some d):=by
     by_cases hG:gv s.gl G=true
     .have:=dU k1 hG;exact⟨l[j],λ_=>kW this⟩
     .exact⟨dflt sh,λhh=>(hG hh).elim⟩
    obtain⟨d,hd⟩:=hd;have k3:=k2 d (by cases G with | nil=>exact hd rfl | cons x g=>exact hd)
    split at k3
    .rename_i q hq;refine⟨_,k3,λhG pv hp=>?_⟩
     obtain⟨v,g,hb,hg,rfl⟩:=hp;have hold:=ah.ok.holds r _ _ (bf hT (dX hs hG)) hb
     match v,hold with
     | .row v,hold=>
       rcases hold with⟨hv,_⟩ | ⟨_,hv,_⟩ | ⟨g',cap,cur,hv,he,h2,h3,h4,r'⟩
       .subst hv;simp[RV.block,au]at hg
       .subst hv;simp[RV.block,au]at hg
       .subst hv;rw[show RV.block (.row (.slice (some ⟨g',0,none⟩) l.length cap))=some g' from nZ h3.1]at hg
        have hg:g'=g:=VZ hg;subst hg;obtain⟨g1,g2⟩:=r'.get (λ_ _=>Rd.size sh) (hd hG)
        have:=typed (b:=g') (o:=j * sz) (cs:=(((cur.toList.take (l.length * sh.size)).drop (j * sh.size)).take sh.size)) g1 (λi u hi=>by
         have h5:=fC hi;rw[uh]at h5;split at h5
         .rw[cell_of_row w g' _ cur tt (0,0) he,hz];simpa using h5
         .cases h5) hq
        exact this
    .cases k3
   .cases k
  .rename_i Gr tt sh d0 hT;split at k
   .rename_i p hp0;split at k
    .rename_i hs;rw[ay,A8]at hs;obtain⟨hs,hz⟩:=hs;have hz:sz=p.1.size:=gI hz;obtain⟨k1,k2⟩:=k;have hd:∃d:p.1.den,(gv s.gl G=true->p.2.1[j]?=some d):=by
      by_cases hG:gv s.gl G=true
      .have:=dU k1 hG;have hl:p.2.1.length=p.2.2.1:=by
        have eF:=bf hT (dX hs hG);have gY:r < β.length:=by rw[ah.ok.len];exact(eU.1 eF).1
        have hold:=ah.ok.holds r _ _ eF (kW gY)
        match β[r],hold with
        | .blk b,⟨ys,_,r'⟩=>
          obtain⟨base,_,e2,_⟩:=vU sh hp0 r';exact e2
       exact⟨p.2.1[j],λ_=>kW (by omega)⟩
      .exact⟨dflt p.1,λhh=>(hG hh).elim⟩
     obtain⟨d,hd⟩:=hd;have k3:=k2 d (by cases G with | nil=>exact hd rfl | cons x g=>exact hd)
     split at k3
     .rename_i q hq;refine⟨_,k3,λhG pv hp=>?_⟩
      obtain⟨v,g,hb,hg,rfl⟩:=hp;have hold:=ah.ok.holds r _ _ (bf hT (dX hs hG)) hb
      match v,hold with
      | .blk b,⟨ys,he,r'⟩=>
        simp[RV.block]at hg;subst hg;obtain⟨base,e1,e2,e3,e4⟩:=vU sh hp0 r';obtain⟨g1,g2⟩:=e4.get (λ_ _=>Rd.size p.1) (hd hG)
        have:=typed (b:=b) (o:=base+j * sz) (cs:=((((ys.drop base).take (p.2.2.1 * p.1.size)).drop (j * p.1.size)).take p.1.size)) g1 (λi u hi=>by
         have h5:=fC hi;rw[uh]at h5;split at h5
         .rw[Gv]at h5;rw[cell_of_row w b _ ys.toArray tt (0,0) he,hz,V4];simpa using h5
         .cases h5) hq
        rw[show j * sz+off=base+j * sz+p.2.2.2 by omega]
        exact this
     .cases k3
    .cases k
   .cases k
  .cases k
 .rename_i r j k0 sz off;unfold L8 at k;obtain⟨e,x,k1,k2⟩:=zl ah k;split at k1
  .rename_i hz;have hz:sz=e.size:=gI hz;obtain⟨m1,m2⟩:=k1;obtain⟨y,y1,y2⟩:=zX m1;have m3:=m2 y y1;split at m3
   .rename_i q hq;refine⟨_,m3,λhG pv hp=>?_⟩
    obtain⟨v,us,g,hb,hg,rfl⟩:=hp;obtain⟨tt,rh⟩:=k2 hG v us hb;rcases rh with⟨hv,_⟩ | ⟨_,hv,_⟩ | ⟨g',cap,cur,hv,he,h2,h3,h4,r'⟩
    .rw[hv]at hg;simp[au]at hg
    .rw[hv]at hg;simp[au]at hg
    .rw[hv,aO h3.1]at hg;have hg:g'=g:=VZ hg;subst hg;obtain⟨g1,g2⟩:=r'.get (λ_ _=>Rd.size e) (y2 hG)
     exact typed (b:=g') (o:=k0 * sz) (cs:=(((cur.toList.take (x.length * e.size)).drop (k0 * e.size)).take e.size)) g1 (λi u hi=>by
      have h5:=fC hi;rw[uh]at h5;split at h5
      .rw[cell_of_row w g' _ cur tt (0,0) he,hz];simpa using h5
      .cases h5) hq
   .cases m3
  .cases k1
 .cases k
abbrev L9(gl:List Bool) (G:Gd) (sh:Sh) (l:List sh.den) (n:Int) (len:Nat) (K:sh.den->Prop):Prop:=
 side gl G (0<=n/\n < len)/\∀d:sh.den,side gl G (l[n.toNat]?=some d)->K d
theorem zZ{sh:Sh}{l:List sh.den}{len:Nat}{K:sh.den->Prop} (k:L9 gl G sh l n len K) (hl:gv gl G=true->l.length=len):
 ∃d,K d/\(gv gl G=true->(0<=n/\n < len)/\l[n.toNat]?=some d):=by
 obtain⟨k1,k2⟩:=k
 by_cases hG:gv gl G=true
 .have h1:=dU k1 hG;have h2:=hl hG;have h3:n.toNat < l.length:=by omega
  refine⟨l[n.toNat],k2 _ ?_,λ_=>⟨h1,kW h3⟩⟩
  cases G with
  | nil=>exact kW h3
  | cons x g=>exact λ_=>kW h3
 .refine⟨dflt sh,k2 _ ?_,λhh=>(hG hh).elim⟩
  cases G with
  | nil=>exact(hG rfl).elim
  | cons x g=>exact λhh=>(hG hh).elim
abbrev uQ(cx:Cx) (s:St) (G:Gd) (t:TypeId) (x:SC) (n:Int) (K:aW->Prop):Prop:=match mQ cx.ti t with
 | none=>False
 | some i=>match i.desc with
   | .slice el=>match mQ cx.ti el with
     | none=>False
     | some ie=>match x with
       | .sl sh l=>match Nat.beq ie.size sh.size with
         | true=>L9 s.gl G sh l n l.length λd=>K (.one (.c (.fp sh d)))
         | false=>False
       | .row r=>match dH s.T r with
         | some (Gr,.row _ sh l)=>match bY (oq Gr G) (Nat.beq ie.size sh.size) with
           | true=>side s.gl G (0<=n/\n < l.length)/\K (.one (.c (.jh r n.toNat sh.size 0)))
           | false=>False
         | some (Gr,.deep _ sh l _ _ _ _ _)=>match bY (oq Gr G) (Nat.beq ie.size sh.size) with
           | true=>side s.gl G (0<=n/\n < l.length)/\K (.one (.c (.jh r n.toNat sh.size 0)))
           | false=>False
         | _=>False
       | .sub r j=>Pm s G r j λe x=>match Nat.beq ie.size e.size with
         | true=>side s.gl G (0<=n/\n < x.length)/\K (.one (.c (.jX r j n.toNat e.size 0)))
         | false=>False
       | _=>False
   | .array m el=>match mQ cx.ti el with
     | none=>False
     | some ie=>match x with
       | .fp (.arr m' sh) l=>match bY (Nat.beq m m') (Nat.beq ie.size sh.size) with
         | true=>L9 s.gl G sh l n l.length λd=>K (.one (.c (.fp sh d)))
         | false=>False
       | .own r off=>match dH s.T r with
         | some (Gr,.obj _ sh d)=>match ny sh d off with
           | some p=>match bY (oq Gr G) (bY (Nat.beq m p.2.2.1) (Nat.beq ie.size p.1.size)) with
             | true=>side s.gl G (0<=n/\n < m)/\K (.one (.c (.jh r n.toNat p.1.size off)))
             | false=>False
           | none=>False
         | _=>False
       | _=>False
   | _=>False
theorem jP{el:TypeId}{ie:TI} (k:aU P t i) (hd:i.desc=.slice el) (ke:aU P el ie){len:Nat} (h0:0<=n) (h1:n < len):
 (Instr.indexAt t (.slice (some ⟨b,o,none⟩) len cap) (.int ik n)).run P w=.ok (.pointer (some ⟨b,o+n.toNat * ie.size,none⟩)) w:=by
 have hu:=k.CW hd rfl;simp[Instr.indexAt,asIntOf,run_underlying hu,h0,h1,run_sizeOf ke,add_lit]
theorem qA{el:TypeId}{ie:TI}{m:Nat} (k:aU P t i) (hd:i.desc=.array m el) (ke:aU P el ie) (h0:0<=n) (h1:n < m):
 (Instr.indexAt t (.pointer (some ⟨b,o,none⟩)) (.int ik n)).run P w=.ok (.pointer (some ⟨b,o+n.toNat * ie.size,none⟩)) w:=by
 have hu:=k.CW hd rfl;simp[Instr.indexAt,asIntOf,run_underlying hu,Instr.sureAddr,h0,h1,run_sizeOf ke,add_lit]
theorem gq(a:Option Addr):bZ (.pointer a):=⟨rfl,rfl⟩
theorem At.get{α:Type}{h:FH}{b o:Nat}{cs:List Value}{l:List α}{R:List Value->α->Prop}{k j:Nat}{d:α} (hR:∀c d,R c d->c.length=k) (r:eX R cs l) (at_:At h b o cs) (e:l[j]?=some d):
 ∃c,R c d/\At h b (o+j * k) c:=by
 obtain⟨g1,g2⟩:=r.get hR e;exact⟨_,g1,at_.sub _ _⟩
theorem uw(hc:bT P cx.ti) (ah:Sat N B h0 s h β w a)
 {x:SC} (k:uQ cx s G t x n K):
 ∃e,K e/\(gv s.gl G=true->∀xv,dG h β x xv->∃y,(∀w,(Instr.indexAt t xv (.int ik n)).run P w=.ok y w)/\iO h β e y):=by
 unfold uQ at k;split at k
 .cases k
 rename_i i hi;have ti:=hc.get hi;split at k
 .rename_i el hd;split at k
  .cases k
  rename_i ie hie;have tie:=hc.get hie;split at k
  .rename_i sh l;split at k
   .rename_i hz;have hz:ie.size=sh.size:=gI hz;obtain⟨d,k1,k2⟩:=zZ k λ_=>rfl
    refine⟨_,k1,λhG xv hx=>?_⟩
    obtain⟨⟨h1,h2⟩,h3⟩:=k2 hG;rcases hx with⟨rfl,rfl⟩ | ⟨_,_,rfl,rfl,_⟩ | ⟨b,off,cap,rfl,q1,q2,cs,r,at_⟩
    .simp at h3
    .simp at h3
    .obtain⟨c,g1,g2⟩:=at_.get (λ_ _=>Rd.size sh) r h3
     refine⟨_,λ_=>jP ti hd tie h1 h2,⟨b,_,c,rfl,g1,?_⟩,gq _⟩
     rw[hz];exact g2
   .cases k
  .rename_i r;split at k
   .rename_i Gr tt sh l hT;split at k
    .rename_i hs;rw[ay,A8]at hs;obtain⟨hs,hz⟩:=hs;have hz:ie.size=sh.size:=gI hz;refine⟨_,k.2,λhG xv hx=>?_⟩
     obtain⟨h1,h2⟩:=dU k.1 hG;have hx':=ah.ok.row_of (bf hT (dX hs hG)) hx;rcases ah.ok.holds r _ _ (bf hT (dX hs hG)) hx' with⟨rfl,rfl⟩ | ⟨_,rfl,rfl⟩ | ⟨g,cap,cur,rfl,_,_,hcp,_⟩
     .simp at h2;omega
     .simp at h2;omega
     .refine⟨_,λ_=>jP ti hd tie h1 h2,⟨_,g,hx',nZ hcp.1,?_⟩,gq _⟩
      simp[hz]
    .cases k
   .rename_i Gr tt sh l t2 e so own hsl hT;split at k
    .rename_i hs;rw[ay,A8]at hs;obtain⟨hs,hz⟩:=hs;have hz:ie.size=sh.size:=gI hz;refine⟨_,k.2,λhG xv hx=>?_⟩
     obtain⟨h1,h2⟩:=dU k.1 hG;obtain⟨us,hx',_,_,hold⟩:=ah.ok.sU (bf hT (dX hs hG)) hx;rcases hold with⟨rfl,rfl⟩ | ⟨_,rfl,rfl⟩ | ⟨g,cap,cur,rfl,_,_,hcp,_⟩
     .simp at h2;omega
     .simp at h2;omega
     .refine⟨_,λ_=>jP ti hd tie h1 h2,⟨_,g,hx',aO (n:=l.length) hcp.1,?_⟩,gq _⟩
      simp[hz]
    .cases k
   .cases k
  .rename_i r j;obtain⟨e,x,k1,k2⟩:=zl ah k;split at k1
   .rename_i hz;have hz:ie.size=e.size:=gI hz;refine⟨_,k1.2,λhG xv hx=>?_⟩
    obtain⟨h1,h2⟩:=dU k1.1 hG;obtain⟨v,us,hb,rfl⟩:=hx;obtain⟨tt,rh⟩:=k2 hG v us hb;rcases rh with⟨_,rfl⟩ | ⟨_,_,rfl⟩ | ⟨g,cap,cur,hv,_,_,hcp,_⟩
    .simp at h2;omega
    .simp at h2;omega
    .rw[hv];refine⟨_,λ_=>jP ti hd tie h1 h2,⟨v,us,g,hb,by rw[hv];exact aO (n:=x.length) hcp.1,?_⟩,gq _⟩
     simp[hz]
   .cases k1
  .cases k
 .rename_i m el hd;split at k
  .cases k
  rename_i ie hie;have tie:=hc.get hie;split at k
  .rename_i m' sh l;split at k
   .rename_i hz;rw[ay,A8]at hz;have hm:m=m':=gI hz.1;have hz':ie.size=sh.size:=gI hz.2;subst hm;obtain⟨d,k1,k2⟩:=zZ k λ_=>rfl
    refine⟨_,k1,λhG xv hx=>?_⟩
    obtain⟨⟨h1,h2⟩,h3⟩:=k2 hG;obtain⟨b,o,cs,rfl,⟨hl,r⟩,at_⟩:=hx;obtain⟨c,g1,g2⟩:=at_.get (λ_ _=>Rd.size sh) r h3
    refine⟨_,λ_=>qA ti hd tie h1 (by omega),⟨b,_,c,rfl,g1,?_⟩,gq _⟩
    rw[hz'];exact g2
   .cases k
  .rename_i r off;split at k
   .rename_i Gr tt sh d hT;split at k
    .rename_i p hp;split at k
     .rename_i hs;rw[ay,ay,A8,A8]at hs;obtain⟨hs,hm,hz⟩:=hs;have hm:m=p.2.2.1:=gI hm;have hz:ie.size=p.1.size:=gI hz;refine⟨_,k.2,λhG xv hx=>?_⟩
      obtain⟨h1,h2⟩:=dU k.1 hG;obtain⟨b,hb,rfl⟩:=hx;refine⟨_,λ_=>qA ti hd tie h1 h2,⟨_,b,hb,rfl,?_⟩,gq _⟩
      rw[hz,Q9]
     .cases k
    .cases k
   .cases k
  .cases k
 .cases k
abbrev Js(cx:Cx) (s:St) (G:Gd) (t:TypeId) (x:SV) (n:Int) (K:aW->Prop):Prop:=match mQ cx.ti t with
 | none=>False
 | some i=>match i.desc with
   | .string=>match x with
     | .c (.v (.string b))=>side s.gl G (0<=n/\n < b.size)/\∀u:UInt8,side s.gl G (b[n.toNat]?=some u)->K (vI .u8 u.toNat)
     | _=>False
   | .array m el=>match mQ cx.ti el with
     | none=>False
     | some ie=>match x with
       | .dat (.arr m' sh) l=>match bY (Nat.beq m m') (bY (Nat.beq ie.size sh.size) (O9 (jB ie.desc) sh.isAgg)) with
         | true=>L9 s.gl G sh l n l.length λd=>K (.one (iG sh d))
         | false=>False
       | _=>False
   | _=>False
theorem wo(k:aU P t i){c:List Value} (hc:c.length=i.size) (h1:jB i.desc=false->i.size=1) (he:(cs.drop o).take i.size=c):
 (part t cs.toArray o).run P w=.ok (if jB i.desc=true then .agg c.toArray else c.headD undef) w:=by
 unfold part;rw[Sem.run_bind,Dt k];simp only[Result.andThen_ok];cases hd:jB i.desc with
 | true=>
   simp only[if_true,Sem.run_bind,run_sizeOf k,Result.andThen_ok,Sem.run_pure]
   congr 2
   simp only[List.extract_toArray,List.extract_eq_take_drop,Nat.add_sub_cancel_left];rw[he]
 | false=>
   have h:=h1 hd
   match c,hc,he with
   | [u],_,he=>
     have:cs[o]?=some u:=by
      have e1:((cs.drop o).take i.size)[0]?=some u:=by rw[he];rfl
      exact fC e1
     simp[this]
   | [],hc,_=>simp at hc;omega
   | _ :: _ :: _,hc,_=>simp at hc;omega
theorem Pn(hc:bT P cx.ti)
 {x:SV} (k:Js cx s G t x n K):
 ∃e,K e/\(gv s.gl G=true->∀w xv,bV h β x xv->∃y,(Instr.index t xv (.int ik n)).run P w=.ok y w/\iO h β e y):=by
 unfold Js at k;split at k
 .cases k
 rename_i i hi;have ti:=hc.get hi;split at k
 .rename_i hd;split at k
  .rename_i b;obtain⟨k1,k2⟩:=k;have hu:∃u:UInt8,(gv s.gl G=true->(0<=n/\n < b.size)/\b[n.toNat]?=some u):=by
    by_cases hG:gv s.gl G=true
    .have h1:=dU k1 hG;have h2:n.toNat < b.size:=by omega
     exact⟨b[n.toNat],λ_=>⟨h1,by simp[h2]⟩⟩
    .exact⟨0,λhh=>(hG hh).elim⟩
   obtain⟨u,hu⟩:=hu;refine⟨_,k2 u (by cases G with | nil=>exact(hu rfl).2 | cons x g=>exact λhh=>(hu hh).2),λhG w xv hx=>?_⟩
   obtain⟨⟨h1,h2⟩,h3⟩:=hu hG;obtain⟨⟨rfl,_⟩,_⟩:=hx;refine⟨_,?_,⟨rfl,bD _ _⟩,bD _ _⟩;have hu:=ti.CW hd rfl;simp[Instr.index,asIntOf,run_underlying hu,h1,h3]
  .cases k
 .rename_i m el hd;split at k
  .cases k
  rename_i ie hie;have tie:=hc.get hie;split at k
  .rename_i m' sh l;split at k
   .rename_i hz;rw[ay,ay,A8,A8]at hz;have hm:m=m':=gI hz.1;have hs:ie.size=sh.size:=gI hz.2.1;have ha:=Eu hz.2.2;subst hm;obtain⟨d,k1,k2⟩:=zZ k λ_=>rfl
    refine⟨_,k1,λhG w xv hx=>?_⟩
    obtain⟨⟨h1,h2⟩,h3⟩:=k2 hG;obtain⟨_,cs,rfl,hl,r⟩:=hx;obtain⟨g1,g2⟩:=r.get (λ_ _=>Rd.size sh) h3
    have hu:=ti.CW hd rfl;have hp:=wo (P:=P) tie (w:=w) (cs:=cs) (o:=n.toNat * ie.size) (c:=(cs.drop (n.toNat * sh.size)).take sh.size) (by rw[Rd.size sh g1,hs]) (λhh=>by rw[hs];exact vZ (by rw[<-ha];exact hh)) (by rw[hs])
    refine⟨mkV sh ((cs.drop (n.toNat * sh.size)).take sh.size),?_,iH sh g1⟩;have h4:n < m:=by omega
    simp only[Instr.index,asIntOf,Sem.run_bind,Sem.run_pure,Result.andThen_ok,run_underlying hu,h1,h4,and_self,if_true,run_sizeOf tie,hp];unfold mkV;rw[ha]
   .cases k
  .cases k
 .cases k
abbrev nC(i:TI) (f:Nat):Option Field:=match i.desc with
 | .struct fs=>dH (tl fs) f
 | _=>none
abbrev uS(cx:Cx) (s:St) (G:Gd) (t:TypeId) (x:SC) (f:Nat) (K:aW->Prop):Prop:=match mQ cx.ti t with
 | none=>False
 | some i=>match nC i f with
   | none=>False
   | some fd=>match mQ cx.ti fd.type with
     | none=>False
     | some fi=>match Nat.beq fi.size 0 with
       | true=>False
       | false=>match x with
         | .own r off=>K (.one (.c (.own r (off+fd.offset))))
         | .jh r j sz off=>K (.one (.c (.jh r j sz (off+fd.offset))))
         | .jX r j k sz off=>K (.one (.c (.jX r j k sz (off+fd.offset))))
         | .fp sh d=>match pI sh d fd.offset fi.size (jB fi.desc) with
           | some q=>K (.one (.c (.fp q.1 q.2)))
           | none=>False
         | _=>False
theorem GV{fd:Field} (h:nC i f=some fd):∃fs,i.desc=.struct fs/\fs[f]?=some fd:=by
 unfold nC at h;split at h
 .rename_i fs hd;refine⟨fs,hd,?_⟩;rw[dI]at h;cases fs with | mk l=>simpa using h
 .cases h
theorem Aa(k:aU P t i){fd:Field} (h:nC i f=some fd):∃fs fd0,P.underlying t=some (.struct fs)/\fs[f]?=some fd0/\fd0.type=fd.type/\fd0.offset=fd.offset:=by
 obtain⟨fs,hd,hfs⟩:=GV h;obtain⟨fs0,h1,rfl⟩:=k.EF hd;rw[Array.getElem?_map]at hfs;cases h0:fs0[f]? with
 | none=>rw[h0]at hfs;cases hfs
 | some fd0=>rw[h0]at hfs;cases hfs;exact⟨fs0,fd0,h1,h0,rfl,rfl⟩
theorem nD{fi:TI}{fd:Field} (k:aU P t i) (hf:nC i f=some fd) (kf:aU P fd.type fi) (hz:Nat.beq fi.size 0=false):
 (Instr.fieldAt t (.pointer (some ⟨b,o,none⟩)) f).run P w=.ok (.pointer (some ⟨b,o+fd.offset,none⟩)) w:=by
 obtain⟨fs,fd0,hu,hfs,e1,e2⟩:=Aa k hf;have hz:¬fi.size=0:=λh=>by rw[h]at hz;cases hz
 simp[Instr.fieldAt,run_underlying hu,hfs,Instr.sureAddr,fieldPlace,e1,e2,run_sizeOf kf,hz,add_lit]
theorem uy(hc:bT P cx.ti)
 {x:SC} (k:uS cx s G t x f K):
 ∃e,K e/\(gv s.gl G=true->∀xv,dG h β x xv->∃y,(∀w,(Instr.fieldAt t xv f).run P w=.ok y w)/\iO h β e y):=by
 unfold uS at k;split at k
 .cases k
 rename_i i hi;split at k
 .cases k
 rename_i fd hf;split at k
 .cases k
 rename_i fi hfi;split at k
 .cases k
 rename_i hz;have ti:=hc.get hi;have Z5:=hc.get hfi;split at k
 .refine⟨_,k,λhG xv hx=>?_⟩
  obtain⟨b,hb,rfl⟩:=hx;exact⟨_,λ_=>nD ti hf Z5 hz,⟨b,hb,rfl⟩,gq _⟩
 .refine⟨_,k,λhG xv hx=>?_⟩
  obtain⟨v,g,hb,hg,rfl⟩:=hx;exact⟨_,λ_=>nD ti hf Z5 hz,⟨v,g,hb,hg,by rw[V4]⟩,gq _⟩
 .refine⟨_,k,λhG xv hx=>?_⟩
  obtain⟨v,us,g,hb,hg,rfl⟩:=hx;exact⟨_,λ_=>nD ti hf Z5 hz,⟨v,us,g,hb,hg,by rw[V4]⟩,gq _⟩
 .rename_i sh d;split at k
  .rename_i q hq;refine⟨_,k,λhG xv hx=>?_⟩
   obtain⟨b,o,cs,rfl,r,at_⟩:=hx;obtain⟨q1,q2,q3,q4⟩:=sQ sh hq r;exact⟨_,λ_=>nD ti hf Z5 hz,⟨b,_,_,rfl,q1,at_.sub _ _⟩,gq _⟩
  .cases k
 .cases k
abbrev Jt(cx:Cx) (t:TypeId) (x:SV) (f:Nat) (K:aW->Prop):Prop:=match mQ cx.ti t with
 | none=>False
 | some i=>match nC i f with
   | none=>False
   | some fd=>match mQ cx.ti fd.type with
     | none=>False
     | some fi=>match x with
       | .agg xs=>match Nat.ble (fd.offset+fi.size) (aJ xs) with
         | true=>match jB fi.desc with
           | true=>K (.one (.agg (og fi.size (GN fd.offset xs))))
           | false=>match Nat.beq fi.size 1 with
             | true=>match dH xs fd.offset with
               | some c=>K (.one (.c c))
               | none=>False
             | false=>False
         | false=>False
       | .dat sh d=>match pI sh d fd.offset fi.size (jB fi.desc) with
         | some q=>K (.one (iG q.1 q.2))
         | none=>False
       | _=>False
theorem Po(hc:bT P cx.ti)
 {x:SV} (k:Jt cx t x f K):
 ∃e,K e/\(gv s.gl G=true->∀w xv,bV h β x xv->∃y,(Instr.field t xv f).run P w=.ok y w/\iO h β e y):=by
 unfold Jt at k;split at k
 .cases k
 rename_i i hi;split at k
 .cases k
 rename_i fd hf;split at k
 .cases k
 rename_i fi hfi;have ti:=hc.get hi;have Z5:=hc.get hfi;obtain⟨fs,fd0,hu,hfs,e1,e2⟩:=Aa ti hf;have run:∀(w:World) (cs:List Value),(Instr.field t (.agg cs.toArray) f).run P w=(part fd.type cs.toArray fd.offset).run P w:=by
  intro w cs;simp[Instr.field,run_underlying hu,hfs,asAgg,e1,e2]
 split at k
 .rename_i xs;split at k
  .rename_i hle;split at k
   .rename_i ha;refine⟨_,k,λhG w xv hx=>?_⟩
    obtain⟨ys,rfl,hall⟩:=hx;have hlen:=hall.length;have hle:fd.offset+fi.size<=xs.length:=by have:=lK hle;rwa [aV]at this
    refine⟨.agg ((ys.drop fd.offset).take fi.size).toArray,?_,_,rfl,?_⟩
    .rw[run,wo Z5 (by rw[mY,yT];omega) (λhh=>by rw[ha]at hh;cases hh) rfl,ha];rfl
    .rw[jc,oh];exact(hall.drop _).take _
   .rename_i ha;split at k
    .rename_i h1;have h1:fi.size=1:=gI h1;split at k
     .rename_i c hcx;refine⟨_,k,λhG w xv hx=>?_⟩
      obtain⟨ys,rfl,hall⟩:=hx;obtain⟨y,hy,hxy⟩:=hall.get (show xs[fd.offset]?=some c by rw[<-dI];exact hcx)
      have he:(ys.drop fd.offset).take fi.size=[y]:=by
       rw[h1];obtain⟨gY,hyy⟩:=eU.1 hy;rw[List.drop_eq_getElem_cons gY,aaS,OW,hyy]
      refine⟨y,?_,hxy⟩;rw[run,wo Z5 (c:=[y]) (by rw[h1];rfl) (λ_=>h1) he,ha];rfl
     .cases k
    .cases k
  .cases k
 .rename_i sh d;split at k
  .rename_i q hq;refine⟨_,k,λhG w xv hx=>?_⟩
   obtain⟨_,cs,rfl,r⟩:=hx;obtain⟨q1,q2,q3,q4⟩:=sQ sh hq r;refine⟨mkV q.1 ((cs.drop fd.offset).take fi.size),?_,iH q.1 q1⟩;rw[run,wo Z5 (c:=(cs.drop fd.offset).take fi.size) (by rw[Rd.size q.1 q1,q2]) (λhh=>by rw[<-q2];exact vZ (q3.trans hh)) rfl]
   unfold mkV;rw[q3]
  .cases k
 .cases k
abbrev unK(gl:List Bool) (G:Gd) (op:UnOp) (x:Value) (K:aW->Prop):Prop:=match op with
 | .not=>match x with
   | .bool b=>K (vB (!b))
   | _=>False
 | .neg=>match x with
   | .int k n=>arith gl G k (0 - n) K
   | _=>False
 | _=>False
theorem Rw{op:UnOp}{x:Value} (k:unK gl G op x K):Good gl G P (Op.unary op x) K:=by
 unfold unK at k;split at k
 .split at k
  .exact⟨_,k,bU _,λ_ w=>rfl⟩
  .cases k
 .split at k
  .exact vY k λ_ w=>rfl
  .cases k
 .cases k
abbrev descOf(cx:Cx) (t:TypeId):TypeDesc:=match mQ cx.ti t with
 | some i=>i.desc
 | none=>.invalid
abbrev Rx(cx:Cx) (gl:List Bool) (G:Gd) (src dst:TypeId) (x:Value) (K:aW->Prop):Prop:=match mQ cx.ti src with
 | none=>False
 | some _=>match descOf cx dst with
   | .int k=>match x with
     | .int _ n=>arith gl G k n K
     | _=>False
   | .string=>match x with
     | .string b=>K (vS b)
     | _=>False
   | _=>False
theorem bg(hc:bT P cx.ti){d:TypeDesc} (h:descOf cx t=d) (hd:d≠.invalid) (hs:aff d=false:=by rfl):P.underlying t=some d:=by
 unfold descOf at h;split at h
 .rename_i i hi;exact(hc.get hi).CW h hs
 .exact(hd h.symm).elim
theorem Ry(hc:bT P cx.ti){src dst:TypeId}{x:Value} (k:Rx cx gl G src dst x K):
 Good gl G P (convert src dst x) K:=by
 unfold Rx at k;split at k
 .cases k
 rename_i i hi;obtain⟨d0,hs,_⟩:=(hc.get hi).und;split at k
 .rename_i kd hd;have hu:=bg hc hd (by simp)
  split at k
  .refine vY k λ_ w=>?_
   simp[convert,run_underlying hs,run_underlying hu,Conv.intToInt]
  .cases k
 .rename_i hd;have hu:=bg hc hd (by simp)
  split at k
  .refine⟨_,k,fA _,λ_ w=>?_⟩
   simp only[convert,Sem.run_bind,run_underlying hs,run_underlying hu,Result.andThen_ok];rfl
  .cases k
 .cases k
abbrev aa1(cx:Cx) (s:St) (G:Gd) (t:TypeId) (x:SV) (K:aW->Prop):Prop:=match descOf cx t with
 | .slice _=>match x with
   | .c (.sl _ l)=>K (vI .i64 l.length)
   | .c (.row r)=>match dH s.T r with
     | some (Gr,.row _ _ l)=>match oq Gr G with
       | true=>K (vI .i64 l.length)
       | false=>False
     | some (Gr,.deep _ _ l _ _ _ _ _)=>match oq Gr G with
       | true=>K (vI .i64 l.length)
       | false=>False
     | _=>False
   | .c (.sub r j)=>Pm s G r j λ_ x=>K (vI .i64 x.length)
   | .c (.v (.slice _ n _))=>K (vI .i64 n)
   | _=>False
 | .string=>match x with
   | .c (.v (.string b))=>K (vI .i64 b.size)
   | _=>False
 | .array n _=>K (vI .i64 n)
 | _=>False
theorem Mc(hc:bT P cx.ti) (ah:Sat N B h0 s h β w a)
 {ty:TypeId}{x:SV} (k:aa1 cx s G t x K):
 ∃e,K e/\(gv s.gl G=true->∀xv,bV h β x xv->∃y,(∀w,(Builtin.len_ #[t] ty #[xv]).run P w=.ok y w)/\iO h β e y):=by
 have int:∀n:Nat,iO h β (vI .i64 (n:Int)) (goInt n):=λn=>⟨⟨rfl,bD _ _⟩,bD _ _⟩
 unfold aa1 at k;split at k
 .rename_i el hd;have hu:=bg hc hd (by simp)
  split at k
  .rename_i sh l;refine⟨_,k,λhG xv hx=>?_⟩
   rcases hx.1 with⟨rfl,rfl⟩ | ⟨_,_,rfl,rfl,_⟩ | ⟨b,off,cap,rfl,_⟩
   .exact⟨_,λ_=>by simp[Builtin.len_,run_underlying hu],int 0⟩
   .exact⟨_,λ_=>by simp[Builtin.len_,run_underlying hu],int 0⟩
   .exact⟨_,λ_=>by simp[Builtin.len_,run_underlying hu],int _⟩
  .rename_i r;split at k
   .rename_i Gr tt sh l hT;split at k
    .rename_i hs;refine⟨_,k,λhG xv hx=>?_⟩
     rcases ah.ok.holds r _ _ (bf hT (dX hs hG)) (ah.ok.row_of (bf hT (dX hs hG)) hx.1) with⟨rfl,rfl⟩ | ⟨_,rfl,rfl⟩ | ⟨g,cap,cur,rfl,_⟩
     .exact⟨_,λ_=>by simp[Builtin.len_,run_underlying hu],int 0⟩
     .exact⟨_,λ_=>by simp[Builtin.len_,run_underlying hu],int 0⟩
     .exact⟨_,λ_=>by simp[Builtin.len_,run_underlying hu],int _⟩
    .cases k
   .rename_i Gr tt sh l t2 e so own hsl hT;split at k
    .rename_i hs;refine⟨_,k,λhG xv hx=>?_⟩
     obtain⟨us,_,_,_,hold⟩:=ah.ok.sU (bf hT (dX hs hG)) hx.1;rcases hold with⟨rfl,rfl⟩ | ⟨_,rfl,rfl⟩ | ⟨g,cap,cur,rfl,_⟩
     .exact⟨_,λ_=>by simp[Builtin.len_,run_underlying hu],int 0⟩
     .exact⟨_,λ_=>by simp[Builtin.len_,run_underlying hu],int 0⟩
     .exact⟨_,λ_=>by simp[Builtin.len_,run_underlying hu],int _⟩
    .cases k
   .cases k
  .rename_i r j;obtain⟨e,x,k1,k2⟩:=zl ah k;refine⟨_,k1,λhG xv hx=>?_⟩
   obtain⟨⟨v,us,hb,rfl⟩,_⟩:=hx;obtain⟨tt,rh⟩:=k2 hG v us hb;rcases rh with⟨hv,rfl⟩ | ⟨_,hv,rfl⟩ | ⟨g,cap,cur,hv,_⟩
   .rw[hv];exact⟨_,λ_=>by simp[Builtin.len_,run_underlying hu],int 0⟩
   .rw[hv];exact⟨_,λ_=>by simp[Builtin.len_,run_underlying hu],int 0⟩
   .rw[hv];exact⟨_,λ_=>by simp[Builtin.len_,run_underlying hu],int _⟩
  .rename_i a n c;refine⟨_,k,λhG xv hx=>?_⟩
   obtain⟨⟨rfl,_⟩,_⟩:=hx;exact⟨_,λ_=>by simp[Builtin.len_,run_underlying hu],int _⟩
  .cases k
 .rename_i hd;have hu:=bg hc hd (by simp)
  split at k
  .refine⟨_,k,λhG xv hx=>?_⟩
   obtain⟨⟨rfl,_⟩,_⟩:=hx;exact⟨_,λ_=>by simp[Builtin.len_,run_underlying hu],int _⟩
  .cases k
 .rename_i n el hd;have hu:=bg hc hd (by simp)
  refine⟨_,k,λhG xv hx=>⟨_,λ_=>by simp[Builtin.len_,run_underlying hu],int _⟩⟩
 .cases k
abbrev CX(cx:Cx) (s:St) (G:Gd) (o:Option Operand) (d:Int):Option Int:=match o with
 | none=>some d
 | some x=>match bI cx s G x with
   | some (.one (.c (.v (.int _ n))))=>some n
   | _=>none
abbrev Ju(cx:Cx) (s:St) (G:Gd) (t:TypeId) (x:SV) (lo hi:Option Operand) (K:aW->Prop):Prop:=match descOf cx t with
 | .slice el=>match mQ cx.ti el with
   | none=>False
   | some ie=>match x with
     | .c (.sl sh l)=>match Nat.beq ie.size sh.size with
       | true=>match CX cx s G lo 0 with
         | some a=>match CX cx s G hi l.length with
           | some b=>side s.gl G (0<=a/\a<=b/\b<=l.length)/\K (.one (.c (.sl sh ((l.take b.toNat).drop a.toNat))))
           | none=>False
         | none=>False
       | false=>False
     | _=>False
 | .string=>match x with
   | .c (.v (.string u))=>match CX cx s G lo 0 with
     | some a=>match CX cx s G hi u.size with
       | some b=>side s.gl G (0<=a/\a<=b/\b<=u.size)/\K (vS (u.extract a.toNat b.toNat))
       | none=>False
     | none=>False
   | _=>False
 | _=>False
theorem Md(ah:Sat N B h0 s h β w a) (hg:aG cx.gd h) (hG:gv s.gl G=true)
 {o:Option Operand}{d:Int} (k:CX cx s G o d=some n):(o=none/\n=d)\/∃x ik,o=some x/\a.eval x=.int ik n:=by
 unfold CX at k;split at k
 .cases k;exact .inl ⟨rfl,rfl⟩
 .rename_i x;split at k
  .rename_i ik m hx;cases k;obtain⟨⟨e,_⟩,_⟩:=aH ah hg hG hx;exact .inr ⟨x,ik,rfl,e⟩
  .cases k
theorem lX{isS:Bool}{len:Nat}{lo hi:Option Value}{a b:Int} (hlo:(lo=none/\a=0)\/∃k,lo=some (.int k a)) (hhi:(hi=none/\b=len)\/∃k,hi=some (.int k b))
 (h:0<=a/\a<=b/\b<=len) (hc:len<=cap):(Instr.sliceBounds isS len cap lo hi none).run P w=.ok (a.toNat,b.toNat,cap) w:=by
 unfold Instr.sliceBounds;have hb:(0:Int)<=b/\b<=cap:=by omega
 have ha:0<=a/\a<=b.toNat:=by omega
 rcases hlo with⟨rfl,rfl⟩ | ⟨k,rfl⟩<;>rcases hhi with⟨rfl,rfl⟩ | ⟨k',rfl⟩
 .simp
 .simp[Instr.sliceBound,asIntOf,hb]
 .have:0<=a/\a<=(len:Int):=by omega
  simp[Instr.sliceBound,asIntOf,this]
 .have ha':a<=max b 0:=by omega
  have hn:¬(max b 0 < a):=by omega
  simp[Instr.sliceBound,asIntOf,hb,ha,hn]
theorem eX.qZ{R:List Value->α->Prop}{k:Nat} (hR:∀c d,R c d->c.length=k){l:List α} (r:eX R cs l){a:Nat} (hab:a<=b) (hb:b<=l.length):
 eX R ((cs.take (b * k)).drop (a * k)) ((l.take b).drop a):=by
 have h1:eX R (cs.take (b * k)) (l.take b):=by
  have r':=r;rw[<-VX b l]at r';have:=(eX.split hR r').1
  rwa [mY,Ji hb]at this
 have r2:=h1;rw[<-VX a (l.take b)]at r2;have:=(eX.split hR r2).2
 rwa [mY,mY,Ji hb,Ji hab]at this
theorem At.shift(x:At h b o cs) (n i:Nat):At h b (o+i) ((cs.take n).drop i):=by
 intro j u e;rw[Gv,uh]at e;split at e
 .rw[V4];exact x _ _ e
 .cases e
theorem Pq(hc:bT P cx.ti) (ah:Sat N B h0 s h β w a) (hg:aG cx.gd h)
 {x:SV}{lo hi:Option Operand} (k:Ju cx s G t x lo hi K):
 ∃e,K e/\(gv s.gl G=true->∀xv,bV h β x xv->∃y,(Instr.sliceAt t xv (lo.map a.eval) (hi.map a.eval) none).run P w=.ok y w/\iO h β e y):=by
 have bnd:∀{o:Option Operand}{d n:Int},gv s.gl G=true->CX cx s G o d=some n->(o.map a.eval=none/\n=d)\/∃k,o.map a.eval=some (.int k n):=by
  intro o d n hG e;rcases Md ah hg hG e with⟨rfl,rfl⟩ | ⟨x,ik,rfl,e'⟩
  .exact .inl ⟨rfl,rfl⟩
  .exact .inr ⟨ik,by simp[e']⟩
 unfold Ju at k;split at k
 .rename_i el hd;have hu:=bg hc hd (by simp)
  split at k
  .cases k
  rename_i ie hie;have tie:=hc.get hie;split at k
  .rename_i sh l;split at k
   .rename_i hz;have hz:ie.size=sh.size:=gI hz;split at k
    .rename_i p hp;split at k
     .rename_i q hq;refine⟨_,k.2,λhG xv hx=>?_⟩
      have hb:=dU k.1 hG;have run:∀(ad:Option Addr) (len cap:Nat),l.length=len->len<=cap->(Instr.sliceAt t (.slice ad len cap) (lo.map a.eval) (hi.map a.eval) none).run P w =
       .ok (.slice (if cap=p.toNat then ad else ad.map (·.add (p.toNat * ie.size))) (q.toNat - p.toNat) (cap - p.toNat)) w:=by
       intro ad len cap hl hle;have:=lX (P:=P) (w:=w) (isS:=true) (len:=len) (cap:=cap) (bnd hG hp) (by rw[<-hl];exact bnd hG hq) (by rw[<-hl];exact hb) hle
       simp only[Instr.sliceAt,Instr.slice,Sem.run_bind,run_underlying hu,Result.andThen_ok,this,run_sizeOf tie,Sem.run_pure]
      rcases hx.1 with⟨rfl,rfl⟩ | ⟨ad,cap,rfl,rfl,q2⟩ | ⟨b,off,cap,rfl,q1,q2,cs,r,at_⟩
      .have h1:p.toNat=0:=by simp at hb;omega
       have h2:q.toNat=0:=by simp at hb;omega
       refine⟨_,run none 0 0 rfl (mZ 0),⟨.inl ⟨?_,by simp⟩,?_⟩⟩
       .rw[h1,h2];rfl
       .exact⟨rfl,rfl⟩
      .have h1:p.toNat=0:=by simp at hb;omega
       have h2:q.toNat=0:=by simp at hb;omega
       refine⟨_,run _ 0 cap rfl (zJ _),⟨.inr (.inl ⟨if cap=p.toNat then ad else ad.add (p.toNat * ie.size),cap - p.toNat,?_,by simp,by omega⟩),⟨rfl,rfl⟩⟩⟩
       rw[h2];split<;>simp
      .refine⟨_,run _ _ cap rfl q1,⟨.inr (.inr ?_),⟨rfl,rfl⟩⟩⟩;have hlen:((l.take q.toNat).drop p.toNat).length=q.toNat - p.toNat:=by
        rw[yT,mY];omega
       by_cases hcp:cap=p.toNat
       .refine⟨b,off,cap - p.toNat,?_,?_,by omega,[],?_,?_⟩
        .rw[if_pos hcp,hlen]
        .rw[hlen];omega
        .have:(l.take q.toNat).drop p.toNat=[]:=QL (by rw[hlen];omega)
         rw[this];rfl
        .intro j u e;simp at e
       .refine⟨b,off+p.toNat * ie.size,cap - p.toNat,?_,?_,by omega,_,eX.qZ (λ_ _=>Rd.size sh) r (a:=p.toNat) (b:=q.toNat) (by omega) (by omega),?_⟩
        .rw[if_neg hcp,hlen];simp[add_lit]
        .rw[hlen];omega
        .rw[hz];exact at_.shift _ _
     .cases k
    .cases k
   .cases k
  .cases k
 .rename_i hd;have hu:=bg hc hd (by simp)
  split at k
  .rename_i u;split at k
   .rename_i p hp;split at k
    .rename_i q hq;refine⟨_,k.2,λhG xv hx=>?_⟩
     obtain⟨⟨rfl,_⟩,_⟩:=hx;have hb:=dU k.1 hG;have:=lX (P:=P) (w:=w) (isS:=false) (len:=u.size) (cap:=u.size) (bnd hG hp) (bnd hG hq) hb (mZ _);refine⟨.string (u.extract p.toNat q.toNat),?_,⟨rfl,fA _⟩,fA _⟩;simp only[Instr.sliceAt,Instr.slice,Sem.run_bind,run_underlying hu,Result.andThen_ok];simp[this]
    .cases k
   .cases k
  .cases k
 .cases k
theorem foldl_set:∀(xs:List Value) (off k:Nat) (A:Array Value),off+k+xs.length<=A.size ->
 (xs.zipIdx k).foldl (λcs (p:Value×Nat)=>cs.setIfInBounds (off+p.2) p.1) A=(A.toList.take (off+k)++xs++A.toList.drop (off+k+xs.length)).toArray
 | [],off,k,A,_=>by simp
 | x :: xs,off,k,A,h=>by
   simp only[List.zipIdx_cons,Jj];simp only[zI]at h;rw[foldl_set xs off (k+1) _ (by simp;omega)]
   congr 1
   have e:=list_seg_step A.toList (off+k) x xs (by simp;omega)
   simpa[Array.toList_setIfInBounds,V4]using e
abbrev Pv(off:Nat) (xs cells:List SC):List SC:=dO (og off cells) (dO xs (GN (off+aJ xs) cells))
abbrev wu:SV->Option (List SC)
 | .dat (.arr _ (.int k)) l=>some (dQ (λx=>SC.v (.int k x)) l)
 | v=>lD v
abbrev ru(place:Nat->Option (Nat×Nat)) (cells:List SC):List (Nat×SV)->Option (List SC)
 | []=>some cells
 | (i,v) :: rest=>match place i with
   | none=>none
   | some (off,size)=>match wu v with
     | none=>none
     | some xs=>match bY (Nat.beq (aJ xs) size) (Nat.ble (off+size) (aJ cells)) with
       | true=>ru place (Pv off xs cells) rest
       | false=>none
theorem uT{v:SV}{xs:List SC} (e:lD v=some xs) (c:bV h β v y):aI (λx y=>dG h β x y/\bZ y) xs y.cells.toList:=by
 cases v with
 | c x=>simp[lD]at e;subst e;rw[c.2.1];exact⟨c,trivial⟩
 | agg xs'=>simp[lD]at e;subst e;obtain⟨ys,rfl,a⟩:=c;exact a
 | dat s d=>simp[lD]at e
 | und=>simp[lD]at e
theorem GX{k:IntKind}{h:FH}:∀{l:List Int}{cs:List Value},eX (Rd h (.int k)) cs l->cs=l.map λx=>.int k x
 | [],cs,r=>by simpa[eX]using r
 | x :: l,cs,⟨c,r,e,h1,h2⟩=>by
   have h1:c=[.int k x]:=h1;rw[e,h1,GX h2];rfl
theorem GY{h:FH}{β:List RV}{k:IntKind}:∀l:List Int,aI (λx y=>dG h β x y/\bZ y) (l.map λx=>SC.v (.int k x)) (l.map λx=>Value.int k x)
 | []=>trivial
 | x :: l=>⟨⟨⟨rfl,bD _ _⟩,bD _ _⟩,GY l⟩
theorem GZ{v:SV}{xs:List SC} (e:wu v=some xs) (c:bV h β v y):aI (λx y=>dG h β x y/\bZ y) xs y.cells.toList:=by
 unfold wu at e;split at e
 .cases e;obtain⟨_,cs,rfl,_,r⟩:=c;have e2:=GX r;rw[zi];have:(Value.agg cs.toArray).cells.toList=cs:=by simp[Value.cells]
  rw[this,e2];exact GY _
 .exact uT e c
theorem oC{h:FH}{β:List RV}{place:Nat->Option (Nat×Nat)}:∀{parts:List (Nat×SV)}{vals:List (Nat×Value)}{cells:List SC}{ys:List Value}{r:List SC},
 aI (λ(p:Nat×SV) (q:Nat×Value)=>p.1=q.1/\bV h β p.2 q.2) parts vals->aI (λx y=>dG h β x y/\bZ y) cells ys->ru place cells parts=some r ->
 ∃zs:List Value,Instr.fill place ys.toArray vals=some zs.toArray/\aI (λx y=>dG h β x y/\bZ y) r zs
 | [],[],cells,ys,r,_,a,e=>by simp[ru]at e;subst e;exact⟨ys,rfl,a⟩
 | (i,v) :: parts,(j,y) :: vals,cells,ys,r,⟨⟨hij,hv⟩,hp⟩,a,e=>by
   simp only at hij;subst hij;unfold ru at e;split at e
   .cases e
   rename_i off size hpl;split at e
   .cases e
   rename_i xs hxs;split at e
   .rename_i hc;rw[ay,A8]at hc;have h1:xs.length=size:=by have:=gI hc.1;rwa [aV]at this
    have h2:off+size<=cells.length:=by have:=lK hc.2;rwa [aV]at this
    have hall:=GZ hxs hv;have l1:=hall.length;have l2:=a.length;simp only[OL]at l1;have a':aI (λx y=>dG h β x y/\bZ y) (Pv off xs cells) (ys.take off++y.cells.toList++ys.drop (off+y.cells.size)):=by
     unfold Pv;rw[dW,dW,jc,oh,aV,CJ,<-l1];exact(a.take off).cat (hall.cat (a.drop _))
    obtain⟨zs,g1,g2⟩:=oC hp a' e;refine⟨zs,?_,g2⟩;unfold Instr.fill;rw[hpl];simp only;rw[if_neg (by simp;omega)]
    rw[<-g1]
    congr 1
    have:=foldl_set y.cells.toList off 0 ys.toArray (by simp;omega)
    simp only[O1]at this;rw[<-Array.foldl_toList,Array.toList_zipIdx];simpa using this
   .cases e
abbrev takeN(s:Sh):Nat->List SC->Option (List s.den×List SC)
 | 0,xs=>some ([],xs)
 | n+1,xs=>match takeD s xs with
   | some (d,r)=>match takeN s n r with
     | some (l,r')=>some (d :: l,r')
     | none=>none
   | none=>none
theorem Ac{h:FH}{β:List RV}{s:Sh}:∀{n:Nat}{xs:List SC}{ys:List Value}{l:List s.den}{r:List SC},takeN s n xs=some (l,r)->aI (λx y=>dG h β x y/\bZ y) xs ys ->
 ∃c1 c2,ys=c1++c2/\l.length=n/\eX (Rd h s) c1 l/\aI (λx y=>dG h β x y/\bZ y) r c2
 | 0,xs,ys,l,r,e,a=>by simp[takeN]at e;obtain⟨rfl,rfl⟩:=e;exact⟨[],ys,rfl,rfl,rfl,a⟩
 | n+1,xs,ys,l,r,e,a=>by
   unfold takeN at e;split at e
   .rename_i d r1 hd;split at e
    .rename_i l' r' hl;cases e;obtain⟨c1,c2,rfl,q1,q2⟩:=lW s hd a;obtain⟨c3,c4,rfl,q3,q4,q5⟩:=Ac hl q2;exact⟨c1++c3,c4,by rw[CJ],by simp[q3],⟨c1,c3,rfl,q1,q4⟩,q5⟩
    .cases e
   .cases e
abbrev Me(i:TI) (xs:List SC):SV:=match i.jK with
 | some (.arr n s)=>match takeN s n xs with
   | some (l,[])=>.dat (.arr n s) l
   | _=>.agg xs
 | _=>.agg xs
theorem G5{xs:List SC}{ys:List Value} (a:aI (λx y=>dG h β x y/\bZ y) xs ys):bV h β (Me i xs) (.agg ys.toArray):=by
 unfold Me;split
 .split
  .rename_i hl;obtain⟨c1,c2,rfl,q1,q2,q3⟩:=Ac hl a;have:c2=[]:=by cases c2 with | nil=>rfl | cons _ _=>exact q3.elim
   subst this;exact⟨rfl,c1,by simp,q1,q2⟩
  .exact⟨ys,rfl,a⟩
 .exact⟨ys,rfl,a⟩
abbrev uU(cx:Cx) (s:St) (G:Gd):List (Nat×Operand)->Option (List (Nat×SV))
 | []=>some []
 | (i,x) :: l=>match bI cx s G x with
   | some (.one v)=>match uU cx s G l with
     | some r=>some ((i,v) :: r)
     | none=>none
   | _=>none
theorem oD{cx:Cx}{N:Nat}{B:Base}{h0:FH}{s:St}{h:FH}{β:List RV}{w:World}{a:Act} (ah:Sat N B h0 s h β w a) (hg:aG cx.gd h){G:Gd} (hG:gv s.gl G=true):
 ∀{l:List (Nat×Operand)}{r:List (Nat×SV)},uU cx s G l=some r->aI (λ(p:Nat×SV) (q:Nat×Value)=>p.1=q.1/\bV h β p.2 q.2) r (l.map λp=>(p.1,a.eval p.2))
 | [],r,e=>by simp[uU]at e;subst e;trivial
 | (i,x) :: l,r,e=>by
   unfold uU at e;split at e
   .rename_i v hv;split at e
    .rename_i r' hr;cases e;exact⟨⟨rfl,aH ah hg hG hv⟩,oD ah hg hG hr⟩
    .cases e
   .cases e
abbrev Jv(cx:Cx) (i:TI) (f:Nat):Option (Nat×Nat):=match nC i f with
 | some fd=>match mQ cx.ti fd.type with
   | some fi=>some (fd.offset,fi.size)
   | none=>none
 | none=>none
abbrev uz(cx:Cx):List Field->Bool
 | []=>true
 | f :: l=>match mQ cx.ti f.type with
   | some _=>uz cx l
   | none=>false
abbrev Jw(cx:Cx) (s:St) (G:Gd) (t:TypeId) (parts:List (Nat×Operand)) (K:aW->Prop):Prop:=match mQ cx.ti t with
 | none=>False
 | some i=>match uU cx s G parts with
   | none=>False
   | some ps=>match i.desc with
     | .struct fs=>match uz cx (tl fs) with
       | true=>match ru (Jv cx i) (dQ SC.v i.zero) ps with
         | some xs=>K (.one (Me i xs))
         | none=>False
       | false=>False
     | .array n el=>match mQ cx.ti el with
       | none=>False
       | some ie=>match ru (λj=>some (j * ie.size,ie.size)) (dQ SC.v i.zero) ps with
         | some xs=>K (.one (Me i xs))
         | none=>False
     | _=>False
theorem oG(k:aU P t i) (w:World):∃z,(zeroValue t).run P w=.ok z w/\z.cells=i.zero.toArray:=by
 obtain⟨inf,z,h1,h2,h3,h4,h5⟩:=k.info;exact⟨z,by simp[zeroValue,typeInfo,h1,h4],h5⟩
theorem yG{P:Program}{cx:Cx} (hc:bT P cx.ti) (w:World):∀{l:List Field},uz cx l=true ->
 (l.mapM (λf=>(do pure (f.offset,<-sizeOf f.type):Sem (Nat×Nat)))).run P w=.ok (l.map λf=>(f.offset,match mQ cx.ti f.type with | some fi=>fi.size | none=>0)) w
 | [],_=>rfl
 | f :: l,h=>by
   unfold uz at h;split at h
   .rename_i fi hf;have:=yG hc w h;simp only[List.mapM_cons,Sem.run_bind,run_sizeOf (hc.get hf),Result.andThen_ok,Sem.run_pure,this,Es,hf]
   .cases h
theorem Px(hc:bT P cx.ti) (ah:Sat N B h0 s h β w a) (hg:aG cx.gd h)
 {parts:Array (Nat×Operand)} (k:Jw cx s G t (tl parts) K):
 ∃e,K e/\(gv s.gl G=true->∃y,(Instr.build t (parts.map λ(i,x)=>(i,a.eval x))).run P w=.ok y w/\iO h β e y):=by
 unfold Jw at k;split at k
 .cases k
 rename_i i hi;have ti:=hc.get hi;split at k
 .cases k
 rename_i ps hps;have htl:(parts.map λ(p:Nat×Operand)=>(p.1,a.eval p.2)).toList=(tl parts).map λp=>(p.1,a.eval p.2):=by cases parts;simp
 obtain⟨z,hz1,hz2⟩:=oG ti w;split at k
 .rename_i fs' hd;obtain⟨fs,hu,hfe⟩:=ti.EF hd;split at k
  .rename_i hall;split at k
   .rename_i xs hf;refine⟨_,k,λhG=>?_⟩
    obtain⟨zs,g1,g2⟩:=oC (oD ah hg hG hps) (dZ ti.zone) hf;refine⟨_,?_,G5 g2⟩;have hm:(fs.mapM (λf=>(do pure (f.offset,<-sizeOf f.type):Sem (Nat×Nat)))).run P w=.ok (fs.map λf=>(f.offset,match mQ cx.ti f.type with | some fi=>fi.size | none=>0)) w:=by
     have hall':uz cx (tl fs)=true:=by
      have:∀{l:List Field},uz cx (l.map uP)=true->uz cx l=true:=by
       intro l
       induction l with
       | nil=>intro _;rfl
       | cons f l ih=>
         intro hh;simp only[Es,uz,uP]at hh ⊢;split at hh
         .exact ih hh
         .cases hh
      apply this;rw[<-hfe]at hall;cases fs;simpa using hall
     have:=yG hc w hall';cases fs with
     | mk l=>
       have e2:=List.mapM_toArray (m:=Sem) (f:=λ(f:Field)=>(do pure (f.offset,<-sizeOf f.type):Sem (Nat×Nat))) (l:=l)
       refine(qy (λx=>Sem.run P x w) e2).trans ?_
       simp only[Sem.run_map];rw[show Sem.run P (List.mapM _ l) w=_ from this];simp
    have aa2:(λj=>(fs.map λf=>(f.offset,match mQ cx.ti f.type with | some fi=>fi.size | none=>0))[j]?)=Jv cx i:=by
     funext j
     unfold Jv nC;rw[hd];simp only[dI];have e1:(tl fs')[j]?=(fs[j]?).map uP:=by rw[<-hfe];cases fs;simp
     rw[e1,Array.getElem?_map];cases hj:fs[j]? with
     | none=>rfl
     | some fd=>
       simp only[QO,uP];cases hl:mQ cx.ti fd.type with
       | some fi=>rfl
       | none=>
         exfalso;have:∀{l:List Field},uz cx l=true->∀f∈l,mQ cx.ti f.type≠none:=by
          intro l
          induction l with
          | nil=>intro _ f hf;simp at hf
          | cons x l ih=>
            intro hh f hf;unfold uz at hh;split at hh
            .rename_i q hq;rcases jM.1 hf with rfl | hf
             .rw[hq];simp
             .exact ih hh f hf
            .cases hh
         refine this hall (uP fd) ?_ hl;rw[hj]at e1;exact kT e1
    simp only[Instr.build,Sem.run_bind,hz1,Result.andThen_ok,run_underlying hu,hm,hz2];rw[htl,aa2,g1];rfl
   .cases k
  .cases k
 .rename_i n el hd;have hu:=ti.CW hd rfl;split at k
  .cases k
  rename_i ie hie;split at k
  .rename_i xs hf;refine⟨_,k,λhG=>?_⟩
   obtain⟨zs,g1,g2⟩:=oC (oD ah hg hG hps) (dZ ti.zone) hf;refine⟨_,?_,G5 g2⟩;simp only[Instr.build,Sem.run_bind,hz1,Result.andThen_ok,run_underlying hu,run_sizeOf (hc.get hie),hz2];rw[htl,g1];rfl
  .cases k
 .cases k
abbrev qC:(s:Sh)->s.den->Option (List Value)
 | .int k,n=>some [.int k n]
 | .bool,b=>some [.bool b]
 | .str,b=>some [.string b]
 | .unit,_=>some []
 | .pair a b,(x,y)=>match qC a x with
   | some l=>match qC b y with
     | some m=>some (dO l m)
     | none=>none
   | none=>none
 | _,_=>none
theorem Ad{h:FH}:∀(s:Sh){cs:List Value}{d:s.den}{l:List Value},Rd h s cs d->qC s d=some l->cs=l
 | .int k,_,_,_,r,e=>by simp[qC]at e;subst e;exact r
 | .bool,_,_,_,r,e=>by simp[qC]at e;subst e;exact r
 | .str,_,_,_,r,e=>by simp[qC]at e;subst e;exact r
 | .unit,_,_,_,r,e=>by simp[qC]at e;subst e;exact r
 | .any,_,_,_,r,e=>by simp[qC]at e
 | .sl _,_,_,_,r,e=>by simp[qC]at e
 | .arr _ _,_,_,_,r,e=>by simp[qC]at e
 | .pair a b,_,(x,y),_,⟨c1,c2,e',r1,r2⟩,e=>by
   simp only[qC]at e;split at e
   .rename_i l hl;split at e
    .rename_i m hm;cases e;rw[e',Ad a r1 hl,Ad b r2 hm];clear hl hm e' r1 r2
     induction l with
     | nil=>rfl
     | cons x l ih=>simp[dO,ih]
    .cases e
   .cases e
abbrev rC:List SC->Option (List Value)
 | []=>some []
 | .v x :: l=>match rC l with
   | some m=>some (x :: m)
   | none=>none
 | _ :: _=>none
theorem G6{h:FH}{β:List RV}:∀{xs:List SC}{ys l:List Value},aI (λx y=>dG h β x y/\bZ y) xs ys->rC xs=some l->ys=l
 | [],[],_,_,e=>by simp[rC]at e;subst e;rfl
 | .v x :: xs,y :: ys,l,⟨a,b⟩,e=>by
   simp only[rC]at e;split at e
   .rename_i m hm;cases e;rw[G6 b hm,a.1.1]
   .cases e
 | .sl _ _ :: _,_ :: _,_,_,e=>by simp[rC]at e
 | .fp _ _ :: _,_ :: _,_,_,e=>by simp[rC]at e
 | .own _ _ :: _,_ :: _,_,_,e=>by simp[rC]at e
 | .row _ :: _,_ :: _,_,_,e=>by simp[rC]at e
 | .jh _ _ _ _ :: _,_ :: _,_,_,e=>by simp[rC]at e
 | .junk :: _,_ :: _,_,_,e=>by simp[rC]at e
abbrev G7:SV->Option (List Value)
 | .agg xs=>rC xs
 | .dat s d=>qC s d
 | _=>none
theorem wz{v:SV}{l:List Value} (c:bV h β v y) (e:G7 v=some l):y=.agg l.toArray:=by
 cases v with
 | c x=>simp[G7]at e
 | agg xs=>obtain⟨ys,rfl,a⟩:=c;rw[G6 a e]
 | dat s d=>obtain⟨_,cs,rfl,r⟩:=c;rw[Ad s r e]
 | und=>simp[G7]at e
abbrev EG:List Cl->List Value->List Value->Bool->(Bool->Prop)->Prop
 | [],[],[],acc,K=>K acc
 | .i :: cs,.int k a :: xs,.int k' b :: ys,acc,K=>match Nat.beq (zQ k) (zQ k') with
   | true=>EG cs xs ys (acc && (a == b)) K
   | false=>False
 | .b :: cs,.bool a :: xs,.bool b :: ys,acc,K=>EG cs xs ys (acc && (a == b)) K
 | .s :: cs,.string a :: xs,.string b :: ys,acc,K=>EG cs xs ys (acc && (a == b)) K
 | _,_,_,_,_=>False
theorem lG{c:Cl} (hc:vX P t=some c){xs:Array Value} (hx:xs[off]?=some v) (w:World):(part t xs off).run P w=.ok v w:=by
 unfold vX at hc;cases hu:P.underlying t with
 | none=>simp[hu]at hc
 | some d=>cases d<;>simp[hu]at hc<;>simp[part,isAgg,run_underlying hu,hx]
theorem Rz{XS YS:List Value}{K:Bool->Prop}:∀(cls:List Cl) (xs ys:List Value) (fs:List Field) (i:Nat) (acc:Bool),Pg P i cls fs=true->XS.drop i=xs->YS.drop i=ys->EG cls xs ys acc K ->
 ∃r,K (acc && r)/\∀w d,(Op.eqFields (d+1) XS.toArray YS.toArray fs).run P w=.ok r w:=by
 have hd:∀{L:List Value}{i:Nat}{x:Value}{l:List Value},L.drop i=x :: l->L.toArray[i]?=some x/\L.drop (i+1)=l:=by
  intro L i x l e;refine⟨?_,?_⟩
  .have:=qy List.head? e;simpa[List.head?_drop]using this
  .rw[<-OX,e];rfl
 intro cls
 induction cls with
 | nil=>
   intro xs ys fs i acc hf hx hy k;cases fs with
   | cons _ _=>simp[Pg]at hf
   | nil=>
     unfold EG at k;split at k
     .exact⟨true,by simpa using k,λw d=>by simp[Op.eqFields]⟩
     all_goals first | contradiction | exact k.elim
 | cons c cls ih=>
   intro xs ys fs i acc hf hx hy k;cases fs with
   | nil=>simp[Pg]at hf
   | cons f fs=>
     simp only[Pg,A8,Jc,ne_eq,uo]at hf;obtain⟨⟨⟨h1,h2⟩,h3⟩,h4⟩:=hf;have one:∀{x y:Value}{xs' ys':List Value}{b:Bool},XS.drop i=x :: xs'->YS.drop i=y :: ys'->(∀w d,(Op.equalIn (d+1) f.type x y).run P w=.ok b w) ->
      EG cls xs' ys' (acc && b) K->∃r,K (acc && r)/\∀w d,(Op.eqFields (d+1) XS.toArray YS.toArray (f :: fs)).run P w=.ok r w:=by
      intro x y xs' ys' b hx hy he k;obtain⟨x1,x2⟩:=hd hx;obtain⟨y1,y2⟩:=hd hy;obtain⟨r,k1,k2⟩:=ih xs' ys' fs (i+1) (acc && b) h4 x2 y2 k;refine⟨b && r,by rw[<-Bool.and_assoc];exact k1,λw d=>?_⟩
      simp only[Op.eqFields,ne_eq,h1,not_false_eq_true,if_true,Sem.run_bind,h2,lG h3 x1,lG h3 y1,Result.andThen_ok,he w d];cases b with
      | true=>simp[k2 w d]
      | false=>simp
     unfold EG at k;split at k
     .contradiction
     .rename_i hc;cases hc;split at k
      .rename_i hk;have:=ng hk;subst this;unfold vX at h3;cases hu:P.underlying f.type with
       | none=>simp[hu]at h3
       | some D=>cases D<;>simp[hu]at h3;exact one hx hy (λw d=>run_equalIn_int w d f.type _ _ _ _ hu) k
      .cases k
     .rename_i hc;cases hc;unfold vX at h3;cases hu:P.underlying f.type with
      | none=>simp[hu]at h3
      | some D=>cases D<;>simp[hu]at h3;exact one hx hy (λw d=>run_equalIn_bool' w d f.type _ _ hu) k
     .rename_i hc;cases hc;unfold vX at h3;cases hu:P.underlying f.type with
      | none=>simp[hu]at h3
      | some D=>cases D<;>simp[hu]at h3;exact one hx hy (λw d=>by rw[beq_toListBytes];exact run_equalIn_string w d f.type _ _ hu) k
     .cases k
abbrev RD(m:Nat) (op:BinOp) (x y:SV) (K:aW->Prop):Prop:=match x with
 | .dat (.arr n (.int k)) l=>match y with
   | .dat (.arr n' (.int k')) l'=>match bY (Nat.beq n m) (bY (Nat.beq n' m) (Nat.beq (zQ k) (zQ k'))) with
     | true=>match op with
       | .eql=>K (vB (decide (l=l')))
       | .neq=>K (vB (!decide (l=l')))
       | _=>False
     | false=>False
   | _=>False
 | _=>False
theorem Ae{h:FH}{k:IntKind}:∀{l:List Int}{cs:List Value},eX (Rd h (.int k)) cs l->cs=l.map (Value.int k)
 | [],_,r=>r
 | x :: l,_,⟨c,r,e,h1,h2⟩=>by
   rw[e,Ae h2,show c=[Value.int k x] from h1];rfl
theorem Du{P:Program}{e:TypeId} (he:vX P e=some .i){k:IntKind}{l l':List Int}{d:Nat}:∀{is:List Nat},(∀j∈is,j < l.length/\j < l'.length) ->
 ∃r:Bool,(∀w,(Op.eqItems (d+1) e 1 (l.map (Value.int k)).toArray (l'.map (Value.int k)).toArray is).run P w=.ok r w)/\(r=true↔∀j∈is,l[j]?=l'[j]?)
 | [],_=>⟨true,λw=>by simp[Op.eqItems],by simp⟩
 | j :: is,h=>by
   obtain⟨r,r1,r2⟩:=Du he (k:=k) (l:=l) (l':=l') (d:=d) (is:=is) λi hi=>h i (by simp[hi])
   obtain⟨h1,h2⟩:=h j (by simp)
   have p1:(l.map (Value.int k)).toArray[j]?=some (Value.int k l[j]):=by simp[h1]
   have p2:(l'.map (Value.int k)).toArray[j]?=some (Value.int k l'[j]):=by simp[h2]
   have hu:∃k',P.underlying e=some (.int k'):=by
    unfold vX at he;cases hu:P.underlying e with
    | none=>simp[hu]at he
    | some D=>cases D<;>simp[hu]at he;exact⟨_,rfl⟩
   obtain⟨k',hu⟩:=hu;refine⟨(l[j] == l'[j]) && r,λw=>?_,?_⟩
   .simp only[Op.eqItems,Rf,Sem.run_bind,lG he p1,lG he p2,Result.andThen_ok,run_equalIn_int w d e k k' _ _ hu];cases hq:l[j] == l'[j]with
    | true=>simp[r1 w]
    | false=>simp
   .rw[A8,r2,uo];constructor
    .rintro⟨q1,q2⟩ i hi;rcases jM.1 hi with rfl | hi
     .rw[kW h1,kW h2,q1]
     .exact q2 i hi
    .intro q;refine⟨?_,λi hi=>q i (by simp[hi])⟩
     have:=q j (by simp)
     rw[kW h1,kW h2]at this;exact VZ this
abbrev eqK(cx:Cx) (op:BinOp) (t:TypeId) (x y:SV) (K:aW->Prop):Prop:=match mQ cx.ti t with
 | none=>False
 | some i=>match i.Dp with
   | []=>False
   | c :: cs=>match i.desc with
     | .array m _=>RD m op x y K
     | .struct _=>match G7 x with
       | some xs=>match G7 y with
         | some ys=>match op with
           | .eql=>EG (c :: cs) xs ys true λb=>K (vB b)
           | .neq=>EG (c :: cs) xs ys true λb=>K (vB (!b))
           | _=>False
         | none=>False
       | none=>False
     | _=>False
theorem EH(hc:bT P cx.ti){x y:SV} (k:eqK cx op t x y K):
 ∃r:Bool,K (vB r)/\∀u v (px py:Operand),bV h β x u->bV h β y v->∀w,(eqGuard op t px py u v).run P w=.ok () w/\(binOp op t u v).run P w=.ok (.bool r) w:=by
 unfold eqK at k;split at k
 .cases k
 rename_i i hi;have ti:=hc.get hi;split at k
 .cases k
 rename_i c cs he;have ok:=ti.Dp (by rw[he];simp)
 rw[he]at ok;split at k
 .rename_i m el hd;have hu:=ti.CW hd rfl;unfold WO at ok;rw[hu]at ok;simp only[A8,yS,uo]at ok;obtain⟨⟨⟨o1,o2⟩,o3⟩,o4⟩:=ok;obtain⟨inf,ahx⟩:=A77.1 o3;unfold RD at k;split at k
  .rename_i n q l;split at k
   .rename_i n' q' l';split at k
    .rename_i hz;rw[ay,ay,A8,A8]at hz;have z1:n=m:=gI hz.1;have z2:n'=m:=gI hz.2.1;have z3:=ng hz.2.2;subst z1;subst z2;subst z3;have run:∀u v,bV h β (.dat (.arr n' (.int q)) l) u->bV h β (.dat (.arr n' (.int q)) l') v->∃xs ys,u=.agg xs/\v=.agg ys/\∀w,(Op.equalIn 10000 t (.agg xs) (.agg ys)).run P w=.ok (decide (l=l')) w:=by
      intro u v hu' hv';obtain⟨_,cs1,rfl,l1,r1⟩:=hu';obtain⟨_,cs2,rfl,l2,r2⟩:=hv';have l1:l.length=n':=l1;have l2:l'.length=n':=l2;refine⟨_,_,rfl,rfl,λw=>?_⟩
      rw[Ae r1,Ae r2,show(10000:Nat)=9999+1 from rfl,run_equalIn_array w 9999 _ _ hu ahx,o2]
      obtain⟨r,e1,e2⟩:=Du o1 (k:=q) (l:=l) (l':=l') (d:=9998) (is:=List.range n') λj hj=>by
       have:=Jk.1 hj;omega
      rw[e1 w]
      congr 1
      rw[Jb,e2,iE];constructor
      .intro hh;apply LK;intro j
       by_cases hj:j < n'
       .exact hh j (Jk.2 hj)
       .rw[LJ (by omega),LJ (by omega)]
      .intro hh j _;rw[hh]
     split at k
     .refine⟨_,k,λu v px py hu' hv' w=>?_⟩
      obtain⟨xs,ys,rfl,rfl,r⟩:=run u v hu' hv';refine⟨run_eqGuard_agg w _ t px py _ _ o4,?_⟩;simp only[run_eql_struct,r,Result.andThen_ok]
     .refine⟨_,k,λu v px py hu' hv' w=>?_⟩
      obtain⟨xs,ys,rfl,rfl,r⟩:=run u v hu' hv';refine⟨run_eqGuard_agg w _ t px py _ _ o4,?_⟩;simp only[run_neq_struct,r,Result.andThen_ok]
     .cases k
    .cases k
   .cases k
  .cases k
 .rename_i fs0 hd;obtain⟨fs,hu,_⟩:=ti.EF hd;unfold WO at ok;rw[hu]at ok;simp only[A8,yS]at ok;obtain⟨⟨o1,o2⟩,o3⟩:=ok;have hf:P.fieldsOf t=fs:=by simp[Program.fieldsOf,hu]
  have hu':P.underlying t=some (.struct (P.fieldsOf t)):=by rw[hf];exact hu
  split at k
  .rename_i xs hx;split at k
   .rename_i ys hy;have run:∀{r:Bool},(∀w d,(Op.eqFields (d+1) xs.toArray ys.toArray fs.toList).run P w=.ok r w)->∀w,(Op.equalIn 10000 t (.agg xs.toArray) (.agg ys.toArray)).run P w=.ok r w:=by
     intro r hr w;rw[show(10000:Nat)=9999+1 from rfl,run_equalIn_struct w 9999 t _ _ hu' o2,hf]
     exact hr w 9998
    split at k
    .obtain⟨r,k1,k2⟩:=Rz (XS:=xs) (YS:=ys) _ _ _ fs.toList 0 true o1 rfl rfl k;refine⟨r,by simpa using k1,λu v px py hu hv w=>?_⟩
     rw[wz hu hx,wz hv hy];refine⟨run_eqGuard_agg w _ t px py _ _ o3,?_⟩;simp only[run_eql_struct,run k2,Result.andThen_ok]
    .obtain⟨r,k1,k2⟩:=Rz (XS:=xs) (YS:=ys) _ _ _ fs.toList 0 true o1 rfl rfl k;refine⟨!r,by simpa using k1,λu v px py hu hv w=>?_⟩
     rw[wz hu hx,wz hv hy];refine⟨run_eqGuard_agg w _ t px py _ _ o3,?_⟩;simp only[run_neq_struct,run k2,Result.andThen_ok]
    .cases k
   .cases k
  .cases k
 .cases k
abbrev Jy(ops:List Oper) (j:Nat):Option Nat:=match dH ops j with
 | some o=>o.dst
 | none=>none
abbrev WT(k:Nat):List Nat->Bool
 | []=>false
 | x :: l=>match Nat.beq k x with
   | true=>true
   | false=>WT k l
abbrev rD(L:List Nat) (s:St) (ops:List Oper) (g:Option (Nat×Bool)) (K:Gd->St->Prop):Prop:=match g with
 | none=>K [] s
 | some (j,w)=>match Jy ops j with
   | none=>False
   | some d=>match WT d L with
     | true=>match fH s.env d with
       | some ([],.one (.c (.v (.bool b))))=>match b with
         | true=>match w with
           | true=>K [] s
           | false=>False
         | false=>match w with
           | true=>False
           | false=>K [] s
       | _=>False
     | false=>match fH s.env d with
       | some (G',.one (.c (.v (.bool b))))=>match Rq s.gs d with
         | some i=>K ((i,w) :: G') s
         | none=>K ((aJ s.gl,w) :: G') { s with gl:=snoc s.gl b,gs:=(d,aJ s.gl) :: s.gs }
       | _=>False
theorem G8{gl:List Bool}{b:Bool}:∀{T:List (Gd×aC)},(∀p∈T,qX gl.length p.1=true)->eff (snoc gl b) T=eff gl T
 | [],_=>rfl
 | (g,r) :: l,h=>by
   simp only[eff];rw[zk (h (g,r) (by simp)),G8 λp hp=>h p (by simp[hp])]
theorem Sat.grow(ah:Sat N B h0 s h β w a){d:Nat}{G':Gd}{b:Bool}
 (hd:fH s.env d=some (G',.one (.c (.v (.bool b))))):Sat N B h0 { s with gl:=snoc s.gl b,gs:=(d,aJ s.gl) :: s.gs } h β w a:=by
 have hlen:(snoc s.gl b).length=s.gl.length+1:=by simp[fM]
 refine⟨?_,?_,?_,ah.defers,ah.sz,?_,?_⟩
 .simp only;rw[G8 ah.gT];exact ah.ok
 .intro t G e ht;obtain⟨z,q1,q2,q3⟩:=ah.env t G e ht;have hb:=ah.gb t G e ht;simp only;rw[zk hb];exact⟨z,q1,q2,q3⟩
 .intro k i hk;simp only at hk ⊢;rw[zN]at hk;split at hk
  .rename_i hdk;subst hdk;cases hk;rw[aV];exact⟨G',b,hd,by omega,Ey⟩
  .obtain⟨G1,b1,q1,q2,q3⟩:=ah.gs k i hk;exact⟨G1,b1,q1,by omega,by rw[Ew q2];exact q3⟩
 .intro t G e ht;simp only;exact vT (by omega) (ah.gb t G e ht)
 .intro p hp;simp only;exact vT (by omega) (ah.gT p hp)
def asB:Value->Option Bool
 | .bool b=>some b
 | _=>none
theorem wB{ops:Array Oper}{d:Nat}{z:Value} (hd:Jy (tl ops) j=some d) (hz:a.tmps[d]?=some z):yielded ops a.tmps j=asB z:=by
 unfold Jy at hd;split at hd
 .rename_i o ho;rw[dI]at ho;have:ops[j]?=some o:=by cases ops;simpa using ho
  simp only[yielded,this,Option.bind_some,hd,hz];cases z<;>rfl
 .cases hd
theorem gK{a:Array α}{l:List α} (h:tl a=l):a=l.toArray:=by
 cases a with | mk m=>rw[<-h]
theorem sV(ah:Sat N B h0 s h β w a){ops:Array Oper}{o:Oper}{L:List Nat}{K:Gd->St->Prop}
 (k:rD L s (tl ops) o.guard K):∃G s',K G s'/\Sat N B h0 s' h β w a/\Region.wanted o (yielded ops a.tmps)=gv s'.gl G/\qX s'.gl.length G=true:=by
 unfold rD at k;split at k
 .rename_i hg;exact⟨[],s,k,ah,by simp[Region.wanted,hg],rfl⟩
 .rename_i j want hg;split at k
  .cases k
  rename_i d hd;split at k
  .split at k
   .rename_i b he;obtain⟨z,q1,q2,_⟩:=ah.env _ _ _ he;have hy:=wB hd q1;obtain⟨⟨rfl,_⟩,_⟩:=q2 rfl;split at k
    .split at k
     .exact⟨[],s,k,ah,by simp[Region.wanted,hg,hy,asB],rfl⟩
     .cases k
    .split at k
     .cases k
     .exact⟨[],s,k,ah,by simp[Region.wanted,hg,hy,asB],rfl⟩
   .cases k
  split at k
  .rename_i G' b he;obtain⟨z,q1,q2,q3⟩:=ah.env _ _ _ he;have hy:=wB hd q1;have wanted:∀gl,gv gl G'=gv s.gl G'->lb gl=lb gl->∀i,lb gl i=b->Region.wanted o (yielded ops a.tmps)=gv gl ((i,want) :: G'):=by
    intro gl e1 _ i e2;rw[pF,e1];simp only[Region.wanted,hg,hy];cases hG:gv s.gl G' with
    | true=>
      obtain⟨⟨rfl,_⟩,_⟩:=q2 hG;unfold GR;rw[e2];cases b<;>cases want<;>rfl
    | false=>
      have:=q3 hG;subst this;simp[undef,asB]
   have hb:=ah.gb _ _ _ he;split at k
   .rename_i i hi;obtain⟨G1,b1,e1,e2,e3⟩:=ah.gs _ _ hi;have:b1=b:=by rw[he]at e1;cases e1;rfl
    subst this;refine⟨_,s,k,ah,wanted s.gl rfl rfl i e3,?_⟩;simp only[qX,ay,A8];exact⟨Wq (by omega),hb⟩
   .refine⟨_,_,k,ah.grow he,wanted _ (zk hb) rfl _ (by rw[aV];exact Ey),?_⟩
    have hlen:(snoc s.gl b).length=s.gl.length+1:=by simp[fM]
    simp only[qX,ay,A8];exact⟨Wq (by rw[aV];omega),vT (by omega) hb⟩
  .cases k
abbrev G9(cb:Bool) (a b:Operand) (x y:Value) (K:aW->Prop):Prop:=match x with
 | .bool p=>match y with
   | .bool q=>match a with
     | .const (.bool true)=>K (vB (cb || q))
     | _=>match b with
       | .const (.bool false)=>K (vB (cb && p))
       | _=>K (vB (if cb=true then p else q))
   | _=>False
 | .int k p=>match y with
   | .int k' q=>match Nat.beq (zQ k) (zQ k') with
     | true=>K (vI k (if cb=true then p else q))
     | false=>False
   | _=>False
 | .string p=>match y with
   | .string q=>K (vS (if cb=true then p else q))
   | _=>False
 | _=>False
abbrev RF(cx:Cx) (s:St) (G:Gd) (c a b:Operand) (K:aW->Prop):Prop:=match c with
 | .tmp sc=>match bI cx s G c with
   | some (.one (.c (.v (.bool cb))))=>match Rq s.gs sc with
     | some i=>match bI cx s ((i,true) :: G) a with
       | some (.one (.c (.v x)))=>match bI cx s ((i,false) :: G) b with
         | some (.one (.c (.v y)))=>G9 cb a b x y K
         | _=>False
       | _=>False
     | none=>match bI cx s G a with
       | some (.one (.c (.v x)))=>match bI cx s G b with
         | some (.one (.c (.v y)))=>G9 cb a b x y K
         | _=>False
       | _=>False
   | _=>False
 | _=>False
theorem RG{cb:Bool}{a b:Operand}{x:Value} (k:G9 cb a b x y K):
 ∃v,K (.one (.c (.v v)))/\bZ v/\((cb=true->∀p,a=.const p->x=p)->(cb=false->∀p,b=.const p->y=p)->v=if cb=true then x else y):=by
 unfold G9 at k;split at k
 .rename_i p;split at k
  .rename_i q;split at k
   .refine⟨_,k,bU _,λh1 h2=>?_⟩
    cases cb with
    | true=>have:=h1 rfl _ rfl;cases this;rfl
    | false=>rfl
   .split at k
    .refine⟨_,k,bU _,λh1 h2=>?_⟩
     cases cb with
     | true=>rfl
     | false=>have:=h2 rfl _ rfl;cases this;rfl
    .exact⟨_,k,bU _,λ_ _=>by cases cb<;>rfl⟩
  .cases k
 .split at k
  .split at k
   .rename_i hk;have:=ng hk;subst this;exact⟨_,k,bD _ _,λ_ _=>by cases cb<;>rfl⟩
   .cases k
  .cases k
 .split at k
  .exact⟨_,k,fA _,λ_ _=>by cases cb<;>rfl⟩
  .cases k
 .cases k
theorem RH{o:Oper}{c x y:Operand}{cb:Bool} (ho:o.op=.pick c x y) (hc:a.eval c=.bool cb):
 (execOp a.eval o).run P w=.ok (.value (if cb=true then a.eval x else a.eval y)) w:=by
 unfold execOp;simp only[ho,hc,asBool,Sem.run_bind,Sem.run_pure,Result.andThen_ok]
theorem RI(ah:Sat N B h0 s h β w a) (hg:aG cx.gd h)
 {o:Oper}{c x y:Operand} (ho:o.op=.pick c x y) (k:RF cx s G c x y K):
 ∃e,K e/\(gv s.gl G=true->∃v,(execOp a.eval o).run P w=.ok (.value v) w/\iO h β e v):=by
 unfold RF at k;split at k
 .rename_i sc;split at k
  .rename_i cb hcb;have hcv:gv s.gl G=true->a.eval (.tmp sc)=.bool cb:=λhG=>(aH ah hg hG hcb).1.1
   -- the common end
   have fin:∀{Ga Gb:Gd}{u v:Value},(gv s.gl G=true->cb=true->gv s.gl Ga=true)->(gv s.gl G=true->cb=false->gv s.gl Gb=true) ->
    bI cx s Ga x=some (.one (.c (.v u)))->bI cx s Gb y=some (.one (.c (.v v)))->G9 cb x y u v K ->
    ∃e,K e/\(gv s.gl G=true->∃v,(execOp a.eval o).run P w=.ok (.value v) w/\iO h β e v):=by
    intro Ga Gb u v ha hb hu hv kk;obtain⟨r,k1,k2,k3⟩:=RG kk;refine⟨_,k1,λhG=>⟨_,RH ho (hcv hG),?_⟩⟩
    have eu:cb=true->a.eval x=u:=λhc=>(aH ah hg (ha hG hc) hu).1.1
    have ev:cb=false->a.eval y=v:=λhc=>(aH ah hg (hb hG hc) hv).1.1
    have hr:=k3 (λhc p hp=>by rw[<-eu hc,hp];rfl) (λhc p hp=>by rw[<-ev hc,hp];rfl)
    have:(if cb=true then a.eval x else a.eval y)=r:=by
     rw[hr];cases cb with
     | true=>simpa using eu rfl
     | false=>simpa using ev rfl
    rw[this];exact⟨⟨rfl,k2⟩,k2⟩
   split at k
   .rename_i i hi;obtain⟨G1,b1,e1,e2,e3⟩:=ah.gs _ _ hi;have hb1:b1=cb:=by
     simp only[bI,e1]at hcb;split at hcb
     .cases hcb;rfl
     .cases hcb
    subst hb1;split at k
    .rename_i u hu;split at k
     .rename_i v hv;refine fin (λhG hc=>?_) (λhG hc=>?_) hu hv k
      .rw[pF,hG,Bool.and_true];unfold GR;rw[e3,hc]
      .rw[pF,hG,Bool.and_true];unfold GR;rw[e3,hc];rfl
     .cases k
    .cases k
   .split at k
    .rename_i u hu;split at k
     .rename_i v hv;exact fin (λhG _=>hG) (λhG _=>hG) hu hv k
     .cases k
    .cases k
  .cases k
 .cases k
abbrev lq(cx:Cx) (s:St) (G:Gd) (o:Oper) (K:aW->Prop):Prop:=match o.op with
 | .move x=>match bI cx s G x with
   | some e=>K e
   | none=>False
 | .assign x=>match bI cx s G x with
   | some e=>K e
   | none=>False
 | .binOp op t x y _=>match bI cx s G x with
   | some (.one (.c (.v u)))=>match bI cx s G y with
     | some (.one (.c (.v v)))=>match xU u with
       | true=>aaZ cx s.gl G op t u v K
       | false=>False
     | _=>False
   | some (.one (.agg xs))=>match bI cx s G y with
     | some (.one v)=>eqK cx op t (.agg xs) v K
     | _=>False
   | some (.one (.dat sh d))=>match bI cx s G y with
     | some (.one v)=>eqK cx op t (.dat sh d) v K
     | _=>False
   | _=>False
 | .unOp op _ x=>match bI cx s G x with
   | some (.one (.c (.v u)))=>unK s.gl G op u K
   | _=>False
 | .convert src dst x=>match bI cx s G x with
   | some (.one (.c (.v u)))=>Rx cx s.gl G src dst u K
   | _=>False
 | .load t x=>match bI cx s G x with
   | some (.one (.c p))=>qY cx s G t p K
   | _=>False
 | .fieldAddr t x f=>match bI cx s G x with
   | some (.one (.c p))=>uS cx s G t p f K
   | _=>False
 | .field t x f=>match bI cx s G x with
   | some (.one v)=>Jt cx t v f K
   | _=>False
 | .indexAddr t x i=>match bI cx s G x with
   | some (.one (.c p))=>match bI cx s G i with
     | some (.one (.c (.v (.int _ n))))=>uQ cx s G t p n K
     | _=>False
   | _=>False
 | .index t x i=>match bI cx s G x with
   | some (.one v)=>match bI cx s G i with
     | some (.one (.c (.v (.int _ n))))=>Js cx s G t v n K
     | _=>False
   | _=>False
 | .extract x i=>match bI cx s G x with
   | some (.iQ xs)=>match dH xs i with
     | some v=>K (.one v)
     | none=>False
   | _=>False
 | .nilCheck x=>match bI cx s G x with
   | some (.one (.c (.own r off)))=>K (.one (.c (.own r off)))
   | some (.one (.c (.jh r j sz off)))=>K (.one (.c (.jh r j sz off)))
   | some (.one (.c (.fp sh d)))=>K (.one (.c (.fp sh d)))
   | _=>False
 | .slice t x lo hi mx=>match mx with
   | none=>match bI cx s G x with
     | some (.one v)=>Ju cx s G t v lo hi K
     | _=>False
   | some _=>False
 | .build t parts=>Jw cx s G t (tl parts) K
 | .pick c a b=>RF cx s G c a b K
 | .call c=>match c.callee with
   | .builtin .len=>match tl c.args with
     | [x]=>match tl c.argTypes with
       | [t]=>match bI cx s G x with
         | some (.one v)=>aa1 cx s G t v K
         | _=>False
       | _=>False
     | _=>False
   | _=>False
 | _=>False
theorem Af(hc:bT P cx.ti) (ah:Sat N B h0 s h β w a) (hg:aG cx.gd h)
 {o:Oper} (k:lq cx s G o K):
 ∃e,K e/\(gv s.gl G=true->∃v,(execOp a.eval o).run P w=.ok (.value v) w/\iO h β e v):=by
 have get:∀{G':Gd}{x:Operand}{e:aW},gv s.gl G'=true->bI cx s G' x=some e->iO h β e (a.eval x):=λhG e=>aH ah hg hG e
 unfold lq at k;split at k
 .rename_i x ho;split at k
  .rename_i e he;exact⟨e,k,λhG=>⟨_,by simp[execOp,ho],get hG he⟩⟩
  .cases k
 .rename_i x ho;split at k
  .rename_i e he;exact⟨e,k,λhG=>⟨_,by simp[execOp,ho],get hG he⟩⟩
  .cases k
 .rename_i op t x y yt ho;split at k
  .rename_i u hu;split at k
   .rename_i v hv;split at k
    .rename_i hf;obtain⟨r,k1,k2,k3⟩:=L6 (P:=P) hc k;refine⟨_,k1,λhG=>⟨r,?_,⟨rfl,k2⟩,k2⟩⟩
     have e1:a.eval x=u:=(get hG hu).1.1;have e2:a.eval y=v:=(get hG hv).1.1;simp only[execOp,ho,e1,e2,Sem.run_bind,pJ P op t x y hf,Result.andThen_ok,k3 hG w,Sem.run_pure]
    .cases k
   .cases k
  .rename_i xs hu;split at k
   .rename_i v hv;obtain⟨r,k1,k2⟩:=EH (h:=h) (β:=β) hc k;refine⟨_,k1,λhG=>⟨.bool r,?_,⟨rfl,rfl,rfl⟩,rfl,rfl⟩⟩
    obtain⟨g1,g2⟩:=k2 _ _ x y (get hG hu) (get hG hv) w;simp only[execOp,ho,Sem.run_bind,g1,g2,Result.andThen_ok,Sem.run_pure]
   .cases k
  .rename_i sh d hu;split at k
   .rename_i v hv;obtain⟨r,k1,k2⟩:=EH (h:=h) (β:=β) hc k;refine⟨_,k1,λhG=>⟨.bool r,?_,⟨rfl,rfl,rfl⟩,rfl,rfl⟩⟩
    obtain⟨g1,g2⟩:=k2 _ _ x y (get hG hu) (get hG hv) w;simp only[execOp,ho,Sem.run_bind,g1,g2,Result.andThen_ok,Sem.run_pure]
   .cases k
  .cases k
 .rename_i op t x ho;split at k
  .rename_i u hu;obtain⟨r,k1,k2,k3⟩:=Rw (P:=P) k;refine⟨_,k1,λhG=>⟨r,?_,⟨rfl,k2⟩,k2⟩⟩
   have e1:a.eval x=u:=(get hG hu).1.1;simp only[execOp,ho,e1,Sem.run_bind,k3 hG w,Result.andThen_ok,Sem.run_pure]
  .cases k
 .rename_i src dst x ho;split at k
  .rename_i u hu;obtain⟨r,k1,k2,k3⟩:=Ry (P:=P) hc k;refine⟨_,k1,λhG=>⟨r,?_,⟨rfl,k2⟩,k2⟩⟩
   have e1:a.eval x=u:=(get hG hu).1.1;simp only[execOp,ho,e1,Sem.run_bind,k3 hG w,Result.andThen_ok,Sem.run_pure]
  .cases k
 .rename_i t x ho;split at k
  .rename_i p hp;obtain⟨e,k1,k2⟩:=zY hc ah k;refine⟨e,k1,λhG=>?_⟩
   obtain⟨y,r1,r2⟩:=k2 hG _ (get hG hp).1;exact⟨y,by simp only[execOp,ho,Sem.run_bind,r1 w (jL.refl w),Result.andThen_ok,Sem.run_pure],r2⟩
  .cases k
 .rename_i t x f ho;split at k
  .rename_i p hp;obtain⟨e,k1,k2⟩:=uy (P:=P) (h:=h) (β:=β) hc k;refine⟨e,k1,λhG=>?_⟩
   obtain⟨y,r1,r2⟩:=k2 hG _ (get hG hp).1;exact⟨y,by simp only[execOp,ho,Sem.run_bind,r1,Result.andThen_ok,Sem.run_pure],r2⟩
  .cases k
 .rename_i t x f ho;split at k
  .rename_i v hv;obtain⟨e,k1,k2⟩:=Po (P:=P) (s:=s) (G:=G) (h:=h) (β:=β) hc k;refine⟨e,k1,λhG=>?_⟩
   obtain⟨y,r1,r2⟩:=k2 hG w _ (get hG hv);exact⟨y,by simp only[execOp,ho,Sem.run_bind,r1,Result.andThen_ok,Sem.run_pure],r2⟩
  .cases k
 .rename_i t x i ho;split at k
  .rename_i p hp;split at k
   .rename_i ik n hi;obtain⟨e,k1,k2⟩:=uw (ik:=ik) hc ah k;refine⟨e,k1,λhG=>?_⟩
    obtain⟨y,r1,r2⟩:=k2 hG _ (get hG hp).1;have e1:a.eval i=.int ik n:=(get hG hi).1.1;exact⟨y,by simp only[execOp,ho,e1,Sem.run_bind,r1 w,Result.andThen_ok,Sem.run_pure],r2⟩
   .cases k
  .cases k
 .rename_i t x i ho;split at k
  .rename_i v hv;split at k
   .rename_i ik n hi;obtain⟨e,k1,k2⟩:=Pn (P:=P) (ik:=ik) (h:=h) (β:=β) hc k;refine⟨e,k1,λhG=>?_⟩
    obtain⟨y,r1,r2⟩:=k2 hG w _ (get hG hv);have e1:a.eval i=.int ik n:=(get hG hi).1.1;exact⟨y,by simp only[execOp,ho,e1,Sem.run_bind,r1,Result.andThen_ok,Sem.run_pure],r2⟩
   .cases k
  .cases k
 .rename_i x i ho;split at k
  .rename_i xs hx;split at k
   .rename_i v hv;refine⟨_,k,λhG=>?_⟩
    obtain⟨ys,e1,hall⟩:=get hG hx;obtain⟨y,hy,hvy⟩:=hall.get (show xs[i]?=some v by rw[<-dI];exact hv)
    exact⟨y,by simp[execOp,ho,e1,Instr.extract,hy],hvy⟩
   .cases k
  .cases k
 .rename_i x ho;split at k
  .rename_i r off hx;refine⟨_,k,λhG=>⟨a.eval x,?_,get hG hx⟩⟩
   obtain⟨⟨b,hb,e1⟩,_⟩:=get hG hx;simp only[execOp,ho,e1];rfl
  .rename_i r j sz off hx;refine⟨_,k,λhG=>⟨a.eval x,?_,get hG hx⟩⟩
   obtain⟨⟨v,g,hb,hg',e1⟩,_⟩:=get hG hx;simp only[execOp,ho,e1];rfl
  .rename_i sh d hx;refine⟨_,k,λhG=>⟨a.eval x,?_,get hG hx⟩⟩
   obtain⟨⟨b,o',cs,e1,_⟩,_⟩:=get hG hx;simp only[execOp,ho,e1];rfl
  .cases k
 .rename_i t x lo hi mx ho;split at k
  .split at k
   .rename_i v hv;obtain⟨e,k1,k2⟩:=Pq hc ah hg k;refine⟨e,k1,λhG=>?_⟩
    obtain⟨y,r1,r2⟩:=k2 hG _ (get hG hv);exact⟨y,by simp only[execOp,ho,WC,Sem.run_bind,r1,Result.andThen_ok,Sem.run_pure],r2⟩
   .cases k
  .cases k
 .rename_i t parts ho;obtain⟨e,k1,k2⟩:=Px hc ah hg k;refine⟨e,k1,λhG=>?_⟩
  obtain⟨y,r1,r2⟩:=k2 hG;exact⟨y,by simp only[execOp,ho,Sem.run_bind,r1,Result.andThen_ok,Sem.run_pure],r2⟩
 .rename_i c x y ho;exact RI ah hg ho k
 .rename_i c ho;split at k
  .rename_i bH;split at k
   .rename_i x hargs;split at k
    .rename_i t aa3;split at k
     .rename_i v hv;obtain⟨e,k1,k2⟩:=Mc (ty:=o.type) hc ah k;refine⟨e,k1,λhG=>?_⟩
      obtain⟨y,r1,r2⟩:=k2 hG _ (get hG hv);refine⟨y,?_,r2⟩;have ea:c.args=#[x]:=gK hargs;have et:c.argTypes=#[t]:=gK aa3;simp[execOp,ho,resolve,bH,ea,et,invoke,builtin,r1 w]
     .cases k
    .cases k
   .cases k
  .cases k
 .cases k
abbrev kM:Op->Bool
 | .move _=>true
 | .assign _=>true
 | .pick ..=>true
 | .extract ..=>true
 | .load ..=>true
 | _=>false
abbrev iW:Op->Bool
 | .binOp ..=>true
 | .unOp ..=>true
 | .indexAddr ..=>true
 | .fieldAddr ..=>true
 | .call c=>match c.callee with
   | .builtin .len=>true
   | _=>false
 | o=>kM o
abbrev isLoad:Op->Bool
 | .load ..=>true
 | _=>false
theorem Py{ρ:Operand->Value}{o:Oper} (hf:kM o.op=true) (hl:∀t x,o.op≠.load t x) (r:(execOp ρ o).run P w=.ok (.value v) w):
 (execOp ρ o).run P w'=.ok (.value v) w':=by
 cases ho:o.op with
 | move x=>simp only[execOp,ho,Sem.run_pure]at r ⊢;cases r;rfl
 | assign x=>simp only[execOp,ho,Sem.run_pure]at r ⊢;cases r;rfl
 | load t x=>exact absurd ho (hl t x)
 | pick c x y=>
   simp only[execOp,ho,Sem.run_bind]at r ⊢;cases hc:ρ c<;>simp[hc,asBool,stuck]at r ⊢<;>exact r
 | extract x i=>
   simp only[execOp,ho,Sem.run_bind,Instr.extract]at r ⊢;cases hc:ρ x with
   | tuple vs=>
     rw[hc]at r;cases hv:vs[i]? with
     | some u=>simp[hv]at r ⊢;exact r
     | none=>simp[hv,stuck]at r
   | _=>rw[hc]at r;simp[stuck]at r
 | _=>rw[ho]at hf;simp[kM]at hf
theorem Pz(hc:bT P cx.ti) (ah:Sat N B h0 s h β w a) (hg:aG cx.gd h)
 {o:Oper} (hf:iW o.op=true) (k:lq cx s G o K):
 ∃e,K e/\(gv s.gl G=true->∃v,(∀w',(isLoad o.op=true->jL w w')->(execOp a.eval o).run P w'=.ok (.value v) w')/\iO h β e v):=by
 have get:∀{G':Gd}{x:Operand}{e:aW},gv s.gl G'=true->bI cx s G' x=some e->iO h β e (a.eval x):=λhG e=>aH ah hg hG e
 have k0:=k
 by_cases h0f:kM o.op=true/\∀t x,o.op≠.load t x
 .obtain⟨e,k1,k2⟩:=Af hc ah hg k;refine⟨e,k1,λhG=>?_⟩
  obtain⟨v,r,c⟩:=k2 hG;exact⟨v,λw' _=>Py h0f.1 h0f.2 r,c⟩
 .cases ho:o.op with
  | load t x=>
    simp only[lq,ho]at k;split at k
    .rename_i p hp;obtain⟨e,k1,k2⟩:=zY hc ah k;refine⟨e,k1,λhG=>?_⟩
     obtain⟨y,r1,r2⟩:=k2 hG _ (aH ah hg hG hp).1;exact⟨y,λw' xW=>by simp only[execOp,ho,Sem.run_bind,r1 w' (xW rfl),Result.andThen_ok,Sem.run_pure],r2⟩
    .cases k
  | binOp op t x y yt=>
    simp only[lq,ho]at k;split at k
    .rename_i u hu;split at k
     .rename_i v hv;split at k
      .rename_i hf;obtain⟨r,k1,k2,k3⟩:=L6 (P:=P) hc k;refine⟨_,k1,λhG=>⟨r,λw' _=>?_,⟨rfl,k2⟩,k2⟩⟩
       have e1:a.eval x=u:=(get hG hu).1.1;have e2:a.eval y=v:=(get hG hv).1.1;simp only[execOp,ho,e1,e2,Sem.run_bind,pJ P op t x y hf,Result.andThen_ok,k3 hG w',Sem.run_pure]
      .cases k
     .cases k
    .rename_i xs hu;split at k
     .rename_i v hv;obtain⟨r,k1,k2⟩:=EH (h:=h) (β:=β) hc k;refine⟨_,k1,λhG=>⟨.bool r,λw' _=>?_,⟨rfl,rfl,rfl⟩,rfl,rfl⟩⟩
      obtain⟨g1,g2⟩:=k2 _ _ x y (get hG hu) (get hG hv) w';simp only[execOp,ho,Sem.run_bind,g1,g2,Result.andThen_ok,Sem.run_pure]
     .cases k
    .rename_i sh d hu;split at k
     .rename_i v hv;obtain⟨r,k1,k2⟩:=EH (h:=h) (β:=β) hc k;refine⟨_,k1,λhG=>⟨.bool r,λw' _=>?_,⟨rfl,rfl,rfl⟩,rfl,rfl⟩⟩
      obtain⟨g1,g2⟩:=k2 _ _ x y (get hG hu) (get hG hv) w';simp only[execOp,ho,Sem.run_bind,g1,g2,Result.andThen_ok,Sem.run_pure]
     .cases k
    .cases k
  | unOp op t x=>
    simp only[lq,ho]at k;split at k
    .rename_i u hu;obtain⟨r,k1,k2,k3⟩:=Rw (P:=P) k;refine⟨_,k1,λhG=>⟨r,λw' _=>?_,⟨rfl,k2⟩,k2⟩⟩
     have e1:a.eval x=u:=(get hG hu).1.1;simp only[execOp,ho,e1,Sem.run_bind,k3 hG w',Result.andThen_ok,Sem.run_pure]
    .cases k
  | fieldAddr t x f=>
    simp only[lq,ho]at k;split at k
    .rename_i p hp;obtain⟨e,k1,k2⟩:=uy (P:=P) (h:=h) (β:=β) hc k;refine⟨e,k1,λhG=>?_⟩
     obtain⟨y,r1,r2⟩:=k2 hG _ (get hG hp).1;exact⟨y,λw' _=>by simp only[execOp,ho,Sem.run_bind,r1 w',Result.andThen_ok,Sem.run_pure],r2⟩
    .cases k
  | indexAddr t x i=>
    simp only[lq,ho]at k;split at k
    .rename_i p hp;split at k
     .rename_i ik n hi;obtain⟨e,k1,k2⟩:=uw (ik:=ik) hc ah k;refine⟨e,k1,λhG=>?_⟩
      obtain⟨y,r1,r2⟩:=k2 hG _ (get hG hp).1;have e1:a.eval i=.int ik n:=(get hG hi).1.1;exact⟨y,λw' _=>by simp only[execOp,ho,e1,Sem.run_bind,r1 w',Result.andThen_ok,Sem.run_pure],r2⟩
     .cases k
    .cases k
  | call c=>
    simp only[lq,ho]at k;split at k
    .rename_i bH;split at k
     .rename_i x hargs;split at k
      .rename_i t aa3;split at k
       .rename_i v hv;obtain⟨e,k1,k2⟩:=Mc (ty:=o.type) hc ah k;refine⟨e,k1,λhG=>?_⟩
        obtain⟨y,r1,r2⟩:=k2 hG _ (get hG hv);refine⟨y,λw' _=>?_,r2⟩
        have ea:c.args=#[x]:=gK hargs;have et:c.argTypes=#[t]:=gK aa3;simp[execOp,ho,resolve,bH,ea,et,invoke,builtin,r1 w']
       .cases k
      .cases k
     .cases k
    .cases k
  | _=>
    exact absurd ⟨(qy kM ho).trans ((qy iW ho).symm.trans hf),λt x hh=>by rw[ho]at hh;cases hh⟩ h0f
end Go.lM
