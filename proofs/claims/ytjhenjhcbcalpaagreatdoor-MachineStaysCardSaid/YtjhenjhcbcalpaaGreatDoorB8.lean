/- Part 8 of the proof. Conditions: the rows'. -/
import Derived.Test.YtjhenjhcbcalpaaGreatDoorB7
set_option linter.unusedSimpArgs false
set_option linter.unusedVariables false
set_option maxRecDepth 1000000
set_option maxHeartbeats 8000000
namespace Go.Proofs.YtjhenjhcbcalpaaGreatDoor
open Go Go.ni
noncomputable section
variable {ms cs:List ByteArray}{fs:List FD}{bound id pc st ch ph su fa:Int}{t:TD}{vs:List VD}{ts:List SD}{rg he:List Int}{u:Unit}{i:ID}
theorem wrap32(n:Int):IntKind.i32.wrap (IntKind.u32.wrap n)=aZ n:=by
 simp only[IntKind.wrap,IntKind.bits,IntKind.signed,aZ];simp;split<;>omega
theorem aoP{x y:Int} (hx:-2147483648<=x/\x<=2147483647) (hy:-2147483648<=y/\y<=2147483647):-9223372036854775808<=x * y/\x * y<=9223372036854775807:=by
 have h1:x.natAbs<=2147483648:=by omega
 have h2:y.natAbs<=2147483648:=by omega
 have h3:(x * y).natAbs<=2147483648 * 2147483648:=by rw[Int.natAbs_mul];exact Nat.mul_le_mul h1 h2
 omega
abbrev GU:CT:={ ps:=[.int .i64],pre:=λd=>True,res:=λd=>([],.one (.c (.v (.int .i64 (aZ d.1))))) }
theorem als(n:Int):
 let z1:=IntKind.i32.wrap (IntKind.u32.wrap n);iR z1/\qI (aZ n) z1:=by
 conv=>zeta
 delta qI iR;have:=xH n;rw[wrap32];exact⟨ay.2 (by omega),rfl,rfl⟩
theorem Ep:aW aT.gd 77 GU:=
 kD (cx:=aT) (n:=7) (cl:=[]) aB trivial Tryz.func77 λd hd=>by
  obtain⟨n,⟨⟩⟩:=d;exact aQ (λ_=>none) (als n) (by kernel_rfl)
abbrev aiD:CT:={ ps:=[.bool],pre:=λd=>True,res:=λd=>([],.one (.c (.v (.int .i64 (if d.1=true then 1 else 0))))) }
theorem agl(b:Bool):
 let z1:=if b=true then(1:Int) else(0:Int);br b (qI z1 (1:Int)) (qI z1 (0:Int)):=by
 conv=>zeta
 delta qI;rw[ah];cases b<;>simp
theorem abb:aW aT.gd 161 aiD:=
 kD (cx:=aT) (n:=4) (cl:=[]) aB trivial Tryz.func161 λd hd=>by
  obtain⟨b,⟨⟩⟩:=d;exact aQ (λ_=>none) (agl b) (by kernel_rfl)
abbrev Ub:CT:={ ps:=[.int .i64,.int .i64,.int .i64],pre:=λd=>True,res:=λd=>([],.iO [.c (.v (.int .i64 (iE d.1 d.2.1 d.2.2.1).1)),.c (.v (.int .i64 (iE d.1 d.2.1 d.2.2.1).2))]) }
theorem alu(f a b:Int):
 let z1:=[cI ((iE f a b).fst),cI ((iE f a b).snd)];True/\True/\br (decide (f=1)) (iR (aZ a+aZ b)/\True/\rT z1 [cI (aZ (aZ a+aZ b)),cI 0]) (br (decide (f=2)) (iR (aZ a - aZ b)/\True/\rT z1 [cI (aZ (aZ a - aZ b)),cI 0]) (br (decide (f=3)) (iR (aZ a * aZ b)/\True/\rT z1 [cI (aZ (aZ a * aZ b)),cI 0]) (br (decide (f=4)) (True/\rT z1 [cI (aZ (qy BinOp.and IntKind.i64 (aZ a) (aZ b))),cI 0]) (br (decide (f=5)) (True/\rT z1 [cI (aZ (qy BinOp.or IntKind.i64 (aZ a) (aZ b))),cI 0]) (br (decide (f=6)) (True/\rT z1 [cI (aZ (qy BinOp.xor IntKind.i64 (aZ a) (aZ b))),cI 0]) (br (decide (f=7)) (True/\rT z1 [cI (if decide (aZ a=aZ b)=true then(1:Int) else(0:Int)),cI 0]) (br (decide (f=8)) (True/\rT z1 [cI (if(!decide (aZ a=aZ b))=true then(1:Int) else(0:Int)),cI 0]) (br (decide (f=9)) (True/\rT z1 [cI (if decide (aZ a < aZ b)=true then(1:Int) else(0:Int)),cI 0]) (br (decide (f=10)) (True/\rT z1 [cI (if decide (aZ a<=aZ b)=true then(1:Int) else(0:Int)),cI 0]) (rT z1 [cI 0,cI 8])))))))))):=by
 conv=>zeta
 delta cI rT iR;have ha:=xH a;have hb:=xH b;have hm:=aoP ha hb;unfold iE;simp only[ah,dW,gW]
 repeat' (first | (refine And.intro ?_ ?_) | (intro _))
 all_goals first | rfl | trivial | exact ay.2 (by omega) | (simp[*];done) | skip
theorem Lh:aW aT.gd 97 Ub:=
 kD (cx:=aT) (n:=75) (cl:=[(77,GU),(161,aiD)]) aB ⟨Ep,abb,trivial⟩ Tryz.func97 λd hd=>by
  obtain⟨f,a,b,⟨⟩⟩:=d;exact aQ (λ_=>none) (alu f a b) (by kernel_rfl)
abbrev abd:CT:={ ps:=[.int .i64],pre:=λd=>True,res:=λd=>([],vB (mO d.1)) }
theorem agm(op:Int):
 qB (mO op) (decide (8<=op) && decide (op<=22)):=by
 delta qB;refine⟨rfl,?_⟩;rw[show mO op=(decide (8<=op) && decide (op<=22)) by unfold mO;rw[LX];simp]
theorem Oo:aW aT.gd 149 abd:=
 kD (cx:=aT) (n:=9) (cl:=[]) aB trivial Tryz.func149 λd hd=>by
  obtain⟨op,⟨⟩⟩:=d;exact aQ (λ_=>none) (agm op) (by kernel_rfl)
abbrev aiE:CT:={ ps:=[oP],pre:=λd=>True,res:=λd=>([],.iO [.c (.v (.int .i64 (nJ d.1).1)),.c (.v (.bool (nJ d.1).2))]) }
theorem agn(op a b c obj n fo ord:Int):
 let z4:=pK op a b c obj n fo ord=0;let z2:=!!decide z4;let z3:=nJ (op,a,b,c,obj,n,fo,ord,());let z1:=[cI (z3.fst),cB (z3.snd)];True/\(z2=true->iR (op - 1))/\(z2=true->0<=op - 1/\op - 1 < (22:Int))/\∀(d:ByteArray×((Sh.arr 7 Sh.bool).pair Sh.unit).den),(z2=true->NY[(op - 1).toNat]?=some d)->(z2=true->(0:Int)<=(0:Int)/\0 < ((List.length d.snd.fst):Int))/\∀(dL:Bool),(z2=true->d.snd.fst[0]?=some dL)->br (!decide z4 || !dL) (rT z1 [cI 0,cB false]) (rT z1 [cI a,cB true]):=by
 conv=>zeta
 delta cI cB rT iR
 by_cases h:pK op a b c obj n fo ord=0
 .obtain⟨r1,r2,r3,r4⟩:=mP (i:=(op,a,b,c,obj,n,fo,ord,())) h;have r4:1<=op/\op<=22:=r4;refine⟨trivial,λ_=>ay.2 (by omega),λ_=>by omega,λd hd=>?_⟩
  have hd:=hd (by simp[h])
  obtain⟨nm,us,u⟩:=d;have hu:=NZ r4 hd;subst hu;refine⟨λ_=>by simp,λd1 hd1=>?_⟩
  have hd1:use op 0=d1:=by simpa[h]using hd1
  subst hd1;rw[ah];have hc:qX (op,a,b,c,obj,n,fo,ord,())=0:=h;refine⟨λq=>?_,λq=>?_⟩
  .have q:use op 0=false:=by simpa[h]using q
   have e:nJ (op,a,b,c,obj,n,fo,ord,())=(0,false):=by unfold nJ;rw[if_pos (.inr q)]
   rw[e];exact⟨rfl,rfl⟩
  .have q:use op 0=true:=by simpa[h]using q
   have e:nJ (op,a,b,c,obj,n,fo,ord,())=(a,true):=by unfold nJ;rw[if_neg (by rw[hc];simp[q])]
   rw[e];exact⟨rfl,rfl⟩
 .have hc:¬qX (op,a,b,c,obj,n,fo,ord,())=0:=h;have e:nJ (op,a,b,c,obj,n,fo,ord,())=(0,false):=by unfold nJ;rw[if_pos (.inl hc)]
  rw[e];refine⟨trivial,λq=>by simp[h]at q,λq=>by simp[h]at q,λd hd=>⟨λq=>by simp[h]at q,λd1 hd1=>?_⟩⟩
  rw[ah];exact⟨λ_=>⟨rfl,rfl⟩,λq=>by simp[h]at q⟩
theorem abe:aW aT.gd 109 aiE:=
 kD (cx:=aT) (n:=19) (cl:=[(168,akL)]) aB ⟨N7,trivial⟩ Tryz.func109 λd hd=>by
  obtain⟨⟨op,a,b,c,obj,n,fo,ord,⟨⟩⟩,⟨⟩⟩:=d;exact aQ (λ_=>none) (agn op a b c obj n fo ord) (by kernel_rfl)
instance (l:List Int):Decidable (SS l):=inferInstanceAs (Decidable (l.Pairwise (· < ·)))
def qY(l:List Int):Bool:=decide (SS l)
theorem Rf:∀{l:List Int},(∀j x y,l[j]?=some x->l[j+1]?=some y->x < y)->SS l
 | [],_=>List.Pairwise.nil
 | [a],_=>by simp[SS]
 | a :: b :: l,h=>by
   have ih:SS (b :: l):=Rf λj x y h1 h2=>h (j+1) x y (by simpa using h1) (by simpa using h2)
   refine A80.2 ⟨λz hz=>?_,ih⟩
   have hab:=h 0 a b rfl rfl;rcases ng.1 hz with rfl | hz
   .exact hab
   .have:=(A80.1 ih).1 z hz;omega
theorem abf{l:List Int} (h:SS l){j:Nat}{x y:Int} (h1:l[j]?=some x) (h2:l[j+1]?=some y):x < y:=by
 obtain⟨a1,a2⟩:=eG.1 h1;obtain⟨b1,b2⟩:=eG.1 h2;have:=aiR.1 h j (j+1) a1 b1 (by omega)
 omega
abbrev ctV:CT:={ ps:=[.sl (.int .i64)],pre:=λd=>d.1.length<=1000000,res:=λd=>([],vB (qY d.1)) }
abbrev alv(l:List Int):Nat->Option (St->kS):=λk=>match k with
 | 2=>some λ_=>.inv { α:=Nat,slots:=λk=>[(3,.c (.v (.int .i64 k)))],res:=λ_=>[],inv:=λk=>(1<=k/\(k<=l.length\/k=1))/\∀j,j+1 < k->∀x y,l[j]?=some x->l[j+1]?=some y->x < y,meas:=λk=>l.length - k }
 | _=>none
theorem agp(l:List Int) (aH:ctV.pre (l,())):
 (∃x,((1<=x/\(x<=l.length\/x=1))/\∀(j:Nat),j+1 < x->∀(x y:Int),l[j]?=some x->l[j+1]?=some y->x < y)/\(cI 1=cI (x:Int)/\True)/\([]:List fD)=[])/\∀(x:Nat),((1<=x/\(x<=l.length\/x=1))/\∀(j:Nat),j+1 < x->∀(x y:Int),l[j]?=some x->l[j+1]?=some y->x < y)->br (decide ((x:Int) < (l.length:Int))) (iR ((x:Int) - (1:Int))/\(0<=(x:Int) - (1:Int)/\(x:Int) - 1 < (l.length:Int))/\∀(d:Int),l[((x:Int) - (1:Int)).toNat]?=some d->(0<=(x:Int)/\(x:Int) < (l.length:Int))/\∀(dL:Int),l[(x:Int).toNat]?=some dL->br (decide (dL<=d)) (qB (qY l) false) (iR ((x:Int)+(1:Int))/\∃x',((1<=x'/\(x'<=l.length\/x'=1))/\∀(j:Nat),j+1 < x'->∀(x y:Int),l[j]?=some x->l[j+1]?=some y->x < y)/\(cI ((x:Int)+(1:Int))=cI (x':Int)/\True)/\([]:List fD)=[]/\l.length - x' < l.length - x)) (qB (qY l) true):=by
 delta fD cI qB iR;have hp:l.length<=1000000:=aH;refine⟨⟨1,⟨⟨by omega,.inr rfl⟩,λj hj=>by omega⟩,⟨rfl,trivial⟩,rfl⟩,λk hk=>ah.2 ⟨λh=>?_,λh=>?_⟩⟩
 .simp only[dW]at h;have hk1:=hk.1.1;refine⟨ay.2 (by omega),by omega,λd hd=>⟨by omega,λe he=>?_⟩⟩
  have hd:l[k - 1]?=some d:=by rw[<-hd];congr 1;omega
  have he:l[k]?=some e:=by simpa using he
  have he':l[k - 1+1]?=some e:=by rw[show k - 1+1=k by omega];exact he
  refine ah.2 ⟨λh2=>?_,λh2=>⟨ay.2 (by omega),k+1,⟨⟨by omega,.inl (by omega)⟩,λj hj x y hx hy=>?_⟩,⟨by simp,trivial⟩,rfl,by omega⟩⟩
  .simp only[dW]at h2;have:qY l=false:=Dk λhs=>by have:=abf hs hd he';omega
   rw[this];exact⟨rfl,rfl⟩
  .simp only[gW]at h2
   by_cases jY:j+1=k
   .have hj':j=k - 1:=by omega
    subst hj';rw[hd]at hx;rw[he']at hy;cases hx;cases hy;omega
   .exact hk.2 j (by omega) x y hx hy
 .simp only[gW]at h;have:qY l=true:=Ph (Rf λj x y hx hy=>hk.2 j (by have:=(eG.1 hy).1;omega) x y hx hy)
  rw[this];exact⟨rfl,rfl⟩
theorem Oq:aW aT.gd 192 ctV:=
 kD (cx:=aT) (n:=20) (cl:=[]) aB trivial Tryz.func192 λd hd=>by
  obtain⟨l,⟨⟩⟩:=d;exact aQ (alv l) (agp l hd) (by kernel_rfl)
abbrev GV:CT:={ ps:=[.sl (.int .i64),.sl (.int .i64),.bool],pre:=λd=>d.1.length<=1000000/\d.2.1.length<=1000000,res:=λd=>([.row 3 (.int .i64) (nZ (bM d.1) d.2.1 d.2.2.1)],.one (.c (.row 0))) }
abbrev alx(l o:List Int) (b:Bool):Nat->Option (St->kS):=λk=>match k with
 | 3=>some λ_=>.inv { α:=Nat,slots:=λk=>[(13,.c (.v (.int .i64 k))),(7,.c (.row 1))],res:=λk=>[(1,.row 3 (.int .i64) (nZ ((bM l).take k) o b))],inv:=λk=>k<=(bM l).length,meas:=λk=>(bM l).length - k,nil:=[(7,3,.int .i64)] }
 | _=>none
theorem agq(l o:List Int) (b:Bool) (aH:GV.pre (l,o,b,())):
 let z3:=λ(x:Nat)=>nZ (List.take x (bM l)) o b;let z2:=λ(x:Nat)=>[g0 (au.row 3 I6 (bM l)),g0 (au.row 3 I6 (z3 x))];let z1:=λ(x x':Nat)=>cI ((x:Int)+(1:Int))=cI (x':Int)/\SV.c (SC.row 1)=SV.c (SC.row 1)/\True;l.length<=1000000/\(∃x,x<=(bM l).length/\(cI 0=cI (x:Int)/\SV.c (SC.row (Nat.succ 0))=SV.c (SC.row 1)/\True)/\[g0 (au.row 3 I6 (bM l)),g0 (au.row 3 I6 [])]=(z2 x))/\∀(x:Nat),x<=(bM l).length->br (decide ((x:Int) < (↑(bM l).length:Int))) ((0<=(x:Int)/\(x:Int) < (↑(bM l).length:Int))/\(x:Int).toNat < (bM l).length/\∀(d:Int),(bM l)[(x:Int).toNat]?=some d->o.length<=4611686018427387904/\br (dU o d == b) (oH (List.length (z3 x)+List.length ([d])) 8/\iR ((x:Int)+(1:Int))/\∃x',x'<=(bM l).length/\(z1 x x')/\[g0 (au.row 3 I6 (bM l)),g0 (au.row 3 I6 (nZ (List.take x (bM l)) o b++[d]))]=(z2 x')/\(bM l).length - x' < (bM l).length - x) (iR ((x:Int)+(1:Int))/\∃x',x'<=(bM l).length/\(z1 x x')/\(z2 x)=(z2 x')/\(bM l).length - x' < (bM l).length - x)) ([au.row 3 I6 (nZ (bM l) o b)]=[au.row 3 I6 (z3 x)]/\bg.one (SV.c (SC.row 0))=bg.one (SV.c (SC.row 0))):=by
 conv=>zeta
 delta cI g0 I6 iR;have hp:l.length<=1000000/\o.length<=1000000:=aH;have hm:=aaD l;have hf:∀k,(nZ ((bM l).take k) o b).length<=1000000:=λk=>by
  refine qP (Xv _ _) ?_;rw[lZ];omega
 refine⟨hp.1,⟨0,by omega,⟨rfl,rfl,trivial⟩,by simp[nZ]⟩,λk hk=>ah.2 ⟨λh=>?_,λh=>?_⟩⟩
 .simp only[dW]at h;refine⟨⟨by omega,h⟩,by omega,λd hd=>?_⟩
  have hd:(bM l)[k]?=some d:=by simpa using hd
  have e:nZ ((bM l).take (k+1)) o b=nZ ((bM l).take k) o b++(if dU o d == b then[d] else[]):=by
   unfold nZ;rw[RD,hd,ai0,List.filter_append]
   congr 1
   simp only[List.filter_cons,List.filter_nil]
  refine⟨by omega,ah.2 ⟨λh2=>⟨?_,ay.2 (by omega),k+1,by omega,⟨by simp,rfl,trivial⟩,?_,by omega⟩,λh2=>⟨ay.2 (by omega),k+1,by omega,⟨by simp,rfl,trivial⟩,?_,by omega⟩⟩⟩
  .have:=hf k;rw[fO];simp;omega
  .rw[e,h2];rfl
  .rw[e,h2];simp
 .simp only[gW]at h;rw[zi (by omega)];exact⟨rfl,rfl⟩
theorem abg:aW aT.gd 170 GV:=
 kD (cx:=aT) (n:=28) (cl:=[(169,Az),(98,Gu)]) aB ⟨Oe,Aw,trivial⟩ Tryz.func170 λd hd=>by
  obtain⟨l,o,b,⟨⟩⟩:=d;exact aQ (alx l o b) (agq l o b hd) (by kernel_rfl)
abbrev Ot:CT:={ ps:=[.sl (.int .i64),.int .i64],pre:=λd=>d.1.length<=1000000,res:=λd=>([.row 3 (.int .i64) (nZ (bM d.1) [d.2.1] false)],.one (.c (.row 0))) }
theorem agr(l:List Int) (x:Int) (aH:Ot.pre (l,x,())):
 let z1:=[au.row (3:TypeId) Au (nZ (bM l) [x] false)];(l.length<=(1000000:Nat)/\[x].length<=(1000000:Nat))/\z1=z1/\bg.one Jl=bg.one Jl:=by
 conv=>zeta
 delta Au Jl;have hp:l.length<=1000000:=aH;exact⟨⟨hp,by simp⟩,rfl,rfl⟩
theorem GX:aW aT.gd 112 Ot:=
 kD (cx:=aT) (n:=9) (cl:=[(170,GV)]) aB ⟨abg,trivial⟩ Tryz.func112 λd hd=>by
  obtain⟨l,x,⟨⟩⟩:=d;exact aQ (λ_=>none) (agr l x hd) (by kernel_rfl)
abbrev abh:CT:={ ps:=[.int .i64],pre:=λd=>0<=d.1/\d.1<=9223372036854775807,res:=λd=>([],.iO [.c (.v (.int .i64 (d.1.tdiv 8 - 1))),.c (.v (.int .i64 (d.1.tmod 8)))]) }
theorem ags(id:Int) (aH:abh.pre (id,())):
 let z2:=id.tdiv (8:Int) - (1:Int);let z1:=[cI z2,cI (id.tmod (8:Int))];(8:Int)≠(0:Int)/\iR (id.tdiv (8:Int))/\iR z2/\(8:Int)≠(0:Int)/\rT z1 z1:=by
 conv=>zeta
 delta cI rT iR;have hp:0<=id/\id<=9223372036854775807:=aH;have e:id.tdiv 8=id / 8:=adE hp.1;exact⟨by decide,ay.2 (by omega),ay.2 (by omega),by decide,rfl,rfl⟩
theorem abj:aW aT.gd 147 abh:=
 kD (cx:=aT) (n:=9) (cl:=[]) aB trivial Tryz.func147 λd hd=>by
  obtain⟨id,⟨⟩⟩:=d;exact aQ (λ_=>none) (ags id hd) (by kernel_rfl)
abbrev Ou:CT:={ ps:=[.int .i64],pre:=λd=>d.1<=9223372036854775807,res:=λd=>([],.one (.c (.v (.int .i64 (bQ d.1))))) }
abbrev aoQ(id:Int):Nat->Option (St->kS):=λk=>match k with
 | 4=>some λ_=>.inv { α:=Nat×Int,slots:=λx=>[(8,.c (.v (.int .i64 x.1))),(0,.c (.v (.int .i64 x.2)))],res:=λ_=>[],inv:=λx=>x.1<=5/\0<=x.2/\x.2<=9223372036854775807/\iF (5 - x.1) x.1 x.2=bQ id,meas:=λx=>5 - x.1 }
 | _=>none
theorem aly(id:Int) (aH:Ou.pre (id,())):
 let z2:=qI (bQ id) (-1:Int);let z1:=λ(x:Nat×Int)=>x.fst<=5/\0<=x.snd/\x.snd<=9223372036854775807/\iF (5 - x.fst) (x.fst:Int) x.snd=bQ id;br (decide (id < 0)) z2 ((∃(x:Nat×Int),(z1 x)/\(cI 0=cI (x.fst:Int)/\cI id=cI x.snd/\True)/\([]:List fD)=[])/\∀(x:Nat×Int),x.fst<=5/\0<=x.snd/\x.snd<=9223372036854775807/\iF (5 - x.fst) (x.fst:Int) x.snd=bQ id->br (decide ((x.fst:Int) < (5:Int))) (br (decide (x.snd < 8)) (qI (bQ id) (x.fst:Int)) ((0<=x.snd/\x.snd<=9223372036854775807)/\br (decide (7<=x.snd.tmod (8:Int))) z2 (iR ((x.fst:Int)+(1:Int))/\∃(x':Nat×Int),(z1 x')/\(cI ((x.fst:Int)+(1:Int))=cI (x'.fst:Int)/\cI (x.snd.tdiv (8:Int) - (1:Int))=cI x'.snd/\True)/\([]:List fD)=[]/\5 - x'.fst < 5 - x.fst))) z2):=by
 conv=>zeta
 delta fD cI qI iR;have hp:id<=9223372036854775807:=aH;refine ah.2 ⟨λh=>?_,λh=>?_⟩
 .simp only[dW]at h;have e:bQ id = -1:=by unfold bQ;rw[if_pos h]
  rw[e];exact⟨rfl,rfl⟩
 simp only[gW]at h;refine⟨⟨(0,id),⟨by omega,by simp only;omega,hp,by unfold bQ;rw[if_neg h];rfl⟩,⟨rfl,rfl,trivial⟩,rfl⟩,λx hx=>ah.2 ⟨λh2=>?_,λh2=>?_⟩⟩
 .obtain⟨x1,x2,x3,x4⟩:=hx;simp only[dW]at h2;obtain⟨m,hm⟩:∃m,5 - x.1=m+1:=⟨4 - x.1,by omega⟩
  rw[hm,iF]at x4;refine ah.2 ⟨λh3=>?_,λh3=>⟨⟨x2,x3⟩,ah.2 ⟨λh4=>?_,λh4=>?_⟩⟩⟩
  .simp only[dW]at h3;rw[if_pos h3]at x4;rw[<-x4];exact⟨rfl,rfl⟩
  .simp only[dW,gW]at h3 h4;rw[if_neg h3,if_pos h4]at x4;rw[<-x4];exact⟨rfl,rfl⟩
  .simp only[gW]at h3 h4;rw[if_neg h3,if_neg h4]at x4;have e:x.2.tdiv 8=x.2 / 8:=adE x2;refine⟨ay.2 (by omega),(x.1+1,x.2.tdiv 8 - 1),⟨by simp only;omega,by simp only;omega,by simp only;omega,?_⟩,⟨rfl,rfl,trivial⟩,rfl,by simp only;omega⟩
   rw[<-x4,show 5 - (x.1+1)=m by omega];rfl
 .obtain⟨x1,x2,x3,x4⟩:=hx;simp only[gW]at h2;rw[show 5 - x.1=0 by omega]at x4
  rw[<-x4];exact⟨rfl,rfl⟩
theorem Lj:aW aT.gd 76 Ou:=
 kD (cx:=aT) (n:=23) (cl:=[(147,abh)]) aB ⟨abj,trivial⟩ Tryz.func76 λd hd=>by
  obtain⟨id,⟨⟩⟩:=d;exact aQ (aoQ id) (aly id hd) (by kernel_rfl)
abbrev Uc:CT:={ ps:=[dR],pre:=λd=>d.1.1<=9223372036854775807,res:=λd=>([],.iO [.c (.v (.int .i64 (dJ d.1.1 d.1.2.2.2.2.2.1).1)),.c (.v (.bool (dJ d.1.1 d.1.2.2.2.2.2.1).2))]) }
theorem alz(id fn pc:Int) (rg:List Int) (st ch ph su fa:Int) (he:List Int) (aH:Uc.pre ((id,fn,pc,rg,st,ch,ph,su,fa,he,()),())):
 let z1:=[cI ((dJ id ch).fst),cB ((dJ id ch).snd)];id<=9223372036854775807/\br (decide (bQ id < 0) || decide (bQ id=4) || decide (ch < 0) || decide (7<=ch)) (rT z1 [cI 0,cB false]) (iR (id+1)/\iR ((8:Int) * (id+1))/\iR ((8:Int) * (id+1)+ch)/\rT z1 [cI ((8:Int) * (id+1)+ch),cB true]):=by
 conv=>zeta
 delta cI cB rT iR;refine⟨aH,ah.2 ⟨λh=>?_,λh=>?_⟩⟩
 .have e:dJ id ch=(0,false):=by
   unfold dJ;rw[if_pos (by simpa[or_assoc]using h)]
  rw[e];exact⟨rfl,rfl⟩
 .simp only[oV,gW]at h;have e:dJ id ch=(8 * (id+1)+ch,true):=by
   unfold dJ;rw[if_neg (by omega)]
  have:=kZ (id:=id) (by omega)
  rw[e];exact⟨ay.2 (by omega),ay.2 (by omega),ay.2 (by omega),rfl,rfl⟩
theorem Ud:aW aT.gd 89 Uc:=
 kD (cx:=aT) (n:=31) (cl:=[(76,Ou)]) aB ⟨Lj,trivial⟩ Tryz.func89 λd hd=>by
  obtain⟨⟨id,fn,pc,rg,st,ch,ph,su,fa,he,⟨⟩⟩,⟨⟩⟩:=d;exact aQ (λ_=>none) (alz id fn pc rg st ch ph su fa he hd) (by kernel_rfl)
abbrev Rh:CT:={ ps:=[sS,dR],pre:=λd=>0<=d.2.1.2.1/\d.2.1.2.1 < d.1.2.2.2.1.length/\0<=d.2.1.2.2.1,res:=λd=>([],.iO [.agg [.v (.int .i64 ((atR d.1.2.2.2.1 d.2.1.2.1 d.2.1.2.2.1).1).1),.v (.int .i64 ((atR d.1.2.2.2.1 d.2.1.2.1 d.2.1.2.2.1).1).2.1),.v (.int .i64 ((atR d.1.2.2.2.1 d.2.1.2.1 d.2.1.2.2.1).1).2.2.1),.v (.int .i64 ((atR d.1.2.2.2.1 d.2.1.2.1 d.2.1.2.2.1).1).2.2.2.1),.v (.int .i64 ((atR d.1.2.2.2.1 d.2.1.2.1 d.2.1.2.2.1).1).2.2.2.2.1),.v (.int .i64 ((atR d.1.2.2.2.1 d.2.1.2.1 d.2.1.2.2.1).1).2.2.2.2.2.1),.v (.int .i64 ((atR d.1.2.2.2.1 d.2.1.2.1 d.2.1.2.2.1).1).2.2.2.2.2.2.1),.v (.int .i64 ((atR d.1.2.2.2.1 d.2.1.2.1 d.2.1.2.2.1).1).2.2.2.2.2.2.2.1)],.c (.v (.bool (atR d.1.2.2.2.1 d.2.1.2.1 d.2.1.2.2.1).2))]) }
theorem alA(vs:List VD) (ms cs:List ByteArray) (fs:List FD) (ts:List SD) (id fn pc:Int) (rg:List Int) (st ch ph su fa:Int) (he:List Int) (aH:Rh.pre ((vs,ms,cs,fs,ts,()),(id,fn,pc,rg,st,ch,ph,su,fa,he,()),())):
 let z1:=[SV.agg [v6 ((atR fs fn pc).fst.fst),v6 ((atR fs fn pc).fst.snd.fst),v6 ((atR fs fn pc).fst.snd.snd.fst),v6 ((atR fs fn pc).fst.snd.snd.snd.fst),v6 ((atR fs fn pc).fst.snd.snd.snd.snd.fst),v6 ((atR fs fn pc).fst.snd.snd.snd.snd.snd.fst),v6 ((atR fs fn pc).fst.snd.snd.snd.snd.snd.snd.fst),v6 ((atR fs fn pc).fst.snd.snd.snd.snd.snd.snd.snd.fst)],cB ((atR fs fn pc).snd)];(0<=fn/\fn < (fs.length:Int))/\∀(d:ByteArray×(oP.sl.pair Sh.unit).den),fs[fn.toNat]?=some d->br (decide (((List.length d.snd.fst):Int)<=pc)) (rT z1 [SV.agg [v6 0,v6 0,v6 0,v6 0,v6 0,v6 0,v6 0,v6 0],cB false]) ((0<=pc/\pc < ((List.length d.snd.fst):Int))/\∀(dL:ID),d.snd.fst[pc.toNat]?=some dL->rT z1 [SV.agg [v6 dL.fst,v6 dL.snd.fst,v6 dL.snd.snd.fst,v6 dL.snd.snd.snd.fst,v6 dL.snd.snd.snd.snd.fst,v6 dL.snd.snd.snd.snd.snd.fst,v6 dL.snd.snd.snd.snd.snd.snd.fst,v6 dL.snd.snd.snd.snd.snd.snd.snd.fst],cB true]):=by
 conv=>zeta
 delta v6 cB rT I6;obtain⟨h1,h2,h3⟩:0<=fn/\fn < (fs.length:Int)/\0<=pc:=aH;refine⟨⟨h1,h2⟩,λx hx=>?_⟩
 obtain⟨y,hy,ey⟩:=sU ⟨h1,h2⟩;rw[hx]at hy;cases hy;refine ah.2 ⟨λh=>?_,λh=>?_⟩
 .simp only[dW]at h;have e:atR fs fn pc=((0,0,0,0,0,0,0,0,()),false):=by
   unfold atR qh;rw[ey,Ht (by omega)]
  rw[e];exact⟨rfl,rfl⟩
 .simp only[gW]at h;refine⟨⟨h3,by omega⟩,λi hi=>?_⟩
  have e:atR fs fn pc=(i,true):=by
   unfold atR qh;rw[ey,hi]
  rw[e];exact⟨rfl,rfl⟩
theorem AZ:aW aT.gd 95 Rh:=
 fG (cx:=aT) (n:=25) (cl:=[]) (rc:=[]) aB trivial Tryz.func95 λd hd=>by
  obtain⟨⟨vs,ms,cs,fs,ts,⟨⟩⟩,⟨id,fn,pc,rg,st,ch,ph,su,fa,he,⟨⟩⟩,⟨⟩⟩:=d;exact aQ (λ_=>none) (alA vs ms cs fs ts id fn pc rg st ch ph su fa he hd) (by kernel_rfl)
abbrev abk:CT:={ ps:=[dR,.int .i64,.int .i64],pre:=λd=>True,res:=λd=>([],.one (.dat dR (Ld d.1 d.2.1 d.2.2.1))) }
theorem agt(id fn pc:Int) (rg:List Int) (st ch ph su fa:Int) (he:List Int) (s f:Int):
 rE (bg.one (SV.dat dR (Ld (id,fn,pc,rg,st,ch,ph,su,fa,he,()) s f))) (bg.one (SV.dat dR ((id,fn,pc,rg,st,ch,ph,s,f,he,())))):=by
 delta rE I6;exact⟨rfl,rfl⟩
theorem Ov:aW aT.gd 148 abk:=
 fG (cx:=aT) (n:=12) (cl:=[]) (rc:=[.data dR]) aB trivial Tryz.func148 λd hd=>by
  obtain⟨⟨id,fn,pc,rg,st,ch,ph,su,fa,he,⟨⟩⟩,s,f,⟨⟩⟩:=d;exact aQ (λ_=>none) (agt id fn pc rg st ch ph su fa he s f) (by kernel_rfl)
abbrev Ue:CT:={ ps:=[dR,oP],pre:=λd=>d.1.2.2.2.2.2.2.2.2.2.1.length<=1000000/\d.1.1<=9223372036854775807,res:=λd=>([],.one (.c (.v (.int .i64 (lD d.1.1 d.1.2.2.2.2.2.1 d.1.2.2.2.2.2.2.1 d.1.2.2.2.2.2.2.2.2.2.1 d.2.1))))) }
theorem agu(id fn pc:Int) (rg:List Int) (st ch ph su fa:Int) (he:List Int) (op a b c obj n fo ord:Int) (aH:Ue.pre ((id,fn,pc,rg,st,ch,ph,su,fa,he,()),(op,a,b,c,obj,n,fo,ord,()),())):
 let z3:=lD id ch ph he (op,a,b,c,obj,n,fo,ord,());let z2:=qI z3 (0:Int);let z1:=qI z3 (27:Int);br (!decide (ph=0)) z2 (br (decide (op=18)) (he.length<=1000000/\br (!dU he n) z1 z2) (br (decide (op=16)) (he.length<=1000000/\br (!dU he obj) z1 z2) (br (decide (op=21)) (id<=9223372036854775807/\br (!(dJ id ch).snd) (qI z3 (28:Int)) z2) z2))):=by
 conv=>zeta
 delta qI;obtain⟨h1,h2⟩:he.length<=1000000/\id<=9223372036854775807:=aH;unfold lD;simp only[ah]
 repeat' (first | exact h1 | exact h2 | (refine And.intro ?_ ?_) | (intro _))
 all_goals first | rfl | (simp_all;done)
theorem Ox:aW aT.gd 150 Ue:=
 kD (cx:=aT) (n:=35) (cl:=[(165,Jm),(89,Uc)]) aB ⟨AA,Ud,trivial⟩ Tryz.func150 λd hd=>by
  obtain⟨⟨id,fn,pc,rg,st,ch,ph,su,fa,he,⟨⟩⟩,⟨op,a,b,c,obj,n,fo,ord,⟨⟩⟩,⟨⟩⟩:=d;exact aQ (λ_=>none) (agu id fn pc rg st ch ph su fa he op a b c obj n fo ord hd) (by kernel_rfl)
theorem bV{c:Prop} [Decidable c] {A B:Prop}:br (decide c) A B↔(c->A)/\(¬c->B):=by
 rw[ah,dW,gW]
abbrev abl:CT:={ ps:=[dR,oP],pre:=λd=>(0<=d.2.1.2.1/\d.2.1.2.1 < 8)/\(0<=d.2.1.2.2.1/\d.2.1.2.2.1 < 8)/\(0<=d.2.1.2.2.2.1/\d.2.1.2.2.2.1 < 8)/\0<=d.1.2.2.1/\d.1.2.2.1<=1000000,res:=λd=>([],.iO [.dat dR (fQ d.1 d.2.1).1,.c (.v (.bool (fQ d.1 d.2.1).2))]) }
theorem agv(id fn pc:Int) (rg:List Int) (st ch ph su fa:Int) (he:List Int) (op a b c obj n fo ord:Int) (aH:abl.pre ((id,fn,pc,rg,st,ch,ph,su,fa,he,()),(op,a,b,c,obj,n,fo,ord,()),())):
 let z5:=(id,fn,pc,rg,st,ch,ph,su,fa,he,());let z4:=fQ z5 (op,a,b,c,obj,n,fo,ord,());let z3:=[SV.dat dR z4.fst,cB (z4.snd)];let z1:=rT z3 [SV.dat dR ((id,fn,pc+1,rg,st,ch,ph,su,fa,he,())),cB true];let z2:=rT z3 [SV.dat dR ((id,fn,n,rg,st,ch,ph,su,fa,he,())),cB true];iR (pc+1)/\br (decide (op=1)) ((0<=a/\a < 8)/\a.toNat < 8/\rT z3 [SV.dat dR ((id,fn,pc+1,rg.set a.toNat n,st,ch,ph,su,fa,he,())),cB true]) (br (decide (op=2)) ((0<=b/\b < 8)/\b.toNat < 8/\∀(d:Int),rg[b.toNat]?=some d->(0<=a/\a < 8)/\a.toNat < 8/\rT z3 [SV.dat dR ((id,fn,pc+1,rg.set a.toNat d,st,ch,ph,su,fa,he,())),cB true]) (br (decide (op=3)) ((0<=b/\b < 8)/\b.toNat < 8/\∀(d:Int),rg[b.toNat]?=some d->(0<=c/\c < 8)/\c.toNat < 8/\∀(dL:Int),rg[c.toNat]?=some dL->True/\br (decide ((iE fo d dL).snd=0)) ((0<=a/\a < 8)/\a.toNat < 8/\rT z3 [SV.dat dR ((id,fn,pc+1,rg.set a.toNat (iE fo d dL).fst,st,ch,ph,su,fa,he,())),cB true]) z1) (br (decide (op=5)) ((0<=b/\b < 8)/\b.toNat < 8/\∀(d:Int),rg[b.toNat]?=some d->br (decide (d=0)) z1 z2) (br (decide (op=4)) z2 (br (decide (op=6)) ((0<=b/\b < 8)/\b.toNat < 8/\∀(d:Int),rg[b.toNat]?=some d->br (decide (d=0)) (True/\rT z3 [SV.dat dR (Ld z5 (3:Int) (26:Int)),cB false]) z1) (br (decide (op=7)) (True/\rT z3 [SV.dat dR (Ld z5 (2:Int) (0:Int)),cB false]) z1)))))):=by
 conv=>zeta
 delta cB rT I6 iR;obtain⟨hA,hB,hC,hp0,hp1⟩:(0<=a/\a < 8)/\(0<=b/\b < 8)/\(0<=c/\c < 8)/\0<=pc/\pc<=1000000:=aH;have hA8:a.toNat < 8:=by omega
 have hB8:b.toNat < 8:=by omega
 have hC8:c.toNat < 8:=by omega
 have gd:∀{x d:Int},rg[x.toNat]?=some d->rg.getD x.toNat 0=d:=λhd=>by rw[LQ,hd];rfl
 refine⟨ay.2 (by omega),bV.2 ⟨λh=>?_,λh=>bV.2 ⟨λh2=>?_,λh2=>bV.2 ⟨λh3=>?_,λh3=>bV.2 ⟨λh4=>?_,λh4=>bV.2 ⟨λh5=>?_,λh5=>bV.2 ⟨λh6=>?_,λh6=>bV.2 ⟨λh7=>?_,λh7=>?_⟩⟩⟩⟩⟩⟩⟩⟩
 .have e:fQ (id,fn,pc,rg,st,ch,ph,su,fa,he,()) (op,a,b,c,obj,n,fo,ord,())=((id,fn,pc+1,rg.set a.toNat n,st,ch,ph,su,fa,he,()),true):=by simp only[fQ,if_pos h]
  rw[e];exact⟨hA,hA8,rfl,rfl⟩
 .refine⟨hB,hB8,λd hd=>?_⟩
  have e:fQ (id,fn,pc,rg,st,ch,ph,su,fa,he,()) (op,a,b,c,obj,n,fo,ord,())=((id,fn,pc+1,rg.set a.toNat d,st,ch,ph,su,fa,he,()),true):=by simp only[fQ,if_neg h,if_pos h2,gd hd]
  rw[e];exact⟨hA,hA8,rfl,rfl⟩
 .refine⟨hB,hB8,λd hd=>⟨hC,hC8,λd1 hd1=>⟨trivial,bV.2 ⟨λh8=>?_,λh8=>?_⟩⟩⟩⟩
  .have e:fQ (id,fn,pc,rg,st,ch,ph,su,fa,he,()) (op,a,b,c,obj,n,fo,ord,())=((id,fn,pc+1,rg.set a.toNat (iE fo d d1).1,st,ch,ph,su,fa,he,()),true):=by simp only[fQ,if_neg h,if_neg h2,if_pos h3,gd hd,gd hd1,if_pos h8]
   rw[e];exact⟨hA,hA8,rfl,rfl⟩
  .have e:fQ (id,fn,pc,rg,st,ch,ph,su,fa,he,()) (op,a,b,c,obj,n,fo,ord,())=((id,fn,pc+1,rg,st,ch,ph,su,fa,he,()),true):=by simp only[fQ,if_neg h,if_neg h2,if_pos h3,gd hd,gd hd1,if_neg h8]
   rw[e];exact⟨rfl,rfl⟩
 .have h45:¬op=4:=by omega
  refine⟨hB,hB8,λd hd=>bV.2 ⟨λh8=>?_,λh8=>?_⟩⟩
  .have e:fQ (id,fn,pc,rg,st,ch,ph,su,fa,he,()) (op,a,b,c,obj,n,fo,ord,())=((id,fn,pc+1,rg,st,ch,ph,su,fa,he,()),true):=by simp only[fQ,if_neg h,if_neg h2,if_neg h3,if_neg h45,if_pos h4,gd hd,if_pos h8]
   rw[e];exact⟨rfl,rfl⟩
  .have e:fQ (id,fn,pc,rg,st,ch,ph,su,fa,he,()) (op,a,b,c,obj,n,fo,ord,())=((id,fn,n,rg,st,ch,ph,su,fa,he,()),true):=by simp only[fQ,if_neg h,if_neg h2,if_neg h3,if_neg h45,if_pos h4,gd hd,if_neg h8]
   rw[e];exact⟨rfl,rfl⟩
 .have e:fQ (id,fn,pc,rg,st,ch,ph,su,fa,he,()) (op,a,b,c,obj,n,fo,ord,())=((id,fn,n,rg,st,ch,ph,su,fa,he,()),true):=by simp only[fQ,if_neg h,if_neg h2,if_neg h3,if_pos h5]
  rw[e];exact⟨rfl,rfl⟩
 .refine⟨hB,hB8,λd hd=>bV.2 ⟨λh8=>?_,λh8=>?_⟩⟩
  .have e:fQ (id,fn,pc,rg,st,ch,ph,su,fa,he,()) (op,a,b,c,obj,n,fo,ord,())=((id,fn,pc,rg,st,ch,ph,3,26,he,()),false):=by simp only[fQ,if_neg h,if_neg h2,if_neg h3,if_neg h5,if_neg h4,gd hd];rw[if_pos ⟨h6,h8⟩]
   rw[e];exact⟨trivial,rfl,rfl⟩
  .have h67:¬op=7:=by omega
   have e:fQ (id,fn,pc,rg,st,ch,ph,su,fa,he,()) (op,a,b,c,obj,n,fo,ord,())=((id,fn,pc+1,rg,st,ch,ph,su,fa,he,()),true):=by simp only[fQ,if_neg h,if_neg h2,if_neg h3,if_neg h5,if_neg h4,gd hd,if_neg h67];rw[if_neg λq=>h8 q.2]
   rw[e];exact⟨rfl,rfl⟩
 .have e:fQ (id,fn,pc,rg,st,ch,ph,su,fa,he,()) (op,a,b,c,obj,n,fo,ord,())=((id,fn,pc,rg,st,ch,ph,2,0,he,()),false):=by simp only[fQ,if_neg h,if_neg h2,if_neg h3,if_neg h5,if_neg h4,if_pos h7];rw[if_neg λq=>h6 q.1]
  rw[e];exact⟨trivial,rfl,rfl⟩
 .have e:fQ (id,fn,pc,rg,st,ch,ph,su,fa,he,()) (op,a,b,c,obj,n,fo,ord,())=((id,fn,pc+1,rg,st,ch,ph,su,fa,he,()),true):=by simp only[fQ,if_neg h,if_neg h2,if_neg h3,if_neg h5,if_neg h4,if_neg h7];rw[if_neg λq=>h6 q.1]
  rw[e];exact⟨rfl,rfl⟩
theorem abm:aW aT.gd 151 abl:=
 fG (cx:=aT) (n:=87) (cl:=[(97,Ub),(148,abk)]) (rc:=[.data dR,.keep]) aB ⟨Lh,Ov,trivial⟩ Tryz.func151 λd hd=>by
  obtain⟨⟨id,fn,pc,rg,st,ch,ph,su,fa,he,⟨⟩⟩,⟨op,a,b,c,obj,n,fo,ord,⟨⟩⟩,⟨⟩⟩:=d;exact aQ (λ_=>none) (agv id fn pc rg st ch ph su fa he op a b c obj n fo ord hd) (by kernel_rfl)
abbrev vg:CT:={ ps:=[sS,.int .i64],pre:=λd=>bnd (d.1,()),res:=λd=>([],.one (.c (.v (.int .i64 (dG (aG d.1.1 d.1.2.1 d.1.2.2.1 d.1.2.2.2.1 d.1.2.2.2.2.1).1 d.2.1))))) }
theorem alB(vs:List VD) (ms cs:List ByteArray) (fs:List FD) (ts:List SD) (bound:Int) (aH:vg.pre ((vs,ms,cs,fs,ts,()),bound,())):
 let z2:=aG vs ms cs fs ts;let z1:=dG z2.fst bound;(vs.length<=1000000/\ms.length<=1000000/\cs.length<=1000000/\fs.length<=1000000/\ts.length<=1000000/\(∀(x:ByteArray×(oP.sl.pair Sh.unit).den),x∈fs->List.length x.snd.fst<=1000000)/\(dO fs).length<=1000000)/\br (!decide (z2.fst=0)) (qI z1 (z2.fst)) (br (decide (bound < 1) || decide (32 < bound)) (qI z1 (2:Int)) (qI z1 (0:Int))):=by
 conv=>zeta
 delta qI I6;have hb:bnd ((vs,ms,cs,fs,ts,()),()):=aH;refine⟨hb,ah.2 ⟨λh=>?_,λh=>ah.2 ⟨λh2=>?_,λh2=>?_⟩⟩⟩
 .have h:(aG vs ms cs fs ts).1≠0:=by simpa using h
  unfold dG;rw[if_pos h];exact⟨rfl,rfl⟩
 .have h:¬(aG vs ms cs fs ts).1≠0:=by simpa using h
  have h2:bound < 1\/32 < bound:=by simpa using h2
  unfold dG;rw[if_neg h,if_pos h2];exact⟨rfl,rfl⟩
 .have h:¬(aG vs ms cs fs ts).1≠0:=by simpa using h
  have h2:¬(bound < 1\/32 < bound):=by simp only[oV,gW]at h2;omega
  unfold dG;rw[if_neg h,if_neg h2];exact⟨rfl,rfl⟩
theorem Ll:aW aT.gd 75 vg:=
 kD (cx:=aT) (n:=23) (cl:=[(74,Jr)]) aB ⟨En,trivial⟩ Tryz.func75 λd hd=>by
  obtain⟨⟨vs,ms,cs,fs,ts,⟨⟩⟩,bound,⟨⟩⟩:=d;exact aQ (λ_=>none) (alB vs ms cs fs ts bound hd) (by kernel_rfl)
open Classical in
theorem qN:mY ms fs bound t=true↔dB ms fs bound t:=by
 unfold mY;rw[A82]
theorem Iy(h:¬dB ms fs bound t):mY ms fs bound t=false:=A96.2 λq=>h (qN.1 q)
open Classical in
theorem pU:wI ms fs bound t=true↔vM ms fs bound t:=by
 unfold wI;rw[A82]
theorem Ri(h:¬vM ms fs bound t):wI ms fs bound t=false:=A96.2 λq=>h (pU.1 q)
abbrev abn:CT:={ ps:=[sS,.int .i64,dR],pre:=λd=>True/\d.2.2.1.2.2.2.2.2.2.2.2.2.1.length<=1000000/\d.2.2.1.1<=9223372036854775807/\d.2.2.1.2.2.2.1.length=8,res:=λd=>([],vB (mY d.1.2.1 d.1.2.2.2.1 d.2.1 d.2.2.1)) }
abbrev alC(vs:List VD) (ms cs:List ByteArray) (fs:List FD) (ts:List SD) (bound id fn pc:Int) (rg:List Int) (st ch ph su fa:Int) (he:List Int):Nat->Option (St->kS):=λk=>match k with
 | 5=>some λ_=>.inv { α:=Nat,slots:=λk=>[(52,.c (.v (.int .i64 k)))],res:=λ_=>[],inv:=λk=>k<=8/\∀j < k,∀r,rg[j]?=some r->cO r=true,meas:=λk=>8 - k }
 | 13=>some λ_=>.inv { α:=Nat,slots:=λk=>[(97,.c (.v (.int .i64 k)))],res:=λ_=>[],inv:=λk=>k<=he.length/\∀j < k,∀m,he[j]?=some m->0<=m/\m < ms.length,meas:=λk=>he.length - k }
 | _=>none
theorem agw(vs:List VD) (ms cs:List ByteArray) (fs:List FD) (ts:List SD) (bound id fn pc:Int) (rg:List Int) (st ch ph su fa:Int) (he:List Int) (aH:abn.pre ((vs,ms,cs,fs,ts,()),bound,(id,fn,pc,rg,st,ch,ph,su,fa,he,()),())):
 let z3:=!(decide (bQ id < 0) || decide (fn < 0) || decide ((fs.length:Int)<=fn) || decide (pc < 0));let z7:=(id,fn,pc,rg,st,ch,ph,su,fa,he,());let z6:=mY ms fs bound z7;let z5:=qB z6 false;let z4:=λ(x:Nat)=>(x<=8/\∀(j:Nat),j < x->∀(r:Int),rg[j]?=some r->cO r=true);let z1:=[g0 (au.blk 27 [SC.sl KW vs,SC.sl Sh.str ms,SC.sl Sh.str cs,SC.sl H8 fs,SC.sl nS ts]),g0 (au.obj 56 dR z7)];let z10:=λ(x:Nat)=>(x:Int)+(1:Int);let z2:=λ(x:Nat)=>(x<=he.length/\∀(j:Nat),j < x->∀(m:Int),he[j]?=some m->0<=m/\m < (ms.length:Int));let z8:=decide (ph=1) || decide (ph=2);let z9:=(atR fs fn pc).fst.fst=18;id<=9223372036854775807/\(z3=true->0<=fn/\fn < (fs.length:Int))/\∀(d:ByteArray×(oP.sl.pair Sh.unit).den),(z3=true->fs[fn.toNat]?=some d)->br (decide (bQ id < 0) || decide (fn < 0) || decide ((fs.length:Int)<=fn) || decide (pc < 0) || decide (((List.length d.snd.fst):Int) < pc)) z5 ((∃x,(z4 x)/\(cI 0=cI (x:Int)/\True)/\sm z1)/\∀(x:Nat),(z4 x)->br (decide ((x:Int) < (8:Int))) ((0<=(x:Int)/\(x:Int) < (rg.length:Int))/\∀(d:Int),rg[(x:Int).toNat]?=some d->True/\br (!decide (aZ d=d)) z5 (iR (z10 x)/\∃x',(z4 x')/\(cI (z10 x)=cI (x':Int)/\True)/\sm z1/\8 - x' < 8 - x)) (((!(decide (st < 0) || decide (bound < st) || decide (ch < 0) || decide (7 < ch) || decide (bQ id=4) && !decide (ch=0)))=true->he.length<=1000000)/\br (decide (st < 0) || decide (bound < st) || decide (ch < 0) || decide (7 < ch) || decide (bQ id=4) && !decide (ch=0) || !qY he) z5 ((∃x,(z2 x)/\(cI 0=cI (x:Int)/\True)/\sm z1)/\∀(x:Nat),(z2 x)->br (decide ((x:Int) < (he.length:Int))) ((0<=(x:Int)/\(x:Int) < (he.length:Int))/\∀(d:Int),he[(x:Int).toNat]?=some d->br (decide (d < 0) || decide ((ms.length:Int)<=d)) z5 (iR (z10 x)/\∃x',(z2 x')/\(cI (z10 x)=cI (x':Int)/\True)/\sm z1/\he.length - x' < he.length - x)) (br (decide (ph=0)) (qB z6 true) ((0<=fn/\fn < (fs.length:Int)/\0<=pc)/\((z8 && (atR fs fn pc).snd && decide z9)=true->he.length<=1000000)/\qB z6 (z8 && (atR fs fn pc).snd && decide z9 && !dU he (atR fs fn pc).fst.snd.snd.snd.snd.snd.fst)))))):=by
 conv=>zeta
 delta cI g0 qB sm I6 iR;obtain⟨_,Iz,hid,hrg⟩:True/\he.length<=1000000/\id<=9223372036854775807/\rg.length=8:=aH;have fF:¬dB ms fs bound (id,fn,pc,rg,st,ch,ph,su,fa,he,())->([]:List Go.ni.au)=[]/\bg.one (SV.c (SC.v (Value.bool (mY ms fs bound (id,fn,pc,rg,st,ch,ph,su,fa,he,())))))=bg.one (SV.c (SC.v (Value.bool false))):=λq=>⟨rfl,by rw[Iy q]⟩
 refine⟨hid,λg=>by simp at g;omega,λx hx=>ah.2 ⟨λh=>?_,λh=>?_⟩⟩
 .refine fF λq=>?_
  obtain⟨q1,q2,q3,_⟩:=q;obtain⟨y,hy,ey⟩:=sU q2;have hx:=hx (by simp;omega)
  rw[hx]at hy;cases hy;rw[ey]at q3;simp at h;omega
 simp only[oV,gW]at h;obtain⟨⟨⟨⟨h1,h2⟩,h3⟩,h4⟩,h5⟩:=h;have hx:=hx (by simp;omega)
 have hfn:0<=fn/\fn < (fs.length:Int):=by omega
 obtain⟨y,hy,ey⟩:=sU hfn;rw[hx]at hy;cases hy;have hpc:0<=pc/\pc<=((codeF fs fn).length:Int):=by rw[ey];omega
 refine⟨⟨0,⟨by omega,λj hj=>by omega⟩,⟨rfl,trivial⟩,rfl⟩,λk hk=>ah.2 ⟨λh=>?_,λh=>?_⟩⟩
 .simp only[dW]at h;refine⟨by omega,λd hd=>⟨trivial,ah.2 ⟨λh6=>?_,λh6=>⟨ay.2 (by omega),k+1,⟨by omega,λj hj r hr=>?_⟩,⟨rfl,trivial⟩,rfl,by omega⟩⟩⟩⟩
  .refine fF λq=>?_
   have:=q.2.2.2.1 k (by omega) d hd
   unfold cO at this;have h6:¬aZ d=d:=by simpa using h6
   exact h6 (Gz.2 (by simpa using this))
  .have h6:aZ d=d:=by simpa using h6
   by_cases jY:j=k
   .subst jY;have hd:rg[j]?=some d:=hd;rw[hd]at hr;cases hr;unfold cO;exact Ph (Gz.1 h6)
   .exact hk.2 j (by omega) r hr
 simp only[gW]at h;have hr:∀k < 8,∀r,rg[k]?=some r->cO r=true:=λj hj r hr=>hk.2 j (by omega) r hr
 refine⟨λ_=>Iz,ah.2 ⟨λh7=>?_,λh7=>?_⟩⟩
 .refine fF λq=>?_
  obtain⟨_,_,_,_,q5,q6,q7,_⟩:=q;have e:qY he=true:=Ph q7;rw[e]at h7;simp at h7;omega
 simp only[oV,A98,Di,gW,dW]at h7;obtain⟨⟨⟨⟨⟨a1,a2⟩,a3⟩,a4⟩,a5⟩,a6⟩:=h7;have hss:SS he:=RF a6;refine⟨⟨0,⟨by omega,λj hj=>by omega⟩,⟨rfl,trivial⟩,rfl⟩,λm hm=>ah.2 ⟨λh8=>?_,λh8=>?_⟩⟩
 .simp only[dW]at h8;refine⟨by omega,λd hd=>ah.2 ⟨λh9=>?_,λh9=>⟨ay.2 (by omega),m+1,⟨by omega,λj hj r hr=>?_⟩,⟨rfl,trivial⟩,rfl,by omega⟩⟩⟩
  .refine fF λq=>?_
   have:=q.2.2.2.2.2.2.2.1 d (iM hd);simp at h9;omega
  .by_cases jY:j=m
   .subst jY;have hd:he[j]?=some d:=hd;rw[hd]at hr;cases hr;simp at h9;omega
   .exact hm.2 j (by omega) r hr
 simp only[gW]at h8;have hmm:∀m∈he,0<=m/\m < (ms.length:Int):=λy hy=>by
  obtain⟨j,hj⟩:=Hu hy;exact hm.2 j (by have:=(eG.1 hj).1;omega) y hj
 have base:(ph=0\/((ph=1\/ph=2)/\∃i,qh fs fn pc=some i/\i.1=18/\dU he i.2.2.2.2.2.1=false))↔dB ms fs bound (id,fn,pc,rg,st,ch,ph,su,fa,he,()):=
  ⟨λq=>⟨by omega,hfn,hpc,hr,by omega,⟨by omega,by omega,λe=>by omega⟩,hss,hmm,q⟩,λq=>q.2.2.2.2.2.2.2.2⟩
 have fB:∀b:Bool,(b=true↔(ph=0\/((ph=1\/ph=2)/\∃i,qh fs fn pc=some i/\i.1=18/\dU he i.2.2.2.2.2.1=false)))->bg.one (SV.c (SC.v (Value.bool (mY ms fs bound (id,fn,pc,rg,st,ch,ph,su,fa,he,())))))=bg.one (SV.c (SC.v (Value.bool b))):=λb hb=>by
  have:mY ms fs bound (id,fn,pc,rg,st,ch,ph,su,fa,he,())=b:=by
   rw[LX,hb,base,qN]
  rw[this]
 refine ah.2 ⟨λh9=>⟨rfl,fB _ ?_⟩,λh9=>⟨⟨hfn.1,hfn.2,hpc.1⟩,λ_=>Iz,rfl,fB _ ?_⟩⟩
 .simp at h9;simp[h9]
 .simp at h9;cases ha:qh fs fn pc with
  | none=>rw[show atR fs fn pc=((0,0,0,0,0,0,0,0,()),false) by unfold atR;rw[ha]];simp[h9]
  | some i=>rw[show atR fs fn pc=(i,true) by unfold atR;rw[ha]];simp[h9,and_assoc]
theorem abo:aW aT.gd 167 abn:=
 fG (cx:=aT) (n:=144) (cl:=[(76,Ou),(77,GU),(192,ctV),(95,Rh),(165,Jm)]) (rc:=[]) aB ⟨Lj,Ep,Oq,AZ,AA,trivial⟩ Tryz.func167 λd hd=>by
  obtain⟨⟨vs,ms,cs,fs,ts,⟨⟩⟩,bound,⟨id,fn,pc,rg,st,ch,ph,su,fa,he,⟨⟩⟩,⟨⟩⟩:=d;exact aQ (alC vs ms cs fs ts bound id fn pc rg st ch ph su fa he) (agw vs ms cs fs ts bound id fn pc rg st ch ph su fa he hd) (by kernel_rfl)
abbrev Lm:CT:={ ps:=[sS,.int .i64,dR],pre:=λd=>(aG d.1.1 d.1.2.1 d.1.2.2.1 d.1.2.2.2.1 d.1.2.2.2.2.1).1=0/\d.2.2.1.2.2.2.2.2.2.2.2.2.1.length<=1000000/\d.2.2.1.1<=9223372036854775807/\d.2.2.1.2.2.2.1.length=8,res:=λd=>([],vB (wI d.1.2.1 d.1.2.2.2.1 d.2.1 d.2.2.1)) }
theorem agx(vs:List VD) (ms cs:List ByteArray) (fs:List FD) (ts:List SD) (bound id fn pc:Int) (rg:List Int) (st ch ph su fa:Int) (he:List Int) (aH:Lm.pre ((vs,ms,cs,fs,ts,()),bound,(id,fn,pc,rg,st,ch,ph,su,fa,he,()),())):
 let z5:=(id,fn,pc,rg,st,ch,ph,su,fa,he,());let z4:=wI ms fs bound z5;let z3:=qB z4 false;let z2:=((!(!decide (fa=0) || !(atR fs fn pc).snd))=true->True)/\((!(!decide (fa=0) || !(atR fs fn pc).snd || !mO (atR fs fn pc).fst.fst))=true->he.length<=1000000/\id<=9223372036854775807)/\br (!decide (fa=0) || !(atR fs fn pc).snd || !mO (atR fs fn pc).fst.fst || !decide (lD id ch ph he (atR fs fn pc).fst=0)) z3 (qB z4 (decide (su=1) && decide (st < bound) || decide (su=4) && decide (1<=st)));let z6:=(atR fs fn pc).fst.fst=6;let z1:=br (decide (su=2)) (qB z4 (decide (fa=0) && decide (ph=0) && (!(atR fs fn pc).snd || decide ((atR fs fn pc).fst.fst=7)))) (br (decide (su=3)) (br (!decide (ph=0) || !(atR fs fn pc).snd) z3 (br (decide (fa=26)) ((decide z6=true->0<=(atR fs fn pc).fst.snd.snd.fst/\(atR fs fn pc).fst.snd.snd.fst < 8)/\(decide z6=true->(atR fs fn pc).fst.snd.snd.fst.toNat < 8)/\∀(d:Int),(decide z6=true->rg[(atR fs fn pc).fst.snd.snd.fst.toNat]?=some d)->qB z4 (decide z6 && decide (d=0))) (br (decide (fa=29)) (True/\qB z4 (!mO (atR fs fn pc).fst.fst)) (((!decide (fa=0))=true->he.length<=1000000/\id<=9223372036854775807)/\qB z4 (!decide (fa=0) && decide (lD id ch ph he (atR fs fn pc).fst=fa)))))) z3);(True/\he.length<=1000000/\id<=9223372036854775807/\rg.length=8)/\br (!mY ms fs bound z5) z3 ((0<=fn/\fn < (fs.length:Int)/\0<=pc)/\br (decide (su=1)) (br (decide (su=1)) z2 z1) (br (decide (su=4)) z2 z1)):=by
 conv=>zeta
 delta qB;obtain⟨hc,Iz,hid,hrg⟩:(aG vs ms cs fs ts).1=0/\he.length<=1000000/\id<=9223372036854775807/\rg.length=8:=aH;refine⟨⟨trivial,Iz,hid,hrg⟩,ah.2 ⟨λh=>⟨rfl,?_⟩,λh=>?_⟩⟩
 .have:wI ms fs bound (id,fn,pc,rg,st,ch,ph,su,fa,he,())=false:=Ri λq=>by
   have e:=qN.2 q.1;rw[e]at h;cases h
  rw[this]
 have hF:dB ms fs bound (id,fn,pc,rg,st,ch,ph,su,fa,he,()):=by
  have e:mY ms fs bound (id,fn,pc,rg,st,ch,ph,su,fa,he,())=true:=by simpa using h
  exact qN.1 e
 have hfn:=hF.2.1;refine⟨⟨hfn.1,hfn.2,hF.2.2.1.1⟩,?_⟩;have W:∀b:Bool,(b=true↔(((su=1/\st < bound\/su=4/\1<=st)/\fa=0/\∃i,qh fs fn pc=some i/\mO i.1=true/\lD id ch ph he i=0) \/
  (su=2/\fa=0/\ph=0/\∀i,qh fs fn pc=some i->i.1=7) \/
  (su=3/\ph=0/\∃i,qh fs fn pc=some i/\(fa=26/\i.1=6/\rg.getD i.2.2.1.toNat 0=0\/fa=29/\mO i.1=false\/fa≠26/\fa≠29/\fa≠0/\lD id ch ph he i=fa)))) ->
   bg.one (SV.c (SC.v (Value.bool (wI ms fs bound (id,fn,pc,rg,st,ch,ph,su,fa,he,())))))=bg.one (SV.c (SC.v (Value.bool b))):=λb hb=>by
  have:wI ms fs bound (id,fn,pc,rg,st,ch,ph,su,fa,he,())=b:=by
   rw[LX,hb,pU];exact⟨λq=>q.2,λq=>⟨hF,q⟩⟩
  rw[this]
 cases ha:qh fs fn pc with
 | none=>
   rw[show atR fs fn pc=((0,0,0,0,0,0,0,0,()),false) by unfold atR;rw[ha]]
   simp only[ah,ha]at W ⊢
   repeat' (first | exact Iz | exact hid | (refine And.intro ?_ ?_) | (intro _))
   all_goals first | rfl | trivial | exact Iz | exact hid | (refine W _ ?_;simp_all;done) | (simp_all;done)
 | some i=>
   rw[show atR fs fn pc=(i,true) by unfold atR;rw[ha]]
   obtain⟨r1,r2,r3,r4⟩:=mP (qM (Dy hc hfn ha)).1;have rb8:i.2.2.1.toNat < 8:=by omega
   have gd:∀{x d:Int},rg[x.toNat]?=some d->rg.getD x.toNat 0=d:=λhd=>by rw[LQ,hd];rfl
   simp only[ah,ha]at W ⊢
   repeat' (first | exact Iz | exact hid | exact r2.1 | exact r2.2 | exact rb8 | (refine And.intro ?_ ?_) | (intro _))
   all_goals first | rfl | trivial | exact Iz | exact hid | exact r2.1 | exact r2.2 | exact rb8 | (refine W _ ?_;simp_all;done) | (refine W _ ?_;clear W;simp_all;grind) | skip
theorem Oy:aW aT.gd 108 Lm:=
 fG (cx:=aT) (n:=123) (cl:=[(167,abn),(95,Rh),(149,abd),(150,Ue)]) (rc:=[]) aB ⟨abo,AZ,Oo,Ox,trivial⟩ Tryz.func108 λd hd=>by
  obtain⟨⟨vs,ms,cs,fs,ts,⟨⟩⟩,bound,⟨id,fn,pc,rg,st,ch,ph,su,fa,he,⟨⟩⟩,⟨⟩⟩:=d;exact aQ (λ_=>none) (agx vs ms cs fs ts bound id fn pc rg st ch ph su fa he hd) (by kernel_rfl)
theorem abp(h:(Gy vs ms cs fs).1=0):dI fs < 0:=by
 unfold Gy at h;split at h
 .rename_i d hd;have hp:=L8 hd;split at h
  .cases h
  .rename_i h1;simp only[DJ,dW]at hp;rcases hp with hp | hp
   .exact absurd hp h1
   .exact absurd h hp
 .split at h
  .cases h
  .omega
theorem abq(h:dI fs < 0):∀f∈fs,f.2.1.length<=64:=by
 unfold dI at h;split at h
 .omega
 .rename_i hn;rw[A71]at hn;intro f hf;simpa using hn f hf
theorem GY(h:(aG vs ms cs fs ts).1=0){fn:Int} (hf:0<=fn/\fn < fs.length):(codeF fs fn).length<=64:=by
 obtain⟨x,hx,ex⟩:=sU hf;rw[ex];exact abq (abp (kP h).2.1) x (iM hx)
theorem abr{fn:Int} (h:qh fs fn pc=none) (k:Nat):eF fs bound k (id,fn,pc,rg,st,ch,ph,su,fa,he,u)=(id,fn,pc,rg,st,ch,ph,2,0,he,()):=by
 cases k<;>(rw[eF];unfold topS;simp only[h])
theorem Uf{fn:Int} (h:qh fs fn pc=some i) (hv:mO i.1=true) (k:Nat):eF fs bound k (id,fn,pc,rg,st,ch,ph,su,fa,he,u) =
 if lD id ch ph he i≠0 then(id,fn,pc,rg,st,ch,ph,3,lD id ch ph he i,he,()) else if st=bound then(id,fn,pc,rg,st,ch,ph,4,0,he,()) else(id,fn,pc,rg,st,ch,ph,su,fa,he,()):=by
 cases k<;>(rw[eF];unfold topS;simp only[h];rw[if_pos hv])
theorem abt{fn:Int} (h:qh fs fn pc=some i) (hv:mO i.1=false):eF fs bound 0 (id,fn,pc,rg,st,ch,ph,su,fa,he,u)=(id,fn,pc,rg,st,ch,ph,3,29,he,()):=by
 rw[eF];unfold topS;simp only[h];rw[if_neg (by rw[hv];simp)];rfl
theorem abu{fn:Int} (h:qh fs fn pc=some i) (hv:mO i.1=false) (k:Nat):eF fs bound (k+1) (id,fn,pc,rg,st,ch,ph,su,fa,he,u) =
 if(fQ (id,fn,pc,rg,st,ch,ph,su,fa,he,u) i).2=true then eF fs bound k (fQ (id,fn,pc,rg,st,ch,ph,su,fa,he,u) i).1 else(fQ (id,fn,pc,rg,st,ch,ph,su,fa,he,u) i).1:=by
 rw[eF];unfold topS;simp only[h];rw[if_neg (by rw[hv];simp)]
theorem Lp(t:TD) (i:ID):(fQ t i).1.2.2.2.1.length=t.2.2.2.1.length:=by
 obtain⟨id,fn,pc,rg,st,ch,ph,su,fa,hd,u⟩:=t;obtain⟨op,a,b,c,obj,n,f,ord,u2⟩:=i;unfold fQ;simp only
 repeat' split
 all_goals simp
abbrev Ug:CT:={ ps:=[sS,.int .i64,dR],pre:=λd=>(aG d.1.1 d.1.2.1 d.1.2.2.1 d.1.2.2.2.1 d.1.2.2.2.2.1).1=0/\dB d.1.2.1 d.1.2.2.2.1 d.2.1 d.2.2.1/\d.2.2.1.2.2.2.2.2.2.2.2.2.1.length<=1000000/\d.2.2.1.1<=9223372036854775807/\d.2.2.1.2.2.2.1.length=8,res:=λd=>([],.one (.dat dR (eF d.1.2.2.2.1 d.2.1 256 d.2.2.1))) }
abbrev aoR(vs:List VD) (ms cs:List ByteArray) (fs:List FD) (ts:List SD) (bound id fn pc:Int) (rg:List Int) (st ch ph su fa:Int) (he:List Int):Nat->Option (St->kS):=λk=>match k with
 | 4=>some λ_=>.inv { α:=Nat×TD,slots:=λx=>[(7,.c (.v (.int .i64 x.1)))],res:=λx=>[(1,.obj 56 dR x.2)],inv:=λx=>x.1<=256/\dB ms fs bound x.2/\x.2.2.2.2.2.2.2.2.2.2.1=he/\x.2.1=id/\x.2.2.2.2.1.length=8/\eF fs bound (256 - x.1) x.2=eF fs bound 256 (id,fn,pc,rg,st,ch,ph,su,fa,he,()),meas:=λx=>257 - x.1 }
 | _=>none
theorem alD(vs:List VD) (ms cs:List ByteArray) (fs:List FD) (ts:List SD) (bound id fn pc:Int) (rg:List Int) (st ch ph su fa:Int) (he:List Int) (aH:Ug.pre ((vs,ms,cs,fs,ts,()),bound,(id,fn,pc,rg,st,ch,ph,su,fa,he,()),())):
 let z7:=(id,fn,pc,rg,st,ch,ph,su,fa,he,());let z2:=λ(x:Nat×TD)=>x.fst<=256/\dB ms fs bound x.snd/\x.snd.snd.snd.snd.snd.snd.snd.snd.snd.snd.fst=he/\x.snd.fst=id/\x.snd.snd.snd.snd.fst.length=8/\eF fs bound (256 - x.fst) x.snd=eF fs bound 256 z7;let z3:=[SC.sl KW vs,SC.sl Sh.str ms,SC.sl Sh.str cs,SC.sl H8 fs,SC.sl nS ts];let z1:=λ(x:Nat×TD)=>[g0 (au.blk 27 z3),g0 (au.obj 56 dR x.snd),g0 (au.obj 56 dR ((0:Int),(0:Int),(0:Int),List.replicate 8 (0:Int),(0:Int),(0:Int),(0:Int),(0:Int),(0:Int),[],())),g0 au.gone];let z8:=λ(x:Nat×TD)=>atR fs x.snd.snd.fst x.snd.snd.snd.fst;let z5:=eF fs bound 256 z7;let z9:=bg.one (SV.dat dR z5);let z6:=λ(x:Nat×TD)=>fQ x.snd (z8 x).fst;let z4:=λ(x:Nat×TD)=>(z6 x).fst;he.length<=1000000/\(∃(x:Nat×TD),(z2 x)/\(cI 0=cI (x.fst:Int)/\True)/\[g0 (au.blk 27 z3),g0 (au.obj 56 dR z7),g0 (au.obj 56 dR ((0:Int),(0:Int),(0:Int),List.replicate 8 (0:Int),(0:Int),(0:Int),(0:Int),(0:Int),(0:Int),[],())),g0 au.gone]=(z1 x))/\∀(x:Nat×TD),x.fst<=256/\dB ms fs bound x.snd/\x.snd.snd.snd.snd.snd.snd.snd.snd.snd.snd.fst=he/\x.snd.fst=id/\x.snd.snd.snd.snd.fst.length=8/\eF fs bound (256 - x.fst) x.snd=eF fs bound 256 z7->(0<=x.snd.snd.fst/\x.snd.snd.fst < (fs.length:Int)/\0<=x.snd.snd.snd.fst)/\br (!(z8 x).snd) (True/\rE z9 (bg.one (SV.dat dR (Ld x.snd (2:Int) (0:Int))))) (True/\br (mO (z8 x).fst.fst) ((List.length x.snd.snd.snd.snd.snd.snd.snd.snd.snd.snd.fst<=1000000/\x.snd.fst<=9223372036854775807)/\br (!decide (lD x.snd.fst x.snd.snd.snd.snd.snd.snd.fst x.snd.snd.snd.snd.snd.snd.snd.fst x.snd.snd.snd.snd.snd.snd.snd.snd.snd.snd.fst (z8 x).fst=0)) (True/\rE z9 (bg.one (SV.dat dR (Ld x.snd (3:Int) (lD x.snd.fst x.snd.snd.snd.snd.snd.snd.fst x.snd.snd.snd.snd.snd.snd.snd.fst x.snd.snd.snd.snd.snd.snd.snd.snd.snd.snd.fst (z8 x).fst))))) (br (decide (x.snd.snd.snd.snd.snd.fst=bound)) (True/\rE z9 (bg.one (SV.dat dR (Ld x.snd (4:Int) (0:Int))))) (rE z9 (bg.one (SV.dat dR (x.snd)))))) (br (decide ((x.fst:Int)=(256:Int))) (True/\rE z9 (bg.one (SV.dat dR (Ld x.snd (3:Int) (29:Int))))) (((0<=(z8 x).fst.snd.fst/\(z8 x).fst.snd.fst < 8)/\(0<=(z8 x).fst.snd.snd.fst/\(z8 x).fst.snd.snd.fst < 8)/\(0<=(z8 x).fst.snd.snd.snd.fst/\(z8 x).fst.snd.snd.snd.fst < 8)/\0<=x.snd.snd.snd.fst/\x.snd.snd.snd.fst<=1000000)/\br (!(z6 x).snd) (rE z9 (bg.one (SV.dat dR (z4 x)))) (iR ((x.fst:Int)+(1:Int))/\∃(x':Nat×TD),(z2 x')/\(cI ((x.fst:Int)+(1:Int))=cI (x'.fst:Int)/\True)/\[g0 (au.blk 27 z3),g0 (au.obj 56 dR (z4 x)),g0 (au.obj 56 dR ((0:Int),(0:Int),(0:Int),List.replicate 8 (0:Int),(0:Int),(0:Int),(0:Int),(0:Int),(0:Int),[],())),g0 au.gone]=(z1 x')/\257 - x'.fst < 257 - x.fst)))):=by
 conv=>zeta
 delta cI g0 rE I6 iR;obtain⟨hc,hF,Iz,hid,hrg⟩:(aG vs ms cs fs ts).1=0/\dB ms fs bound (id,fn,pc,rg,st,ch,ph,su,fa,he,())/\he.length<=1000000/\id<=9223372036854775807/\rg.length=8:=aH;refine⟨Iz,⟨(0,(id,fn,pc,rg,st,ch,ph,su,fa,he,())),⟨by omega,hF,rfl,rfl,hrg,rfl⟩,⟨rfl,trivial⟩,rfl⟩,λx hx=>?_⟩
 obtain⟨k,id',fn',pc',Xk,st',ch',ph',su',fa',he',⟨⟩⟩:=x;obtain⟨x1,x2,x3,x4,x5,x6⟩:=hx;have x1:k<=256:=x1;have x3:he'=he:=x3;have x4:id'=id:=x4;have x5:Xk.length=8:=x5;have x6:eF fs bound (256 - k) (id',fn',pc',Xk,st',ch',ph',su',fa',he',())=eF fs bound 256 (id,fn,pc,rg,st,ch,ph,su,fa,he,()):=x6;have x2:dB ms fs bound (id',fn',pc',Xk,st',ch',ph',su',fa',he',()):=x2;subst x3;subst x4;rw[<-x6];have hfn:=x2.2.1;have hpc:=x2.2.2.1;refine⟨⟨hfn.1,hfn.2,hpc.1⟩,?_⟩;show br (!(atR fs fn' pc').2) _ _;cases ha:qh fs fn' pc' with
 | none=>
   rw[show atR fs fn' pc'=((0,0,0,0,0,0,0,0,()),false) by unfold atR;rw[ha]]
   refine ah.2 ⟨λ_=>⟨trivial,rfl,?_⟩,λq=>by simp at q⟩
   rw[abr ha];rfl
 | some i=>
   rw[show atR fs fn' pc'=(i,true) by unfold atR;rw[ha]]
   obtain⟨r1,r2,r3,r4⟩:=mP (qM (Dy hc hfn ha)).1;have h64:=GY hc hfn;refine ah.2 ⟨λq=>by simp at q,λ_=>⟨trivial,ah.2 ⟨λhv=>?_,λhv=>?_⟩⟩⟩
   .have hv:mO i.1=true:=hv;rw[Uf ha hv];refine⟨⟨Iz,hid⟩,ah.2 ⟨λh1=>?_,λh1=>ah.2 ⟨λh2=>?_,λh2=>?_⟩⟩⟩
    .have h1:lD id' ch' ph' he' i≠0:=by simpa using h1
     rw[if_pos h1];exact⟨trivial,rfl,rfl⟩
    .have h1:¬lD id' ch' ph' he' i≠0:=by simpa using h1
     have h2:st'=bound:=by simpa using h2
     rw[if_neg h1,if_pos h2];exact⟨trivial,rfl,rfl⟩
    .have h1:¬lD id' ch' ph' he' i≠0:=by simpa using h1
     have h2:¬st'=bound:=by simpa using h2
     rw[if_neg h1,if_neg h2];exact⟨rfl,rfl⟩
   .have hv:mO i.1=false:=hv;refine ah.2 ⟨λh1=>?_,λh1=>?_⟩
    .have h1:k=256:=by
      have:(k:Int)=256:=by simpa using h1
      omega
     rw[h1,show 256 - 256=0 from rfl,abt ha hv]
     exact⟨trivial,rfl,rfl⟩
    .have h1:¬k=256:=by
      have:¬(k:Int)=256:=by simpa using h1
      omega
     obtain⟨m,hm⟩:∃m,256 - k=m+1:=⟨255 - k,by omega⟩
     rw[hm,abu ha hv];have hk:=AV (id',fn',pc',Xk,st',ch',ph',su',fa',he',()) i;have hlen:=Lp (id',fn',pc',Xk,st',ch',ph',su',fa',he',()) i;have hfo:=GK hc x2 ha hv;refine⟨⟨r1,r2,r3,hpc.1,show pc'<=1000000 by omega⟩,ah.2 ⟨λh2=>?_,λh2=>⟨ay.2 (show(-9223372036854775808:Int)<=(k:Int)+1/\(k:Int)+1<=9223372036854775807 by omega),(k+1,(fQ (id',fn',pc',Xk,st',ch',ph',su',fa',he',()) i).1),⟨show k+1<=256 by omega,hfo,hk.2.2.2.2.2.1,hk.1,hlen.trans x5,?_⟩,⟨rfl,trivial⟩,rfl,show 257 - (k+1) < 257 - k by omega⟩⟩⟩
     .have h2:¬(fQ (id',fn',pc',Xk,st',ch',ph',su',fa',he',()) i).2=true:=by simpa using h2
      rw[if_neg h2];exact⟨rfl,rfl⟩
     .have h2:(fQ (id',fn',pc',Xk,st',ch',ph',su',fa',he',()) i).2=true:=by simpa using h2
      show eF fs bound (256 - (k+1)) _=_;rw[if_pos h2,show 256 - (k+1)=m by omega]
theorem Uh:aW aT.gd 78 Ug:=
 fG (cx:=aT) (n:=59) (cl:=[(58,xB),(95,Rh),(148,abk),(149,abd),(150,Ue),(151,abl)]) (rc:=[.data dR]) aB ⟨Ei,AZ,Ov,Oo,Ox,abm,trivial⟩ Tryz.func78 λd hd=>by
  obtain⟨⟨vs,ms,cs,fs,ts,⟨⟩⟩,bound,⟨id,fn,pc,rg,st,ch,ph,su,fa,he,⟨⟩⟩,⟨⟩⟩:=d;exact aQ (aoR vs ms cs fs ts bound id fn pc rg st ch ph su fa he) (alD vs ms cs fs ts bound id fn pc rg st ch ph su fa he hd) (by kernel_rfl)
theorem val_wrap(n:Int):cO n=decide (aZ n=n):=by
 unfold cO;rw[LX,A82,A82,Gz]
theorem aiF(h:BG vs ms cs fs=0):ms.length<=4:=by
 unfold BG at h;split at h
 .cases h
 .omega
theorem uJ(h:dB ms fs bound t) (hm:ms.length<=4):t.2.2.2.2.2.2.2.2.2.1.length<=4:=by
 obtain⟨id,fn,pc,rg,st,ch,ph,su,fa,he,u⟩:=t;exact qP (aaZ h.2.2.2.2.2.2.1 h.2.2.2.2.2.2.2.1) hm
theorem Jy(h:dB ms fs bound t):t.1<=9223372036854775807:=by
 obtain⟨id,fn,pc,rg,st,ch,ph,su,fa,he,u⟩:=t;have:=kZ h.1;show id<=9223372036854775807;omega
theorem Ui(t:TD) (i:ID) (r:Int):(gq t i r).2.2.2.1.length=t.2.2.2.1.length:=by
 obtain⟨id,fn,pc,rg,st,ch,ph,su,fa,hd,u⟩:=t;have e:(if(nJ i).2=true then rg.set (nJ i).1.toNat r else rg).length=rg.length:=by split<;>simp
 unfold gq;simp only;split
 .split
  .exact e
  split
  .exact e
  .exact e
 .exact e
theorem abv(h:qX i=0) (hd:(nJ i).2=true):0<=(nJ i).1/\(nJ i).1 < 8:=by
 obtain⟨r1,_⟩:=mP h;unfold nJ at hd ⊢;split at hd
 .cases hd
 .rename_i q;rw[if_neg q];exact r1
abbrev Uj:CT:={ ps:=[sS,.int .i64,.int .i64,.int .i64,.int .i64],pre:=λd=>bnd (d.1,())/\d.2.2.1<=9223372036854775807,res:=λd=>([],.iO [.dat dR (newS (aG d.1.1 d.1.2.1 d.1.2.2.1 d.1.2.2.2.1 d.1.2.2.2.2.1).1 d.1.2.2.2.1 d.2.1 d.2.2.1 d.2.2.2.1 d.2.2.2.2.1).1,.c (.v (.int .i64 (newS (aG d.1.1 d.1.2.1 d.1.2.2.1 d.1.2.2.2.1 d.1.2.2.2.2.1).1 d.1.2.2.2.1 d.2.1 d.2.2.1 d.2.2.2.1 d.2.2.2.2.1).2))]) }
abbrev kq1:=[SV.dat dR (((0:Int),(0:Int),(0:Int),[(0:Int),(0:Int),(0:Int),(0:Int),(0:Int),(0:Int),(0:Int),(0:Int)],(0:Int),(0:Int),(0:Int),(0:Int),(0:Int),[],())),cI 2]
abbrev Xl:=[(0:Int),(0:Int),(0:Int),(0:Int),(0:Int),(0:Int),(0:Int),(0:Int)]
theorem alE(vs:List VD) (ms cs:List ByteArray) (fs:List FD) (ts:List SD) (bound id fn arg:Int) (aH:Uj.pre ((vs,ms,cs,fs,ts,()),bound,id,fn,arg,())):
 let z4:=aG vs ms cs fs ts;let z3:=newS z4.fst fs bound id fn arg;let z2:=[SV.dat dR z3.fst,cI (z3.snd)];let z1:=rT z2 kq1;(vs.length<=1000000/\ms.length<=1000000/\cs.length<=1000000/\fs.length<=1000000/\ts.length<=1000000/\(∀(x:ByteArray×(oP.sl.pair Sh.unit).den),x∈fs->List.length x.snd.fst<=1000000)/\(dO fs).length<=1000000)/\br (!decide (dG z4.fst bound=0)) (rT z2 [SV.dat dR (((0:Int),(0:Int),(0:Int),Xl,(0:Int),(0:Int),(0:Int),(0:Int),(0:Int),[],())),cI (dG z4.fst bound)]) (id<=9223372036854775807/\br (decide (bQ id < 0)) z1 (br (decide (fn < 0) || decide ((fs.length:Int)<=fn)) (rT z2 [SV.dat dR (((0:Int),(0:Int),(0:Int),Xl,(0:Int),(0:Int),(0:Int),(0:Int),(0:Int),[],())),cI 11]) (True/\br (!decide (aZ arg=arg)) z1 (((0:Int)<=(0:Int)/\(0:Int) < (8:Int))/\0 < 8/\(z4.fst=0/\dB ms fs bound (id,fn,(0:Int),Xl.set 0 arg,(0:Int),(0:Int),(0:Int),(1:Int),(0:Int),[],())/\0<=1000000/\id<=9223372036854775807/\(Xl.set 0 arg).length=8)/\rT z2 [SV.dat dR (eF fs bound 256 (id,fn,(0:Int),Xl.set 0 arg,(0:Int),(0:Int),(0:Int),(1:Int),(0:Int),[],())),cI 0])))):=by
 conv=>zeta
 delta kq1 Xl cI rT I6;obtain⟨hb,hid⟩:bnd ((vs,ms,cs,fs,ts,()),())/\id<=9223372036854775807:=aH;refine⟨hb,ah.2 ⟨λh=>?_,λh=>⟨hid,ah.2 ⟨λh2=>?_,λh2=>ah.2 ⟨λh3=>?_,λh3=>⟨trivial,ah.2 ⟨λh4=>?_,λh4=>?_⟩⟩⟩⟩⟩⟩⟩
 .have h:dG (aG vs ms cs fs ts).1 bound≠0:=by simpa using h
  have e:newS (aG vs ms cs fs ts).1 fs bound id fn arg=(zT,dG (aG vs ms cs fs ts).1 bound):=by unfold newS;rw[if_pos h]
  rw[e];exact⟨rfl,rfl⟩
 all_goals have h:¬dG (aG vs ms cs fs ts).1 bound≠0:=by simpa using h
 .have h2:bQ id < 0:=by simpa using h2
  have e:newS (aG vs ms cs fs ts).1 fs bound id fn arg=(zT,2):=by unfold newS;rw[if_neg h,if_pos h2]
  rw[e];exact⟨rfl,rfl⟩
 all_goals have h2:¬bQ id < 0:=by simpa using h2
 .have h3:fn < 0\/(fs.length:Int)<=fn:=by simpa using h3
  have e:newS (aG vs ms cs fs ts).1 fs bound id fn arg=(zT,11):=by unfold newS;rw[if_neg h,if_neg h2,if_pos h3]
  rw[e];exact⟨rfl,rfl⟩
 all_goals have h3:¬(fn < 0\/(fs.length:Int)<=fn):=by simp only[oV,gW]at h3;omega
 .have h4:cO arg=false:=by rw[val_wrap];simpa using h4
  have e:newS (aG vs ms cs fs ts).1 fs bound id fn arg=(zT,2):=by unfold newS;rw[if_neg h,if_neg h2,if_neg h3,if_pos h4]
  rw[e];exact⟨rfl,rfl⟩
 .have h4:¬cO arg=false:=by rw[val_wrap];simpa using h4
  have e:newS (aG vs ms cs fs ts).1 fs bound id fn arg=(eF fs bound 256 (id,fn,0,[arg,0,0,0,0,0,0,0],0,0,0,1,0,[],()),0):=by unfold newS;rw[if_neg h,if_neg h2,if_neg h3,if_neg h4]
  have hs:=fE.1 (Hw.1 h);rw[e];exact⟨⟨by omega,by omega⟩,by omega,⟨hs.1,GR ms hs.2.1 h2 h3 h4,by omega,hid,rfl⟩,rfl,rfl⟩
theorem Uk:aW aT.gd 34 Uj:=
 fG (cx:=aT) (n:=50) (cl:=[(75,vg),(76,Ou),(77,GU),(78,Ug)]) (rc:=[.data dR,.keep]) aB ⟨Ll,Lj,Ep,Uh,trivial⟩ Tryz.func34 λd hd=>by
  obtain⟨⟨vs,ms,cs,fs,ts,⟨⟩⟩,bound,id,fn,arg,⟨⟩⟩:=d;exact aQ (λ_=>none) (alE vs ms cs fs ts bound id fn arg hd) (by kernel_rfl)
abbrev agy:CT:={ ps:=[sS,.int .i64,dR],pre:=λd=>bnd (d.1,())/\d.2.2.1.2.2.2.2.2.2.2.2.2.1.length<=1000000/\d.2.2.1.1<=9223372036854775807/\d.2.2.1.2.2.2.1.length=8,res:=λd=>([],vB (decide (dG (aG d.1.1 d.1.2.1 d.1.2.2.1 d.1.2.2.2.1 d.1.2.2.2.2.1).1 d.2.1=0) && wI d.1.2.1 d.1.2.2.2.1 d.2.1 d.2.2.1)) }
theorem alF(vs:List VD) (ms cs:List ByteArray) (fs:List FD) (ts:List SD) (bound id fn pc:Int) (rg:List Int) (st ch ph su fa:Int) (he:List Int) (aH:agy.pre ((vs,ms,cs,fs,ts,()),bound,(id,fn,pc,rg,st,ch,ph,su,fa,he,()),())):
 let z2:=dG (aG vs ms cs fs ts).fst bound=0;let z1:=decide z2 && wI ms fs bound (id,fn,pc,rg,st,ch,ph,su,fa,he,());(vs.length<=1000000/\ms.length<=1000000/\cs.length<=1000000/\fs.length<=1000000/\ts.length<=1000000/\(∀(x:ByteArray×(oP.sl.pair Sh.unit).den),x∈fs->List.length x.snd.fst<=1000000)/\(dO fs).length<=1000000)/\(decide z2=true->(aG vs ms cs fs ts).fst=0/\he.length<=1000000/\id<=9223372036854775807/\rg.length=8)/\qB z1 z1:=by
 conv=>zeta
 delta qB I6;obtain⟨hb,Iz,hid,hrg⟩:bnd ((vs,ms,cs,fs,ts,()),())/\he.length<=1000000/\id<=9223372036854775807/\rg.length=8:=aH;exact⟨hb,λh=>⟨(fE.1 (RF h)).1,Iz,hid,hrg⟩,rfl,rfl⟩
theorem Ul:aW aT.gd 85 agy:=
 fG (cx:=aT) (n:=17) (cl:=[(75,vg),(108,Lm)]) (rc:=[]) aB ⟨Ll,Oy,trivial⟩ Tryz.func85 λd hd=>by
  obtain⟨⟨vs,ms,cs,fs,ts,⟨⟩⟩,bound,⟨id,fn,pc,rg,st,ch,ph,su,fa,he,⟨⟩⟩,⟨⟩⟩:=d;exact aQ (λ_=>none) (alF vs ms cs fs ts bound id fn pc rg st ch ph su fa he hd) (by kernel_rfl)
abbrev Um:CT:={ ps:=[sS,dR],pre:=λd=>bnd (d.1,())/\d.2.1.2.2.2.2.2.2.2.2.2.1.length<=1000000/\d.2.1.1<=9223372036854775807/\d.2.1.2.2.2.1.length=8,res:=λd=>([],.iO [.agg [.v (.int .i64 ((dZ (aG d.1.1 d.1.2.1 d.1.2.2.1 d.1.2.2.2.1 d.1.2.2.2.2.1).1 d.1.2.1 d.1.2.2.2.1 d.2.1).1).1),.v (.int .i64 ((dZ (aG d.1.1 d.1.2.1 d.1.2.2.1 d.1.2.2.2.1 d.1.2.2.2.2.1).1 d.1.2.1 d.1.2.2.2.1 d.2.1).1).2.1),.v (.int .i64 ((dZ (aG d.1.1 d.1.2.1 d.1.2.2.1 d.1.2.2.2.1 d.1.2.2.2.2.1).1 d.1.2.1 d.1.2.2.2.1 d.2.1).1).2.2.1),.v (.int .i64 ((dZ (aG d.1.1 d.1.2.1 d.1.2.2.1 d.1.2.2.2.1 d.1.2.2.2.2.1).1 d.1.2.1 d.1.2.2.2.1 d.2.1).1).2.2.2.1),.v (.int .i64 ((dZ (aG d.1.1 d.1.2.1 d.1.2.2.1 d.1.2.2.2.1 d.1.2.2.2.2.1).1 d.1.2.1 d.1.2.2.2.1 d.2.1).1).2.2.2.2.1),.v (.int .i64 ((dZ (aG d.1.1 d.1.2.1 d.1.2.2.1 d.1.2.2.2.1 d.1.2.2.2.2.1).1 d.1.2.1 d.1.2.2.2.1 d.2.1).1).2.2.2.2.2.1),.v (.int .i64 ((dZ (aG d.1.1 d.1.2.1 d.1.2.2.1 d.1.2.2.2.1 d.1.2.2.2.2.1).1 d.1.2.1 d.1.2.2.2.1 d.2.1).1).2.2.2.2.2.2.1),.v (.int .i64 ((dZ (aG d.1.1 d.1.2.1 d.1.2.2.1 d.1.2.2.2.1 d.1.2.2.2.2.1).1 d.1.2.1 d.1.2.2.2.1 d.2.1).1).2.2.2.2.2.2.2.1)],.c (.v (.bool (dZ (aG d.1.1 d.1.2.1 d.1.2.2.1 d.1.2.2.2.1 d.1.2.2.2.2.1).1 d.1.2.1 d.1.2.2.2.1 d.2.1).2))]) }
theorem alG(vs:List VD) (ms cs:List ByteArray) (fs:List FD) (ts:List SD) (id fn pc:Int) (rg:List Int) (st ch ph su fa:Int) (he:List Int) (aH:Um.pre ((vs,ms,cs,fs,ts,()),(id,fn,pc,rg,st,ch,ph,su,fa,he,()),())):
 let z3:=(id,fn,pc,rg,st,ch,ph,su,fa,he,());let z2:=dZ (aG vs ms cs fs ts).fst ms fs z3;let z1:=[SV.agg [v6 (z2.fst.fst),v6 (z2.fst.snd.fst),v6 (z2.fst.snd.snd.fst),v6 (z2.fst.snd.snd.snd.fst),v6 (z2.fst.snd.snd.snd.snd.fst),v6 (z2.fst.snd.snd.snd.snd.snd.fst),v6 (z2.fst.snd.snd.snd.snd.snd.snd.fst),v6 (z2.fst.snd.snd.snd.snd.snd.snd.snd.fst)],cB (z2.snd)];((!!decide (su=1))=true->(vs.length<=1000000/\ms.length<=1000000/\cs.length<=1000000/\fs.length<=1000000/\ts.length<=1000000/\(∀(x:ByteArray×(oP.sl.pair Sh.unit).den),x∈fs->List.length x.snd.fst<=1000000)/\(dO fs).length<=1000000)/\he.length<=1000000/\id<=9223372036854775807/\rg.length=8)/\br (!decide (su=1) || !(decide (dG (aG vs ms cs fs ts).fst (32:Int)=(0:Int)) && wI ms fs (32:Int) z3)) (rT z1 [SV.agg [v6 0,v6 0,v6 0,v6 0,v6 0,v6 0,v6 0,v6 0],cB false]) ((0<=fn/\fn < (fs.length:Int)/\0<=pc)/\rT z1 [SV.agg [v6 ((atR fs fn pc).fst.fst),v6 ((atR fs fn pc).fst.snd.fst),v6 ((atR fs fn pc).fst.snd.snd.fst),v6 ((atR fs fn pc).fst.snd.snd.snd.fst),v6 ((atR fs fn pc).fst.snd.snd.snd.snd.fst),v6 ((atR fs fn pc).fst.snd.snd.snd.snd.snd.fst),v6 ((atR fs fn pc).fst.snd.snd.snd.snd.snd.snd.fst),v6 ((atR fs fn pc).fst.snd.snd.snd.snd.snd.snd.snd.fst)],cB ((atR fs fn pc).snd)]):=by
 conv=>zeta
 delta v6 cB rT I6;obtain⟨hb,Iz,hid,hrg⟩:bnd ((vs,ms,cs,fs,ts,()),())/\he.length<=1000000/\id<=9223372036854775807/\rg.length=8:=aH;have key:((aG vs ms cs fs ts).1=0/\su=1/\vM ms fs 32 (id,fn,pc,rg,st,ch,ph,su,fa,he,()))↔(!decide (su=1) || !(decide (dG (aG vs ms cs fs ts).1 32=0) && wI ms fs 32 (id,fn,pc,rg,st,ch,ph,su,fa,he,())))=false:=by
  rw[oV,Di,Di,A8,A82,A82,fE,pU];constructor
  .rintro⟨q1,q2,q3⟩;exact⟨q2,⟨q1,by omega,by omega⟩,q3⟩
  .rintro⟨q2,⟨q1,_⟩,q3⟩;exact⟨q1,q2,q3⟩
 refine⟨λ_=>⟨hb,Iz,hid,hrg⟩,ah.2 ⟨λh=>?_,λh=>?_⟩⟩
 .have e:dZ (aG vs ms cs fs ts).1 ms fs (id,fn,pc,rg,st,ch,ph,su,fa,he,())=((0,0,0,0,0,0,0,0,()),false):=by
   unfold dZ;rw[if_neg];intro q;rw[key.1 q]at h;cases h
  rw[e];exact⟨rfl,rfl⟩
 .have q:=key.2 h;have e:dZ (aG vs ms cs fs ts).1 ms fs (id,fn,pc,rg,st,ch,ph,su,fa,he,())=atR fs fn pc:=by
   unfold dZ;rw[if_pos q]
  have hF:=q.2.2.1;rw[e];exact⟨⟨hF.2.1.1,hF.2.1.2,hF.2.2.1.1⟩,rfl,rfl⟩
theorem Un:aW aT.gd 45 Um:=
 fG (cx:=aT) (n:=21) (cl:=[(85,agy),(95,Rh)]) (rc:=[]) aB ⟨Ul,AZ,trivial⟩ Tryz.func45 λd hd=>by
  obtain⟨⟨vs,ms,cs,fs,ts,⟨⟩⟩,⟨id,fn,pc,rg,st,ch,ph,su,fa,he,⟨⟩⟩,⟨⟩⟩:=d;exact aQ (λ_=>none) (alG vs ms cs fs ts id fn pc rg st ch ph su fa he hd) (by kernel_rfl)
def vk:TD->Int->TD
 | (id,fn,pc,rg,st,ch,ph,su,fa,he,_),m=>if ph=0 then(id,fn,pc,rg,st,ch,1,su,fa,AX he m,()) else if ph=1 then(id,fn,pc,rg,st,ch,2,su,fa,he,()) else(id,fn,pc+1,rg,st,ch,0,su,fa,y5 he m,())
abbrev abw:CT:={ ps:=[dR,.int .i64],pre:=λd=>d.1.2.2.2.2.2.2.2.2.2.1.length<=999999/\0<=d.1.2.2.1/\d.1.2.2.1<=1000000,res:=λd=>([],.one (.dat dR (vk d.1 d.2.1))) }
theorem agz(id fn pc:Int) (rg:List Int) (st ch ph su fa:Int) (he:List Int) (m:Int) (aH:abw.pre ((id,fn,pc,rg,st,ch,ph,su,fa,he,()),m,())):
 let z1:=bg.one (SV.dat dR (vk (id,fn,pc,rg,st,ch,ph,su,fa,he,()) m));br (decide (ph=0)) (he.length<=1000000/\rE z1 (bg.one (SV.dat dR ((id,fn,pc,rg,st,ch,(1:Int),su,fa,nZ (bM he) [m] false,()))))) (br (decide (ph=1)) (rE z1 (bg.one (SV.dat dR ((id,fn,pc,rg,st,ch,(2:Int),su,fa,he,()))))) (he.length<=999999/\iR (pc+1)/\rE z1 (bg.one (SV.dat dR ((id,fn,pc+1,rg,st,ch,(0:Int),su,fa,bM (he++[m]),())))))):=by
 conv=>zeta
 delta rE I6 iR;obtain⟨Iz,hp0,hp1⟩:he.length<=999999/\0<=pc/\pc<=1000000:=aH;refine ah.2 ⟨λh=>?_,λh=>ah.2 ⟨λh2=>?_,λh2=>?_⟩⟩
 .have h:ph=0:=by simpa using h
  have e:vk (id,fn,pc,rg,st,ch,ph,su,fa,he,()) m=(id,fn,pc,rg,st,ch,1,su,fa,AX he m,()):=by simp only[vk];rw[if_pos h]
  rw[e];exact⟨by omega,rfl,rfl⟩
 .have h:¬ph=0:=by simpa using h
  have h2:ph=1:=by simpa using h2
  have e:vk (id,fn,pc,rg,st,ch,ph,su,fa,he,()) m=(id,fn,pc,rg,st,ch,2,su,fa,he,()):=by simp only[vk];rw[if_neg h,if_pos h2]
  rw[e];exact⟨rfl,rfl⟩
 .have h:¬ph=0:=by simpa using h
  have h2:¬ph=1:=by simpa using h2
  have e:vk (id,fn,pc,rg,st,ch,ph,su,fa,he,()) m=(id,fn,pc+1,rg,st,ch,0,su,fa,y5 he m,()):=by simp only[vk];rw[if_neg h,if_neg h2]
  rw[e];exact⟨Iz,ay.2 (by omega),rfl,rfl⟩
theorem abx:aW aT.gd 110 abw:=
 fG (cx:=aT) (n:=29) (cl:=[(112,Ot),(111,Og)]) (rc:=[.data dR]) aB ⟨GX,Gv,trivial⟩ Tryz.func110 λd hd=>by
  obtain⟨⟨id,fn,pc,rg,st,ch,ph,su,fa,he,⟨⟩⟩,m,⟨⟩⟩:=d;exact aQ (λ_=>none) (agz id fn pc rg st ch ph su fa he m hd) (by kernel_rfl)
abbrev aby:CT:={ ps:=[sS,.int .i64,dR,.int .i64],pre:=λd=>bnd (d.1,())/\d.2.2.1.2.2.2.2.2.2.2.2.2.1.length<=1000000/\d.2.2.1.1<=9223372036854775807/\d.2.2.1.2.2.2.1.length=8,res:=λd=>([],.iO [.dat dR (kG (aG d.1.1 d.1.2.1 d.1.2.2.1 d.1.2.2.2.1 d.1.2.2.2.2.1).1 d.1.2.1 d.1.2.2.2.1 d.2.1 d.2.2.1 d.2.2.2.1).1,.c (.v (.int .i64 (kG (aG d.1.1 d.1.2.1 d.1.2.2.1 d.1.2.2.2.1 d.1.2.2.2.2.1).1 d.1.2.1 d.1.2.2.2.1 d.2.1 d.2.2.1 d.2.2.2.1).2))]) }
theorem alH(vs:List VD) (ms cs:List ByteArray) (fs:List FD) (ts:List SD) (bound id fn pc:Int) (rg:List Int) (st ch ph su fa:Int) (he:List Int) (r:Int) (aH:aby.pre ((vs,ms,cs,fs,ts,()),bound,(id,fn,pc,rg,st,ch,ph,su,fa,he,()),r,())):
 let z30:=aG vs ms cs fs ts;let z21:=(id,fn,pc,rg,st,ch,ph,su,fa,he,());let y7:=kG z30.fst ms fs bound z21 r;let z5:=[SV.dat dR y7.fst,cI (y7.snd)];let z29:=nJ (atR fs fn pc).fst;let z24:=decide ((atR fs fn pc).fst.fst=18);let z22:=he.length<=999999/\0<=pc/\pc<=1000000;let z8:=vk (id,fn,pc,rg.set z29.fst.toNat r,st+1,ch,ph,su,fa,he,()) (atR fs fn pc).fst.snd.snd.snd.snd.snd.fst;let z25:=decide ((atR fs fn pc).fst.fst=17);let z13:=(id,fn,pc+1,rg.set z29.fst.toNat r,st+1,ch,ph,su,fa,he,());let z20:=rg.set z29.fst.toNat r;let z3:=iR (pc+1)/\(z30.fst=0/\dB ms fs bound z13/\he.length<=1000000/\id<=9223372036854775807/\z20.length=8)/\rT z5 [SV.dat dR (eF fs bound 256 z13),cI 0];let z23:=[(atR fs fn pc).fst.snd.snd.snd.snd.fst];let Oz:=he++z23;let z7:=(id,fn,pc+1,rg.set z29.fst.toNat r,st+1,ch,ph,su,fa,bM Oz,());let z17:=bM Oz;let z1:=he.length<=999999/\iR (pc+1)/\(z30.fst=0/\dB ms fs bound z7/\z17.length<=1000000/\id<=9223372036854775807/\z20.length=8)/\rT z5 [SV.dat dR (eF fs bound 256 z7),cI 0];let z26:=decide ((atR fs fn pc).fst.fst=15);let z27:=decide ((atR fs fn pc).fst.fst=16);let z6:=(id,fn,pc+1,rg.set z29.fst.toNat r,st+1,ch,ph,su,fa,nZ (bM he) z23 false,());let mQ:=nZ (bM he) z23 false;let z28:=decide ((atR fs fn pc).fst.fst=21);let z12:=(id,fn,pc+1,rg.set z29.fst.toNat r,st+1,ch+1,ph,su,fa,he,());let z11:=vk (id,fn,pc,rg,st+1,ch,ph,su,fa,he,()) (atR fs fn pc).fst.snd.snd.snd.snd.snd.fst;let O6:=(id,fn,pc+1,rg,st+1,ch,ph,su,fa,he,());let z4:=iR (pc+1)/\(z30.fst=0/\dB ms fs bound O6/\he.length<=1000000/\id<=9223372036854775807/\rg.length=8)/\rT z5 [SV.dat dR (eF fs bound 256 O6),cI 0];let z10:=(id,fn,pc+1,rg,st+1,ch,ph,su,fa,bM Oz,());let z2:=he.length<=999999/\iR (pc+1)/\(z30.fst=0/\dB ms fs bound z10/\z17.length<=1000000/\id<=9223372036854775807/\rg.length=8)/\rT z5 [SV.dat dR (eF fs bound 256 z10),cI 0];let z9:=(id,fn,pc+1,rg,st+1,ch,ph,su,fa,nZ (bM he) z23 false,());let vJ:=(id,fn,pc+1,rg,st+1,ch+1,ph,su,fa,he,());(vs.length<=1000000/\ms.length<=1000000/\cs.length<=1000000/\fs.length<=1000000/\ts.length<=1000000/\(∀(x:ByteArray×(oP.sl.pair Sh.unit).den),x∈fs->List.length x.snd.fst<=1000000)/\(dO fs).length<=1000000)/\br (!decide (dG z30.fst bound=0)) (rT z5 [SV.dat dR (((0:Int),(0:Int),(0:Int),Xl,(0:Int),(0:Int),(0:Int),(0:Int),(0:Int),[],())),cI (dG z30.fst bound)]) ((z30.fst=0/\he.length<=1000000/\id<=9223372036854775807/\rg.length=8)/\br (!wI ms fs bound z21) (rT z5 [SV.dat dR (((0:Int),(0:Int),(0:Int),Xl,(0:Int),(0:Int),(0:Int),(0:Int),(0:Int),[],())),cI 1]) (br (!decide (su=1)) (rT z5 [SV.dat dR (((0:Int),(0:Int),(0:Int),Xl,(0:Int),(0:Int),(0:Int),(0:Int),(0:Int),[],())),cI 30]) (True/\br (!decide (aZ r=r)) (rT z5 kq1) ((0<=fn/\fn < (fs.length:Int)/\0<=pc)/\iR (st+1)/\True/\br z29.snd ((0<=z29.fst/\z29.fst < 8)/\z29.fst.toNat < 8/\br z24 (z22/\(z30.fst=0/\dB ms fs bound z8/\List.length z8.snd.snd.snd.snd.snd.snd.snd.snd.snd.fst<=1000000/\z8.fst<=9223372036854775807/\List.length z8.snd.snd.snd.fst=8)/\rT z5 [SV.dat dR (eF fs bound 256 z8),cI 0]) (br z25 (br (decide (r=0)) z3 z1) (br z26 z1 (br z27 (he.length<=1000000/\iR (pc+1)/\(z30.fst=0/\dB ms fs bound z6/\mQ.length<=1000000/\id<=9223372036854775807/\z20.length=8)/\rT z5 [SV.dat dR (eF fs bound 256 z6),cI 0]) (br z28 (iR (ch+1)/\iR (pc+1)/\(z30.fst=0/\dB ms fs bound z12/\he.length<=1000000/\id<=9223372036854775807/\z20.length=8)/\rT z5 [SV.dat dR (eF fs bound 256 z12),cI 0]) z3))))) (br z24 (z22/\(z30.fst=0/\dB ms fs bound z11/\List.length z11.snd.snd.snd.snd.snd.snd.snd.snd.snd.fst<=1000000/\z11.fst<=9223372036854775807/\List.length z11.snd.snd.snd.fst=8)/\rT z5 [SV.dat dR (eF fs bound 256 z11),cI 0]) (br z25 (br (decide (r=0)) z4 z2) (br z26 z2 (br z27 (he.length<=1000000/\iR (pc+1)/\(z30.fst=0/\dB ms fs bound z9/\mQ.length<=1000000/\id<=9223372036854775807/\rg.length=8)/\rT z5 [SV.dat dR (eF fs bound 256 z9),cI 0]) (br z28 (iR (ch+1)/\iR (pc+1)/\(z30.fst=0/\dB ms fs bound vJ/\he.length<=1000000/\id<=9223372036854775807/\rg.length=8)/\rT z5 [SV.dat dR (eF fs bound 256 vJ),cI 0]) z4))))))))):=by
 conv=>zeta
 delta Xl kq1 cI rT I6 iR;obtain⟨hb,Iz,hid,hrg⟩:bnd ((vs,ms,cs,fs,ts,()),())/\he.length<=1000000/\id<=9223372036854775807/\rg.length=8:=aH;refine⟨hb,ah.2 ⟨λh=>?_,λh=>?_⟩⟩
 .have h:dG (aG vs ms cs fs ts).1 bound≠0:=by simpa using h
  have e:kG (aG vs ms cs fs ts).1 ms fs bound (id,fn,pc,rg,st,ch,ph,su,fa,he,()) r=(zT,dG (aG vs ms cs fs ts).1 bound):=by unfold kG;rw[if_pos h]
  rw[e];exact⟨rfl,rfl⟩
 have h:¬dG (aG vs ms cs fs ts).1 bound≠0:=by simpa using h
 have hs:=fE.1 (Hw.1 h);refine⟨⟨hs.1,Iz,hid,hrg⟩,ah.2 ⟨λh2=>?_,λh2=>?_⟩⟩
 .have h2:¬vM ms fs bound (id,fn,pc,rg,st,ch,ph,su,fa,he,()):=λq=>by rw[pU.2 q]at h2;cases h2
  have e:kG (aG vs ms cs fs ts).1 ms fs bound (id,fn,pc,rg,st,ch,ph,su,fa,he,()) r=(zT,1):=by unfold kG;rw[if_neg h,if_pos h2]
  rw[e];exact⟨rfl,rfl⟩
 have hV:vM ms fs bound (id,fn,pc,rg,st,ch,ph,su,fa,he,()):=pU.1 (by simpa using h2)
 have h2:¬¬vM ms fs bound (id,fn,pc,rg,st,ch,ph,su,fa,he,()):=λq=>q hV
 refine ah.2 ⟨λh3=>?_,λh3=>⟨trivial,ah.2 ⟨λh4=>?_,λh4=>?_⟩⟩⟩
 .have h3:su≠1:=by simpa using h3
  have e:kG (aG vs ms cs fs ts).1 ms fs bound (id,fn,pc,rg,st,ch,ph,su,fa,he,()) r=(zT,30):=by unfold kG;rw[if_neg h,if_neg h2,if_pos h3]
  rw[e];exact⟨rfl,rfl⟩
 all_goals
  have h1:su=1:=by simpa using h3
  have h3:¬su≠1:=λq=>q h1
 .have h4:cO r=false:=by rw[val_wrap];simpa using h4
  have e:kG (aG vs ms cs fs ts).1 ms fs bound (id,fn,pc,rg,st,ch,ph,su,fa,he,()) r=(zT,2):=by unfold kG;rw[if_neg h,if_neg h2,if_neg h3,if_pos h4]
  rw[e];exact⟨rfl,rfl⟩
 have hvr:cO r=true:=by rw[val_wrap];simpa using h4
 have h4:¬cO r=false:=by rw[hvr];simp
 obtain⟨f0,s0,i,ha,vi,oi⟩:=CV hV h1;have ha:qh fs fn pc=some i:=ha;have s0:st < bound:=s0;have hF:dB ms fs bound (id,fn,pc,rg,st,ch,ph,su,fa,he,()):=hV.1;have hfn:=hF.2.1;have hpc:=hF.2.2.1;have hst:=hF.2.2.2.2.1;have hch:=hF.2.2.2.2.2.1;have h64:=GY hs.1 hfn;have hci:=(qM (Dy hs.1 hfn ha)).1;have hm4:=aiF (kP hs.1).1;have h4e:he.length<=4:=uJ hF hm4;have leaf:∀t':TD,t'=gq (id,fn,pc,rg,st,ch,ph,su,fa,he,()) i r->(((aG vs ms cs fs ts).1=0/\dB ms fs bound t'/\t'.2.2.2.2.2.2.2.2.2.1.length<=1000000/\t'.1<=9223372036854775807/\t'.2.2.2.1.length=8)/\([]:List Go.ni.au)=[] /\
  bg.iO [SV.dat dR (kG (aG vs ms cs fs ts).1 ms fs bound (id,fn,pc,rg,st,ch,ph,su,fa,he,()) r).1,SV.c (SC.v (Value.int .i64 (kG (aG vs ms cs fs ts).1 ms fs bound (id,fn,pc,rg,st,ch,ph,su,fa,he,()) r).2))]=bg.iO [SV.dat dR (eF fs bound 256 t'),SV.c (SC.v (Value.int .i64 0))]):=by
  intro t' et;subst et;have hf:=GN hs.1 hV h1 ha hvr;have e:kG (aG vs ms cs fs ts).1 ms fs bound (id,fn,pc,rg,st,ch,ph,su,fa,he,()) r=(eF fs bound 256 (gq (id,fn,pc,rg,st,ch,ph,su,fa,he,()) i r),0):=by
   unfold kG;rw[if_neg h,if_neg h2,if_neg h3,if_neg h4];show(eF fs bound 256 (gq (id,fn,pc,rg,st,ch,ph,su,fa,he,()) (atR fs fn pc).1 r),(0:Int))=_;rw[show atR fs fn pc=(i,true) by unfold atR;rw[ha]]
  rw[e];exact⟨⟨hs.1,hf,qP (uJ hf hm4) (by omega),Jy hf,(Ui _ _ _).trans hrg⟩,rfl,rfl⟩
 rw[show atR fs fn pc=(i,true) by unfold atR;rw[ha]]
 dsimp only;have e9:he.length<=999999:=by omega
 have ep:InR .i64 (pc+1):=ay.2 (by omega)
 have ec:InR .i64 (ch+1):=ay.2 (by omega)
 refine⟨⟨hfn.1,hfn.2,hpc.1⟩,ay.2 (by omega),trivial,ah.2 ⟨λhd=>?_,λhd=>?_⟩⟩
 .have hr:=abv hci hd;refine⟨hr,by omega,?_⟩
  refine bV.2 ⟨λq=>⟨⟨e9,hpc.1,show pc<=1000000 by omega⟩,leaf _ (by simp only[vk,gq,if_pos q,if_pos hd])⟩,λn18=>bV.2 ⟨λn17=>bV.2 ⟨λq=>⟨ep,leaf _ (by simp[gq,n17,hd,q])⟩,λq=>⟨e9,ep,leaf _ (by simp[gq,n17,hd,q,y5])⟩⟩,
   λn17=>bV.2 ⟨λq=>⟨e9,ep,leaf _ (by simp[gq,q,hd,y5])⟩,λn15=>bV.2 ⟨λq=>⟨Iz,ep,leaf _ (by simp[gq,q,hd,AX])⟩,λn16=>bV.2 ⟨λq=>⟨ec,ep,leaf _ (by simp[gq,q,hd])⟩,λn21=>⟨ep,leaf _ (by simp[gq,n18,n17,n15,n16,n21,hd])⟩⟩⟩⟩⟩⟩
 .refine bV.2 ⟨λq=>⟨⟨e9,hpc.1,show pc<=1000000 by omega⟩,leaf _ (by simp only[vk,gq,if_pos q,hd];simp)⟩,λn18=>bV.2 ⟨λn17=>bV.2 ⟨λq=>⟨ep,leaf _ (by simp[gq,n17,hd,q])⟩,λq=>⟨e9,ep,leaf _ (by simp[gq,n17,hd,q,y5])⟩⟩,
   λn17=>bV.2 ⟨λq=>⟨e9,ep,leaf _ (by simp[gq,q,hd,y5])⟩,λn15=>bV.2 ⟨λq=>⟨Iz,ep,leaf _ (by simp[gq,q,hd,AX])⟩,λn16=>bV.2 ⟨λq=>⟨ec,ep,leaf _ (by simp[gq,q,hd])⟩,λn21=>⟨ep,leaf _ (by simp[gq,n18,n17,n15,n16,n21,hd])⟩⟩⟩⟩⟩⟩
theorem agA:aW aT.gd 51 aby:=
 fG (cx:=aT) (n:=103) (cl:=[(75,vg),(108,Lm),(77,GU),(95,Rh),(109,aiE),(78,Ug),(110,abw),(111,Og),(112,Ot)]) (rc:=[.data dR,.keep]) aB ⟨Ll,Oy,Ep,AZ,abe,Uh,abx,Gv,GX,trivial⟩ Tryz.func51 λd hd=>by
  obtain⟨⟨vs,ms,cs,fs,ts,⟨⟩⟩,bound,⟨id,fn,pc,rg,st,ch,ph,su,fa,he,⟨⟩⟩,r,⟨⟩⟩:=d;exact aQ (λ_=>none) (alH vs ms cs fs ts bound id fn pc rg st ch ph su fa he r hd) (by kernel_rfl)
theorem sV(h:(dJ id ch).2=true):(dJ id ch).1=8 * (id+1)+ch/\(0<=ch/\ch < 7)/\TW (dJ id ch).1=(id,true)/\wH (dJ id ch).1=wH id+1/\8<=(dJ id ch).1/\wH (dJ id ch).1<=4/\(dJ id ch).1<=1000000/\(0<=wH id/\wH id<=4):=by
 unfold dJ at h ⊢
 split at h
 .cases h
 rename_i q;rw[if_neg q];have q1:0<=bQ id:=by omega
 have q2:bQ id≠4:=by omega
 obtain⟨e1,e2⟩:=Dx q1 q2 (ch:=ch) (by omega) (by omega)
 have hl:=kZ q1;have hr:=GH id;refine⟨rfl,by omega,?_,?_,by simp only;omega,?_,by simp only;omega,?_⟩
 .unfold TW;rw[if_neg (by rw[e1];omega),e2]
 .unfold wH;rw[e1,if_neg (by omega),if_neg (by omega)]
 .unfold wH;rw[e1,if_neg (by omega)];omega
 .unfold wH;rw[if_neg (by omega)];omega
theorem top_len{rest:ID->TD} (hr:∀i,(rest i).2.2.2.1.length=t.2.2.2.1.length):(topS fs bound t rest).2.2.2.1.length=t.2.2.2.1.length:=by
 obtain⟨id,fn,pc,rg,st,ch,ph,su,fa,hd,u⟩:=t;unfold topS;simp only;split
 .rfl
 split
 .repeat' split
  all_goals rfl
 .exact hr _
theorem Uo(fs:List FD) (bound:Int):∀(k:Nat) (t:TD),(eF fs bound k t).2.2.2.1.length=t.2.2.2.1.length:=by
 intro k
 induction k with
 | zero=>
   intro t;rw[eF];exact top_len λi=>rfl
 | succ k ih=>
   intro t;rw[eF];refine top_len λi=>?_
   split
   .exact(ih _).trans (Lp t i)
   .exact Lp t i
theorem abz{fn r:Int} (h:(newS (aG vs ms cs fs ts).1 fs bound id fn r).2=0):dG (aG vs ms cs fs ts).1 bound=0/\vM ms fs bound (newS (aG vs ms cs fs ts).1 fs bound id fn r).1/\(newS (aG vs ms cs fs ts).1 fs bound id fn r).1.2.2.2.1.length=8:=by
 unfold newS at h ⊢
 split at h
 .rename_i q;exact absurd h q
 split at h
 .cases h
 split at h
 .cases h
 split at h
 .cases h
 rename_i q1 q2 q3 q4;rw[if_neg q1,if_neg q2,if_neg q3,if_neg q4];have hs:=fE.1 (Hw.1 q1);exact⟨Hw.1 q1,Ua hs.1 hs.2.1 _ _ (GR ms hs.2.1 q2 q3 q4) rfl rfl,Uo _ _ _ _⟩
theorem abA{r:Int} (hl:t.2.2.2.1.length=8) (h:(kG (aG vs ms cs fs ts).1 ms fs bound t r).2=0):dG (aG vs ms cs fs ts).1 bound=0/\vM ms fs bound (kG (aG vs ms cs fs ts).1 ms fs bound t r).1/\(kG (aG vs ms cs fs ts).1 ms fs bound t r).1.2.2.2.1.length=8 /\
 (kG (aG vs ms cs fs ts).1 ms fs bound t r).1.2.2.2.2.1=t.2.2.2.2.1+1/\(kG (aG vs ms cs fs ts).1 ms fs bound t r).1.1=t.1/\(kG (aG vs ms cs fs ts).1 ms fs bound t r).1.2.1=t.2.1/\(0<=t.2.2.2.2.1/\t.2.2.2.2.1 < 32):=by
 unfold kG at h ⊢
 split at h
 .rename_i q;exact absurd h q
 split at h
 .cases h
 split at h
 .cases h
 split at h
 .cases h
 rename_i q1 q2 q3 q4;rw[if_neg q1,if_neg q2,if_neg q3,if_neg q4];have hs:=fE.1 (Hw.1 q1);have hV:=Hw.1 q2;have h1:t.2.2.2.2.2.2.2.1=1:=Hw.1 q3;have hv:cO r=true:=by simpa using q4
 obtain⟨f0,s0,i,ha,vi,oi⟩:=CV hV h1;have ea:(atR fs t.2.1 t.2.2.1).1=i:=by unfold atR;rw[ha]
 rw[ea];have hf:=GN hs.1 hV h1 ha hv;have hk:=Om t i r;have hk2:=wJ fs bound 256 (gq t i r);refine⟨Hw.1 q1,Ua hs.1 hs.2.1 _ _ hf (hk.2.2.2.1.trans h1) (hk.2.2.2.2.trans f0),((Uo _ _ _ _).trans (Ui _ _ _)).trans hl,hk2.2.2.1.trans hk.2.2.1,hk2.1.trans hk.1,hk2.2.1.trans hk.2.1,?_⟩;obtain⟨id,fn,pc,rg,st,ch,ph,su,fa,he,u⟩:=t;have:=hV.1.2.2.2.2.1;have s0:st < bound:=s0;show 0<=st/\st < 32;have:0<=st/\st<=bound:=this;omega
theorem fH(h:vM ms fs bound t):dB ms fs bound t:=by
 obtain⟨id,fn,pc,rg,st,ch,ph,su,fa,he,u⟩:=t;exact h.1
theorem CW(h:dB ms fs bound t):(0<=t.2.1/\t.2.1 < (fs.length:Int))/\0<=t.2.2.1:=by
 obtain⟨id,fn,pc,rg,st,ch,ph,su,fa,he,u⟩:=t;exact⟨h.2.1,h.2.2.1.1⟩
theorem abB{b c:Int} (hbc:b<=c) (h:vM ms fs b t):vM ms fs c t:=by
 obtain⟨id,fn,pc,rg,st,ch,ph,su,fa,he,u⟩:=t;obtain⟨⟨h1,h2,h3,h4,h5,h6⟩,q⟩:=h;refine⟨⟨h1,h2,h3,h4,⟨h5.1,Int.le_trans h5.2 hbc⟩,h6⟩,?_⟩;rcases q with⟨q1,q2⟩ | q
 .refine .inl ⟨?_,q2⟩;rcases q1 with⟨a,b'⟩ | q1
  .exact .inl ⟨a,Int.lt_of_lt_of_le b' hbc⟩
  .exact .inr q1
 .exact .inr q
theorem OA(hs:dG (aG vs ms cs fs ts).1 bound=0) (h:vM ms fs bound t):t.2.2.2.2.2.2.2.2.2.1.length<=1000000/\t.1<=9223372036854775807:=by
 have hf:dB ms fs bound t:=by
  obtain⟨id,fn,pc,rg,st,ch,ph,su,fa,he,u⟩:=t;exact h.1
 exact⟨qP (uJ hf (aiF (kP (fE.1 hs).1).1)) (by omega),Jy hf⟩
end
end Go.Proofs.YtjhenjhcbcalpaaGreatDoor
