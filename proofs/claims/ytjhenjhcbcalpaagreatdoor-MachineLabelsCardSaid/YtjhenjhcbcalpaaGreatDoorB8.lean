/- Part 8 of the proof. Conditions: the rows'. -/
import Derived.Test.YtjhenjhcbcalpaaGreatDoorB7
set_option linter.unusedSimpArgs false
set_option linter.unusedVariables false
set_option maxRecDepth 1000000
set_option maxHeartbeats 8000000
namespace Go.Proofs.YtjhenjhcbcalpaaGreatDoor
open Go Go.jf
noncomputable section
variable {ms cs:List ByteArray}{fs:List FD}{bound id pc st ch ph su fa:Int}{t:TD}{vs:List VD}{ts:List SD}{rg he:List Int}{u:Unit}{i:ID}
theorem wrap32(n:Int):IntKind.i32.wrap (IntKind.u32.wrap n)=aH n:=by
 simp only[IntKind.wrap,IntKind.bits,IntKind.signed,aH];simp;split<;>omega
theorem ahA{x y:Int} (hx:-2147483648<=x/\x<=2147483647) (hy:-2147483648<=y/\y<=2147483647):-9223372036854775808<=x * y/\x * y<=9223372036854775807:=by
 have h1:x.natAbs<=2147483648:=by omega
 have h2:y.natAbs<=2147483648:=by omega
 have h3:(x * y).natAbs<=2147483648 * 2147483648:=by rw[Int.natAbs_mul];exact Nat.mul_le_mul h1 h2
 omega
abbrev Fa:CT:={ ps:=[.int .i64],pre:=λd=>True,res:=λd=>([],.one (.c (.v (.int .i64 (aH d.1))))) }
theorem akB(n:Int):
 let z1:=IntKind.i32.wrap (IntKind.u32.wrap n);iR z1/\qI (aH n) z1:=by
 conv=>zeta
 delta qI iR;have:=og n;rw[wrap32];exact⟨ak.2 (by omega),rfl,rfl⟩
theorem CY:aU aT.gd 77 Fa:=
 jG (cx:=aT) (n:=7) (cl:=[]) au trivial Tryz.func77 λd hd=>by
  obtain⟨n,⟨⟩⟩:=d;exact aJ (λ_=>none) (akB n) (by kernel_rfl)
abbrev ahB:CT:={ ps:=[.bool],pre:=λd=>True,res:=λd=>([],.one (.c (.v (.int .i64 (if d.1=true then 1 else 0))))) }
theorem afi(b:Bool):
 let z1:=if b=true then(1:Int) else(0:Int);br b (qI z1 (1:Int)) (qI z1 (0:Int)):=by
 conv=>zeta
 delta qI;rw[ah];cases b<;>simp
theorem aam:aU aT.gd 161 ahB:=
 jG (cx:=aT) (n:=4) (cl:=[]) au trivial Tryz.func161 λd hd=>by
  obtain⟨b,⟨⟩⟩:=d;exact aJ (λ_=>none) (afi b) (by kernel_rfl)
abbrev RJ:CT:={ ps:=[.int .i64,.int .i64,.int .i64],pre:=λd=>True,res:=λd=>([],.gV [.c (.v (.int .i64 (dZ d.1 d.2.1 d.2.2.1).1)),.c (.v (.int .i64 (dZ d.1 d.2.1 d.2.2.1).2))]) }
theorem akC(f a b:Int):
 let z1:=[cI ((dZ f a b).fst),cI ((dZ f a b).snd)];True/\True/\br (decide (f=1)) (iR (aH a+aH b)/\True/\rT z1 [cI (aH (aH a+aH b)),cI 0]) (br (decide (f=2)) (iR (aH a - aH b)/\True/\rT z1 [cI (aH (aH a - aH b)),cI 0]) (br (decide (f=3)) (iR (aH a * aH b)/\True/\rT z1 [cI (aH (aH a * aH b)),cI 0]) (br (decide (f=4)) (True/\rT z1 [cI (aH (kQ BinOp.and IntKind.i64 (aH a) (aH b))),cI 0]) (br (decide (f=5)) (True/\rT z1 [cI (aH (kQ BinOp.or IntKind.i64 (aH a) (aH b))),cI 0]) (br (decide (f=6)) (True/\rT z1 [cI (aH (kQ BinOp.xor IntKind.i64 (aH a) (aH b))),cI 0]) (br (decide (f=7)) (True/\rT z1 [cI (if decide (aH a=aH b)=true then(1:Int) else(0:Int)),cI 0]) (br (decide (f=8)) (True/\rT z1 [cI (if(!decide (aH a=aH b))=true then(1:Int) else(0:Int)),cI 0]) (br (decide (f=9)) (True/\rT z1 [cI (if decide (aH a < aH b)=true then(1:Int) else(0:Int)),cI 0]) (br (decide (f=10)) (True/\rT z1 [cI (if decide (aH a<=aH b)=true then(1:Int) else(0:Int)),cI 0]) (rT z1 [cI 0,cI 8])))))))))):=by
 conv=>zeta
 delta cI rT iR;have ha:=og a;have hb:=og b;have hm:=ahA ha hb;unfold dZ;simp only[ah,dH,eX]
 repeat' (first | (refine And.intro ?_ ?_) | (intro _))
 all_goals first | rfl | trivial | exact ak.2 (by omega) | (simp[*];done) | skip
theorem JG:aU aT.gd 97 RJ:=
 jG (cx:=aT) (n:=75) (cl:=[(77,Fa),(161,ahB)]) au ⟨CY,aam,trivial⟩ Tryz.func97 λd hd=>by
  obtain⟨f,a,b,⟨⟩⟩:=d;exact aJ (λ_=>none) (akC f a b) (by kernel_rfl)
abbrev aan:CT:={ ps:=[.int .i64],pre:=λd=>True,res:=λd=>([],vB (jw d.1)) }
theorem afj(op:Int):
 qB (jw op) (decide (8<=op) && decide (op<=22)):=by
 delta qB;refine⟨rfl,?_⟩;rw[show jw op=(decide (8<=op) && decide (op<=22)) by unfold jw;rw[FK];simp]
theorem ML:aU aT.gd 149 aan:=
 jG (cx:=aT) (n:=9) (cl:=[]) au trivial Tryz.func149 λd hd=>by
  obtain⟨op,⟨⟩⟩:=d;exact aJ (λ_=>none) (afj op) (by kernel_rfl)
abbrev ahC:CT:={ ps:=[lJ],pre:=λd=>True,res:=λd=>([],.gV [.c (.v (.int .i64 (mP d.1).1)),.c (.v (.bool (mP d.1).2))]) }
theorem afk(op a b c obj n fo ord:Int):
 let z4:=qy op a b c obj n fo ord=0;let z2:=!!decide z4;let z3:=mP (op,a,b,c,obj,n,fo,ord,());let z1:=[cI (z3.fst),cB (z3.snd)];True/\(z2=true->iR (op - 1))/\(z2=true->0<=op - 1/\op - 1 < (22:Int))/\∀(d:ByteArray×((Sh.arr 7 Sh.bool).pair Sh.unit).den),(z2=true->LZ[(op - 1).toNat]?=some d)->(z2=true->(0:Int)<=(0:Int)/\0 < ((List.length d.snd.fst):Int))/\∀(dI:Bool),(z2=true->d.snd.fst[0]?=some dI)->br (!decide z4 || !dI) (rT z1 [cI 0,cB false]) (rT z1 [cI a,cB true]):=by
 conv=>zeta
 delta cI cB rT iR
 by_cases h:qy op a b c obj n fo ord=0
 .obtain⟨r1,r2,r3,r4⟩:=kV (i:=(op,a,b,c,obj,n,fo,ord,())) h;have r4:1<=op/\op<=22:=r4;refine⟨trivial,λ_=>ak.2 (by omega),λ_=>by omega,λd hd=>?_⟩
  have hd:=hd (by simp[h])
  obtain⟨nm,us,u⟩:=d;have hu:=L6 r4 hd;subst hu;refine⟨λ_=>by simp,λd1 hd1=>?_⟩
  have hd1:use op 0=d1:=by simpa[h]using hd1
  subst hd1;rw[ah];have hc:ug (op,a,b,c,obj,n,fo,ord,())=0:=h;refine⟨λq=>?_,λq=>?_⟩
  .have q:use op 0=false:=by simpa[h]using q
   have e:mP (op,a,b,c,obj,n,fo,ord,())=(0,false):=by unfold mP;rw[if_pos (.inr q)]
   rw[e];exact⟨rfl,rfl⟩
  .have q:use op 0=true:=by simpa[h]using q
   have e:mP (op,a,b,c,obj,n,fo,ord,())=(a,true):=by unfold mP;rw[if_neg (by rw[hc];simp[q])]
   rw[e];exact⟨rfl,rfl⟩
 .have hc:¬ug (op,a,b,c,obj,n,fo,ord,())=0:=h;have e:mP (op,a,b,c,obj,n,fo,ord,())=(0,false):=by unfold mP;rw[if_pos (.inl hc)]
  rw[e];refine⟨trivial,λq=>by simp[h]at q,λq=>by simp[h]at q,λd hd=>⟨λq=>by simp[h]at q,λd1 hd1=>?_⟩⟩
  rw[ah];exact⟨λ_=>⟨rfl,rfl⟩,λq=>by simp[h]at q⟩
theorem aao:aU aT.gd 109 ahC:=
 jG (cx:=aT) (n:=19) (cl:=[(168,ajM)]) au ⟨L8,trivial⟩ Tryz.func109 λd hd=>by
  obtain⟨⟨op,a,b,c,obj,n,fo,ord,⟨⟩⟩,⟨⟩⟩:=d;exact aJ (λ_=>none) (afk op a b c obj n fo ord) (by kernel_rfl)
instance (l:List Int):Decidable (SS l):=inferInstanceAs (Decidable (l.Pairwise (· < ·)))
def ku(l:List Int):Bool:=decide (SS l)
theorem Fb:∀{l:List Int},(∀j x y,l[j]?=some x->l[j+1]?=some y->x < y)->SS l
 | [],_=>List.Pairwise.nil
 | [a],_=>by simp[SS]
 | a :: b :: l,h=>by
   have ih:SS (b :: l):=Fb λj x y h1 h2=>h (j+1) x y (by simpa using h1) (by simpa using h2)
   refine A89.2 ⟨λz hz=>?_,ih⟩
   have hab:=h 0 a b rfl rfl;rcases ni.1 hz with rfl | hz
   .exact hab
   .have:=(A89.1 ih).1 z hz;omega
theorem JH{l:List Int} (h:SS l){j:Nat}{x y:Int} (h1:l[j]?=some x) (h2:l[j+1]?=some y):x < y:=by
 obtain⟨a1,a2⟩:=A8.1 h1;obtain⟨b1,b2⟩:=A8.1 h2;have:=ahO.1 h j (j+1) a1 b1 (by omega)
 omega
abbrev ctV:CT:={ ps:=[.sl (.int .i64)],pre:=λd=>d.1.length<=1000000,res:=λd=>([],vB (ku d.1)) }
abbrev akD(l:List Int):Nat->Option (St->jv):=λk=>match k with
 | 2=>some λ_=>.inv { α:=Nat,slots:=λk=>[(3,.c (.v (.int .i64 k)))],res:=λ_=>[],inv:=λk=>(1<=k/\(k<=l.length\/k=1))/\∀j,j+1 < k->∀x y,l[j]?=some x->l[j+1]?=some y->x < y,meas:=λk=>l.length - k }
 | _=>none
theorem afl(l:List Int) (aF:ctV.pre (l,())):
 (∃x,((1<=x/\(x<=l.length\/x=1))/\∀(j:Nat),j+1 < x->∀(x y:Int),l[j]?=some x->l[j+1]?=some y->x < y)/\(cI 1=cI (x:Int)/\True)/\([]:List dJ)=[])/\∀(x:Nat),((1<=x/\(x<=l.length\/x=1))/\∀(j:Nat),j+1 < x->∀(x y:Int),l[j]?=some x->l[j+1]?=some y->x < y)->br (decide ((x:Int) < (l.length:Int))) (iR ((x:Int) - (1:Int))/\(0<=(x:Int) - (1:Int)/\(x:Int) - 1 < (l.length:Int))/\∀(d:Int),l[((x:Int) - (1:Int)).toNat]?=some d->(0<=(x:Int)/\(x:Int) < (l.length:Int))/\∀(dI:Int),l[(x:Int).toNat]?=some dI->br (decide (dI<=d)) (qB (ku l) false) (iR ((x:Int)+(1:Int))/\∃x',((1<=x'/\(x'<=l.length\/x'=1))/\∀(j:Nat),j+1 < x'->∀(x y:Int),l[j]?=some x->l[j+1]?=some y->x < y)/\(cI ((x:Int)+(1:Int))=cI (x':Int)/\True)/\([]:List dJ)=[]/\l.length - x' < l.length - x)) (qB (ku l) true):=by
 delta dJ cI qB iR;have hp:l.length<=1000000:=aF;refine⟨⟨1,⟨⟨by omega,.inr rfl⟩,λj hj=>by omega⟩,⟨rfl,trivial⟩,rfl⟩,λk hk=>ah.2 ⟨λh=>?_,λh=>?_⟩⟩
 .simp only[dH]at h;have hk1:=hk.1.1;refine⟨ak.2 (by omega),by omega,λd hd=>⟨by omega,λe he=>?_⟩⟩
  have hd:l[k - 1]?=some d:=by rw[<-hd];congr 1;omega
  have he:l[k]?=some e:=by simpa using he
  have he':l[k - 1+1]?=some e:=by rw[show k - 1+1=k by omega];exact he
  refine ah.2 ⟨λh2=>?_,λh2=>⟨ak.2 (by omega),k+1,⟨⟨by omega,.inl (by omega)⟩,λj hj x y hx hy=>?_⟩,⟨by simp,trivial⟩,rfl,by omega⟩⟩
  .simp only[dH]at h2;have:ku l=false:=yw λhs=>by have:=JH hs hd he';omega
   rw[this];exact⟨rfl,rfl⟩
  .simp only[eX]at h2
   by_cases gU:j+1=k
   .have hj':j=k - 1:=by omega
    subst hj';rw[hd]at hx;rw[he']at hy;cases hx;cases hy;omega
   .exact hk.2 j (by omega) x y hx hy
 .simp only[eX]at h;have:ku l=true:=wX (Fb λj x y hx hy=>hk.2 j (by have:=(A8.1 hy).1;omega) x y hx hy)
  rw[this];exact⟨rfl,rfl⟩
theorem MN:aU aT.gd 192 ctV:=
 jG (cx:=aT) (n:=20) (cl:=[]) au trivial Tryz.func192 λd hd=>by
  obtain⟨l,⟨⟩⟩:=d;exact aJ (akD l) (afl l hd) (by kernel_rfl)
abbrev Fe:CT:={ ps:=[.sl (.int .i64),.sl (.int .i64),.bool],pre:=λd=>d.1.length<=1000000/\d.2.1.length<=1000000,res:=λd=>([.row 3 (.int .i64) (pG (bD d.1) d.2.1 d.2.2.1)],.one (.c (.row 0))) }
abbrev akE(l o:List Int) (b:Bool):Nat->Option (St->jv):=λk=>match k with
 | 3=>some λ_=>.inv { α:=Nat,slots:=λk=>[(13,.c (.v (.int .i64 k))),(7,.c (.row 1))],res:=λk=>[(1,.row 3 (.int .i64) (pG ((bD l).take k) o b))],inv:=λk=>k<=(bD l).length,meas:=λk=>(bD l).length - k,nil:=[(7,3,.int .i64)] }
 | _=>none
theorem afm(l o:List Int) (b:Bool) (aF:Fe.pre (l,o,b,())):
 let z3:=λ(x:Nat)=>pG (List.take x (bD l)) o b;let z2:=λ(x:Nat)=>[g0 (ay.row 3 I6 (bD l)),g0 (ay.row 3 I6 (z3 x))];let z1:=λ(x x':Nat)=>cI ((x:Int)+(1:Int))=cI (x':Int)/\SV.c (SC.row 1)=SV.c (SC.row 1)/\True;l.length<=1000000/\(∃x,x<=(bD l).length/\(cI 0=cI (x:Int)/\SV.c (SC.row (Nat.succ 0))=SV.c (SC.row 1)/\True)/\[g0 (ay.row 3 I6 (bD l)),g0 (ay.row 3 I6 [])]=(z2 x))/\∀(x:Nat),x<=(bD l).length->br (decide ((x:Int) < (↑(bD l).length:Int))) ((0<=(x:Int)/\(x:Int) < (↑(bD l).length:Int))/\(x:Int).toNat < (bD l).length/\∀(d:Int),(bD l)[(x:Int).toNat]?=some d->o.length<=4611686018427387904/\br (dP o d == b) (nR (List.length (z3 x)+List.length ([d])) 8/\iR ((x:Int)+(1:Int))/\∃x',x'<=(bD l).length/\(z1 x x')/\[g0 (ay.row 3 I6 (bD l)),g0 (ay.row 3 I6 (pG (List.take x (bD l)) o b++[d]))]=(z2 x')/\(bD l).length - x' < (bD l).length - x) (iR ((x:Int)+(1:Int))/\∃x',x'<=(bD l).length/\(z1 x x')/\(z2 x)=(z2 x')/\(bD l).length - x' < (bD l).length - x)) ([ay.row 3 I6 (pG (bD l) o b)]=[ay.row 3 I6 (z3 x)]/\aZ.one (SV.c (SC.row 0))=aZ.one (SV.c (SC.row 0))):=by
 conv=>zeta
 delta cI g0 I6 iR;have hp:l.length<=1000000/\o.length<=1000000:=aF;have hm:=Zv l;have hf:∀k,(pG ((bD l).take k) o b).length<=1000000:=λk=>by
  refine pq (TV _ _) ?_;rw[kX];omega
 refine⟨hp.1,⟨0,by omega,⟨rfl,rfl,trivial⟩,by simp[pG]⟩,λk hk=>ah.2 ⟨λh=>?_,λh=>?_⟩⟩
 .simp only[dH]at h;refine⟨⟨by omega,h⟩,by omega,λd hd=>?_⟩
  have hd:(bD l)[k]?=some d:=by simpa using hd
  have e:pG ((bD l).take (k+1)) o b=pG ((bD l).take k) o b++(if dP o d == b then[d] else[]):=by
   unfold pG;rw[NQ,hd,acC,List.filter_append]
   congr 1
   simp only[List.filter_cons,List.filter_nil]
  refine⟨by omega,ah.2 ⟨λh2=>⟨?_,ak.2 (by omega),k+1,by omega,⟨by simp,rfl,trivial⟩,?_,by omega⟩,λh2=>⟨ak.2 (by omega),k+1,by omega,⟨by simp,rfl,trivial⟩,?_,by omega⟩⟩⟩
  .have:=hf k;rw[eH];simp;omega
  .rw[e,h2];rfl
  .rw[e,h2];simp
 .simp only[eX]at h;rw[wB (by omega)];exact⟨rfl,rfl⟩
theorem aap:aU aT.gd 170 Fe:=
 jG (cx:=aT) (n:=28) (cl:=[(169,zx),(98,EO)]) au ⟨MB,zu,trivial⟩ Tryz.func170 λd hd=>by
  obtain⟨l,o,b,⟨⟩⟩:=d;exact aJ (akE l o b) (afm l o b hd) (by kernel_rfl)
abbrev MO:CT:={ ps:=[.sl (.int .i64),.int .i64],pre:=λd=>d.1.length<=1000000,res:=λd=>([.row 3 (.int .i64) (pG (bD d.1) [d.2.1] false)],.one (.c (.row 0))) }
theorem afn(l:List Int) (x:Int) (aF:MO.pre (l,x,())):
 let z1:=[ay.row (3:TypeId) je (pG (bD l) [x] false)];(l.length<=(1000000:Nat)/\[x].length<=(1000000:Nat))/\z1=z1/\aZ.one rC=aZ.one rC:=by
 conv=>zeta
 delta je rC;have hp:l.length<=1000000:=aF;exact⟨⟨hp,by simp⟩,rfl,rfl⟩
theorem Fg:aU aT.gd 112 MO:=
 jG (cx:=aT) (n:=9) (cl:=[(170,Fe)]) au ⟨aap,trivial⟩ Tryz.func112 λd hd=>by
  obtain⟨l,x,⟨⟩⟩:=d;exact aJ (λ_=>none) (afn l x hd) (by kernel_rfl)
abbrev aaq:CT:={ ps:=[.int .i64],pre:=λd=>0<=d.1/\d.1<=9223372036854775807,res:=λd=>([],.gV [.c (.v (.int .i64 (d.1.tdiv 8 - 1))),.c (.v (.int .i64 (d.1.tmod 8)))]) }
theorem afo(id:Int) (aF:aaq.pre (id,())):
 let z2:=id.tdiv (8:Int) - (1:Int);let z1:=[cI z2,cI (id.tmod (8:Int))];(8:Int)≠(0:Int)/\iR (id.tdiv (8:Int))/\iR z2/\(8:Int)≠(0:Int)/\rT z1 z1:=by
 conv=>zeta
 delta cI rT iR;have hp:0<=id/\id<=9223372036854775807:=aF;have e:id.tdiv 8=id / 8:=A71 hp.1;exact⟨by decide,ak.2 (by omega),ak.2 (by omega),by decide,rfl,rfl⟩
theorem aar:aU aT.gd 147 aaq:=
 jG (cx:=aT) (n:=9) (cl:=[]) au trivial Tryz.func147 λd hd=>by
  obtain⟨id,⟨⟩⟩:=d;exact aJ (λ_=>none) (afo id hd) (by kernel_rfl)
abbrev MP:CT:={ ps:=[.int .i64],pre:=λd=>d.1<=9223372036854775807,res:=λd=>([],.one (.c (.v (.int .i64 (aV d.1))))) }
abbrev an0(id:Int):Nat->Option (St->jv):=λk=>match k with
 | 4=>some λ_=>.inv { α:=Nat×Int,slots:=λx=>[(8,.c (.v (.int .i64 x.1))),(0,.c (.v (.int .i64 x.2)))],res:=λ_=>[],inv:=λx=>x.1<=5/\0<=x.2/\x.2<=9223372036854775807/\dU (5 - x.1) x.1 x.2=aV id,meas:=λx=>5 - x.1 }
 | _=>none
theorem akF(id:Int) (aF:MP.pre (id,())):
 let z2:=qI (aV id) (-1:Int);let z1:=λ(x:Nat×Int)=>x.fst<=5/\0<=x.snd/\x.snd<=9223372036854775807/\dU (5 - x.fst) (x.fst:Int) x.snd=aV id;br (decide (id < 0)) z2 ((∃(x:Nat×Int),(z1 x)/\(cI 0=cI (x.fst:Int)/\cI id=cI x.snd/\True)/\([]:List dJ)=[])/\∀(x:Nat×Int),x.fst<=5/\0<=x.snd/\x.snd<=9223372036854775807/\dU (5 - x.fst) (x.fst:Int) x.snd=aV id->br (decide ((x.fst:Int) < (5:Int))) (br (decide (x.snd < 8)) (qI (aV id) (x.fst:Int)) ((0<=x.snd/\x.snd<=9223372036854775807)/\br (decide (7<=x.snd.tmod (8:Int))) z2 (iR ((x.fst:Int)+(1:Int))/\∃(x':Nat×Int),(z1 x')/\(cI ((x.fst:Int)+(1:Int))=cI (x'.fst:Int)/\cI (x.snd.tdiv (8:Int) - (1:Int))=cI x'.snd/\True)/\([]:List dJ)=[]/\5 - x'.fst < 5 - x.fst))) z2):=by
 conv=>zeta
 delta dJ cI qI iR;have hp:id<=9223372036854775807:=aF;refine ah.2 ⟨λh=>?_,λh=>?_⟩
 .simp only[dH]at h;have e:aV id = -1:=by unfold aV;rw[if_pos h]
  rw[e];exact⟨rfl,rfl⟩
 simp only[eX]at h;refine⟨⟨(0,id),⟨by omega,by simp only;omega,hp,by unfold aV;rw[if_neg h];rfl⟩,⟨rfl,rfl,trivial⟩,rfl⟩,λx hx=>ah.2 ⟨λh2=>?_,λh2=>?_⟩⟩
 .obtain⟨x1,x2,x3,x4⟩:=hx;simp only[dH]at h2;obtain⟨m,hm⟩:∃m,5 - x.1=m+1:=⟨4 - x.1,by omega⟩
  rw[hm,dU]at x4;refine ah.2 ⟨λh3=>?_,λh3=>⟨⟨x2,x3⟩,ah.2 ⟨λh4=>?_,λh4=>?_⟩⟩⟩
  .simp only[dH]at h3;rw[if_pos h3]at x4;rw[<-x4];exact⟨rfl,rfl⟩
  .simp only[dH,eX]at h3 h4;rw[if_neg h3,if_pos h4]at x4;rw[<-x4];exact⟨rfl,rfl⟩
  .simp only[eX]at h3 h4;rw[if_neg h3,if_neg h4]at x4;have e:x.2.tdiv 8=x.2 / 8:=A71 x2;refine⟨ak.2 (by omega),(x.1+1,x.2.tdiv 8 - 1),⟨by simp only;omega,by simp only;omega,by simp only;omega,?_⟩,⟨rfl,rfl,trivial⟩,rfl,by simp only;omega⟩
   rw[<-x4,show 5 - (x.1+1)=m by omega];rfl
 .obtain⟨x1,x2,x3,x4⟩:=hx;simp only[eX]at h2;rw[show 5 - x.1=0 by omega]at x4
  rw[<-x4];exact⟨rfl,rfl⟩
theorem JI:aU aT.gd 76 MP:=
 jG (cx:=aT) (n:=23) (cl:=[(147,aaq)]) au ⟨aar,trivial⟩ Tryz.func76 λd hd=>by
  obtain⟨id,⟨⟩⟩:=d;exact aJ (an0 id) (akF id hd) (by kernel_rfl)
abbrev RN:CT:={ ps:=[dX],pre:=λd=>d.1.1<=9223372036854775807,res:=λd=>([],.gV [.c (.v (.int .i64 (cO d.1.1 d.1.2.2.2.2.2.1).1)),.c (.v (.bool (cO d.1.1 d.1.2.2.2.2.2.1).2))]) }
theorem akG(id fn pc:Int) (rg:List Int) (st ch ph su fa:Int) (he:List Int) (aF:RN.pre ((id,fn,pc,rg,st,ch,ph,su,fa,he,()),())):
 let z1:=[cI ((cO id ch).fst),cB ((cO id ch).snd)];id<=9223372036854775807/\br (decide (aV id < 0) || decide (aV id=4) || decide (ch < 0) || decide (7<=ch)) (rT z1 [cI 0,cB false]) (iR (id+1)/\iR ((8:Int) * (id+1))/\iR ((8:Int) * (id+1)+ch)/\rT z1 [cI ((8:Int) * (id+1)+ch),cB true]):=by
 conv=>zeta
 delta cI cB rT iR;refine⟨aF,ah.2 ⟨λh=>?_,λh=>?_⟩⟩
 .have e:cO id ch=(0,false):=by
   unfold cO;rw[if_pos (by simpa[or_assoc]using h)]
  rw[e];exact⟨rfl,rfl⟩
 .simp only[l7,eX]at h;have e:cO id ch=(8 * (id+1)+ch,true):=by
   unfold cO;rw[if_neg (by omega)]
  have:=lZ (id:=id) (by omega)
  rw[e];exact⟨ak.2 (by omega),ak.2 (by omega),ak.2 (by omega),rfl,rfl⟩
theorem RP:aU aT.gd 89 RN:=
 jG (cx:=aT) (n:=31) (cl:=[(76,MP)]) au ⟨JI,trivial⟩ Tryz.func89 λd hd=>by
  obtain⟨⟨id,fn,pc,rg,st,ch,ph,su,fa,he,⟨⟩⟩,⟨⟩⟩:=d;exact aJ (λ_=>none) (akG id fn pc rg st ch ph su fa he hd) (by kernel_rfl)
abbrev PY:CT:={ ps:=[o9,dX],pre:=λd=>0<=d.2.1.2.1/\d.2.1.2.1 < d.1.2.2.2.1.length/\0<=d.2.1.2.2.1,res:=λd=>([],.gV [.agg [.v (.int .i64 ((atR d.1.2.2.2.1 d.2.1.2.1 d.2.1.2.2.1).1).1),.v (.int .i64 ((atR d.1.2.2.2.1 d.2.1.2.1 d.2.1.2.2.1).1).2.1),.v (.int .i64 ((atR d.1.2.2.2.1 d.2.1.2.1 d.2.1.2.2.1).1).2.2.1),.v (.int .i64 ((atR d.1.2.2.2.1 d.2.1.2.1 d.2.1.2.2.1).1).2.2.2.1),.v (.int .i64 ((atR d.1.2.2.2.1 d.2.1.2.1 d.2.1.2.2.1).1).2.2.2.2.1),.v (.int .i64 ((atR d.1.2.2.2.1 d.2.1.2.1 d.2.1.2.2.1).1).2.2.2.2.2.1),.v (.int .i64 ((atR d.1.2.2.2.1 d.2.1.2.1 d.2.1.2.2.1).1).2.2.2.2.2.2.1),.v (.int .i64 ((atR d.1.2.2.2.1 d.2.1.2.1 d.2.1.2.2.1).1).2.2.2.2.2.2.2.1)],.c (.v (.bool (atR d.1.2.2.2.1 d.2.1.2.1 d.2.1.2.2.1).2))]) }
theorem akH(vs:List VD) (ms cs:List ByteArray) (fs:List FD) (ts:List SD) (id fn pc:Int) (rg:List Int) (st ch ph su fa:Int) (he:List Int) (aF:PY.pre ((vs,ms,cs,fs,ts,()),(id,fn,pc,rg,st,ch,ph,su,fa,he,()),())):
 let z1:=[SV.agg [v6 ((atR fs fn pc).fst.fst),v6 ((atR fs fn pc).fst.snd.fst),v6 ((atR fs fn pc).fst.snd.snd.fst),v6 ((atR fs fn pc).fst.snd.snd.snd.fst),v6 ((atR fs fn pc).fst.snd.snd.snd.snd.fst),v6 ((atR fs fn pc).fst.snd.snd.snd.snd.snd.fst),v6 ((atR fs fn pc).fst.snd.snd.snd.snd.snd.snd.fst),v6 ((atR fs fn pc).fst.snd.snd.snd.snd.snd.snd.snd.fst)],cB ((atR fs fn pc).snd)];(0<=fn/\fn < (fs.length:Int))/\∀(d:ByteArray×(lJ.sl.pair Sh.unit).den),fs[fn.toNat]?=some d->br (decide (((List.length d.snd.fst):Int)<=pc)) (rT z1 [SV.agg [v6 0,v6 0,v6 0,v6 0,v6 0,v6 0,v6 0,v6 0],cB false]) ((0<=pc/\pc < ((List.length d.snd.fst):Int))/\∀(dI:ID),d.snd.fst[pc.toNat]?=some dI->rT z1 [SV.agg [v6 dI.fst,v6 dI.snd.fst,v6 dI.snd.snd.fst,v6 dI.snd.snd.snd.fst,v6 dI.snd.snd.snd.snd.fst,v6 dI.snd.snd.snd.snd.snd.fst,v6 dI.snd.snd.snd.snd.snd.snd.fst,v6 dI.snd.snd.snd.snd.snd.snd.snd.fst],cB true]):=by
 conv=>zeta
 delta v6 cB rT I6;obtain⟨h1,h2,h3⟩:0<=fn/\fn < (fs.length:Int)/\0<=pc:=aF;refine⟨⟨h1,h2⟩,λx hx=>?_⟩
 obtain⟨y,hy,ey⟩:=oq ⟨h1,h2⟩;rw[hx]at hy;cases hy;refine ah.2 ⟨λh=>?_,λh=>?_⟩
 .simp only[dH]at h;have e:atR fs fn pc=((0,0,0,0,0,0,0,0,()),false):=by
   unfold atR mZ;rw[ey,BL (by omega)]
  rw[e];exact⟨rfl,rfl⟩
 .simp only[eX]at h;refine⟨⟨h3,by omega⟩,λi hi=>?_⟩
  have e:atR fs fn pc=(i,true):=by
   unfold atR mZ;rw[ey,hi]
  rw[e];exact⟨rfl,rfl⟩
theorem zH:aU aT.gd 95 PY:=
 dQ (cx:=aT) (n:=25) (cl:=[]) (rc:=[]) au trivial Tryz.func95 λd hd=>by
  obtain⟨⟨vs,ms,cs,fs,ts,⟨⟩⟩,⟨id,fn,pc,rg,st,ch,ph,su,fa,he,⟨⟩⟩,⟨⟩⟩:=d;exact aJ (λ_=>none) (akH vs ms cs fs ts id fn pc rg st ch ph su fa he hd) (by kernel_rfl)
abbrev aas:CT:={ ps:=[dX,.int .i64,.int .i64],pre:=λd=>True,res:=λd=>([],.one (.dat dX (JE d.1 d.2.1 d.2.2.1))) }
theorem afp(id fn pc:Int) (rg:List Int) (st ch ph su fa:Int) (he:List Int) (s f:Int):
 rE (aZ.one (SV.dat dX (JE (id,fn,pc,rg,st,ch,ph,su,fa,he,()) s f))) (aZ.one (SV.dat dX ((id,fn,pc,rg,st,ch,ph,s,f,he,())))):=by
 delta rE I6;exact⟨rfl,rfl⟩
theorem MQ:aU aT.gd 148 aas:=
 dQ (cx:=aT) (n:=12) (cl:=[]) (rc:=[.data dX]) au trivial Tryz.func148 λd hd=>by
  obtain⟨⟨id,fn,pc,rg,st,ch,ph,su,fa,he,⟨⟩⟩,s,f,⟨⟩⟩:=d;exact aJ (λ_=>none) (afp id fn pc rg st ch ph su fa he s f) (by kernel_rfl)
abbrev RQ:CT:={ ps:=[dX,lJ],pre:=λd=>d.1.2.2.2.2.2.2.2.2.2.1.length<=1000000/\d.1.1<=9223372036854775807,res:=λd=>([],.one (.c (.v (.int .i64 (jy d.1.1 d.1.2.2.2.2.2.1 d.1.2.2.2.2.2.2.1 d.1.2.2.2.2.2.2.2.2.2.1 d.2.1))))) }
theorem afq(id fn pc:Int) (rg:List Int) (st ch ph su fa:Int) (he:List Int) (op a b c obj n fo ord:Int) (aF:RQ.pre ((id,fn,pc,rg,st,ch,ph,su,fa,he,()),(op,a,b,c,obj,n,fo,ord,()),())):
 let z3:=jy id ch ph he (op,a,b,c,obj,n,fo,ord,());let z2:=qI z3 (0:Int);let z1:=qI z3 (27:Int);br (!decide (ph=0)) z2 (br (decide (op=18)) (he.length<=1000000/\br (!dP he n) z1 z2) (br (decide (op=16)) (he.length<=1000000/\br (!dP he obj) z1 z2) (br (decide (op=21)) (id<=9223372036854775807/\br (!(cO id ch).snd) (qI z3 (28:Int)) z2) z2))):=by
 conv=>zeta
 delta qI;obtain⟨h1,h2⟩:he.length<=1000000/\id<=9223372036854775807:=aF;unfold jy;simp only[ah]
 repeat' (first | exact h1 | exact h2 | (refine And.intro ?_ ?_) | (intro _))
 all_goals first | rfl | (simp_all;done)
theorem MR:aU aT.gd 150 RQ:=
 jG (cx:=aT) (n:=35) (cl:=[(165,Hg),(89,RN)]) au ⟨zy,RP,trivial⟩ Tryz.func150 λd hd=>by
  obtain⟨⟨id,fn,pc,rg,st,ch,ph,su,fa,he,⟨⟩⟩,⟨op,a,b,c,obj,n,fo,ord,⟨⟩⟩,⟨⟩⟩:=d;exact aJ (λ_=>none) (afq id fn pc rg st ch ph su fa he op a b c obj n fo ord hd) (by kernel_rfl)
theorem aO{c:Prop} [Decidable c] {A B:Prop}:br (decide c) A B↔(c->A)/\(¬c->B):=by
 rw[ah,dH,eX]
abbrev aat:CT:={ ps:=[dX,lJ],pre:=λd=>(0<=d.2.1.2.1/\d.2.1.2.1 < 8)/\(0<=d.2.1.2.2.1/\d.2.1.2.2.1 < 8)/\(0<=d.2.1.2.2.2.1/\d.2.1.2.2.2.1 < 8)/\0<=d.1.2.2.1/\d.1.2.2.1<=1000000,res:=λd=>([],.gV [.dat dX (fU d.1 d.2.1).1,.c (.v (.bool (fU d.1 d.2.1).2))]) }
theorem afr(id fn pc:Int) (rg:List Int) (st ch ph su fa:Int) (he:List Int) (op a b c obj n fo ord:Int) (aF:aat.pre ((id,fn,pc,rg,st,ch,ph,su,fa,he,()),(op,a,b,c,obj,n,fo,ord,()),())):
 let z5:=(id,fn,pc,rg,st,ch,ph,su,fa,he,());let z4:=fU z5 (op,a,b,c,obj,n,fo,ord,());let z3:=[SV.dat dX z4.fst,cB (z4.snd)];let z1:=rT z3 [SV.dat dX ((id,fn,pc+1,rg,st,ch,ph,su,fa,he,())),cB true];let z2:=rT z3 [SV.dat dX ((id,fn,n,rg,st,ch,ph,su,fa,he,())),cB true];iR (pc+1)/\br (decide (op=1)) ((0<=a/\a < 8)/\a.toNat < 8/\rT z3 [SV.dat dX ((id,fn,pc+1,rg.set a.toNat n,st,ch,ph,su,fa,he,())),cB true]) (br (decide (op=2)) ((0<=b/\b < 8)/\b.toNat < 8/\∀(d:Int),rg[b.toNat]?=some d->(0<=a/\a < 8)/\a.toNat < 8/\rT z3 [SV.dat dX ((id,fn,pc+1,rg.set a.toNat d,st,ch,ph,su,fa,he,())),cB true]) (br (decide (op=3)) ((0<=b/\b < 8)/\b.toNat < 8/\∀(d:Int),rg[b.toNat]?=some d->(0<=c/\c < 8)/\c.toNat < 8/\∀(dI:Int),rg[c.toNat]?=some dI->True/\br (decide ((dZ fo d dI).snd=0)) ((0<=a/\a < 8)/\a.toNat < 8/\rT z3 [SV.dat dX ((id,fn,pc+1,rg.set a.toNat (dZ fo d dI).fst,st,ch,ph,su,fa,he,())),cB true]) z1) (br (decide (op=5)) ((0<=b/\b < 8)/\b.toNat < 8/\∀(d:Int),rg[b.toNat]?=some d->br (decide (d=0)) z1 z2) (br (decide (op=4)) z2 (br (decide (op=6)) ((0<=b/\b < 8)/\b.toNat < 8/\∀(d:Int),rg[b.toNat]?=some d->br (decide (d=0)) (True/\rT z3 [SV.dat dX (JE z5 (3:Int) (26:Int)),cB false]) z1) (br (decide (op=7)) (True/\rT z3 [SV.dat dX (JE z5 (2:Int) (0:Int)),cB false]) z1)))))):=by
 conv=>zeta
 delta cB rT I6 iR;obtain⟨hA,hB,hC,hp0,hp1⟩:(0<=a/\a < 8)/\(0<=b/\b < 8)/\(0<=c/\c < 8)/\0<=pc/\pc<=1000000:=aF;have hA8:a.toNat < 8:=by omega
 have hB8:b.toNat < 8:=by omega
 have hC8:c.toNat < 8:=by omega
 have gd:∀{x d:Int},rg[x.toNat]?=some d->rg.getD x.toNat 0=d:=λhd=>by rw[J5,hd];rfl
 refine⟨ak.2 (by omega),aO.2 ⟨λh=>?_,λh=>aO.2 ⟨λh2=>?_,λh2=>aO.2 ⟨λh3=>?_,λh3=>aO.2 ⟨λh4=>?_,λh4=>aO.2 ⟨λh5=>?_,λh5=>aO.2 ⟨λh6=>?_,λh6=>aO.2 ⟨λh7=>?_,λh7=>?_⟩⟩⟩⟩⟩⟩⟩⟩
 .have e:fU (id,fn,pc,rg,st,ch,ph,su,fa,he,()) (op,a,b,c,obj,n,fo,ord,())=((id,fn,pc+1,rg.set a.toNat n,st,ch,ph,su,fa,he,()),true):=by simp only[fU,if_pos h]
  rw[e];exact⟨hA,hA8,rfl,rfl⟩
 .refine⟨hB,hB8,λd hd=>?_⟩
  have e:fU (id,fn,pc,rg,st,ch,ph,su,fa,he,()) (op,a,b,c,obj,n,fo,ord,())=((id,fn,pc+1,rg.set a.toNat d,st,ch,ph,su,fa,he,()),true):=by simp only[fU,if_neg h,if_pos h2,gd hd]
  rw[e];exact⟨hA,hA8,rfl,rfl⟩
 .refine⟨hB,hB8,λd hd=>⟨hC,hC8,λd1 hd1=>⟨trivial,aO.2 ⟨λh8=>?_,λh8=>?_⟩⟩⟩⟩
  .have e:fU (id,fn,pc,rg,st,ch,ph,su,fa,he,()) (op,a,b,c,obj,n,fo,ord,())=((id,fn,pc+1,rg.set a.toNat (dZ fo d d1).1,st,ch,ph,su,fa,he,()),true):=by simp only[fU,if_neg h,if_neg h2,if_pos h3,gd hd,gd hd1,if_pos h8]
   rw[e];exact⟨hA,hA8,rfl,rfl⟩
  .have e:fU (id,fn,pc,rg,st,ch,ph,su,fa,he,()) (op,a,b,c,obj,n,fo,ord,())=((id,fn,pc+1,rg,st,ch,ph,su,fa,he,()),true):=by simp only[fU,if_neg h,if_neg h2,if_pos h3,gd hd,gd hd1,if_neg h8]
   rw[e];exact⟨rfl,rfl⟩
 .have h45:¬op=4:=by omega
  refine⟨hB,hB8,λd hd=>aO.2 ⟨λh8=>?_,λh8=>?_⟩⟩
  .have e:fU (id,fn,pc,rg,st,ch,ph,su,fa,he,()) (op,a,b,c,obj,n,fo,ord,())=((id,fn,pc+1,rg,st,ch,ph,su,fa,he,()),true):=by simp only[fU,if_neg h,if_neg h2,if_neg h3,if_neg h45,if_pos h4,gd hd,if_pos h8]
   rw[e];exact⟨rfl,rfl⟩
  .have e:fU (id,fn,pc,rg,st,ch,ph,su,fa,he,()) (op,a,b,c,obj,n,fo,ord,())=((id,fn,n,rg,st,ch,ph,su,fa,he,()),true):=by simp only[fU,if_neg h,if_neg h2,if_neg h3,if_neg h45,if_pos h4,gd hd,if_neg h8]
   rw[e];exact⟨rfl,rfl⟩
 .have e:fU (id,fn,pc,rg,st,ch,ph,su,fa,he,()) (op,a,b,c,obj,n,fo,ord,())=((id,fn,n,rg,st,ch,ph,su,fa,he,()),true):=by simp only[fU,if_neg h,if_neg h2,if_neg h3,if_pos h5]
  rw[e];exact⟨rfl,rfl⟩
 .refine⟨hB,hB8,λd hd=>aO.2 ⟨λh8=>?_,λh8=>?_⟩⟩
  .have e:fU (id,fn,pc,rg,st,ch,ph,su,fa,he,()) (op,a,b,c,obj,n,fo,ord,())=((id,fn,pc,rg,st,ch,ph,3,26,he,()),false):=by simp only[fU,if_neg h,if_neg h2,if_neg h3,if_neg h5,if_neg h4,gd hd];rw[if_pos ⟨h6,h8⟩]
   rw[e];exact⟨trivial,rfl,rfl⟩
  .have h67:¬op=7:=by omega
   have e:fU (id,fn,pc,rg,st,ch,ph,su,fa,he,()) (op,a,b,c,obj,n,fo,ord,())=((id,fn,pc+1,rg,st,ch,ph,su,fa,he,()),true):=by simp only[fU,if_neg h,if_neg h2,if_neg h3,if_neg h5,if_neg h4,gd hd,if_neg h67];rw[if_neg λq=>h8 q.2]
   rw[e];exact⟨rfl,rfl⟩
 .have e:fU (id,fn,pc,rg,st,ch,ph,su,fa,he,()) (op,a,b,c,obj,n,fo,ord,())=((id,fn,pc,rg,st,ch,ph,2,0,he,()),false):=by simp only[fU,if_neg h,if_neg h2,if_neg h3,if_neg h5,if_neg h4,if_pos h7];rw[if_neg λq=>h6 q.1]
  rw[e];exact⟨trivial,rfl,rfl⟩
 .have e:fU (id,fn,pc,rg,st,ch,ph,su,fa,he,()) (op,a,b,c,obj,n,fo,ord,())=((id,fn,pc+1,rg,st,ch,ph,su,fa,he,()),true):=by simp only[fU,if_neg h,if_neg h2,if_neg h3,if_neg h5,if_neg h4,if_neg h7];rw[if_neg λq=>h6 q.1]
  rw[e];exact⟨rfl,rfl⟩
theorem aau:aU aT.gd 151 aat:=
 dQ (cx:=aT) (n:=87) (cl:=[(97,RJ),(148,aas)]) (rc:=[.data dX,.keep]) au ⟨JG,MQ,trivial⟩ Tryz.func151 λd hd=>by
  obtain⟨⟨id,fn,pc,rg,st,ch,ph,su,fa,he,⟨⟩⟩,⟨op,a,b,c,obj,n,fo,ord,⟨⟩⟩,⟨⟩⟩:=d;exact aJ (λ_=>none) (afr id fn pc rg st ch ph su fa he op a b c obj n fo ord hd) (by kernel_rfl)
abbrev zJ:CT:={ ps:=[o9,.int .i64],pre:=λd=>bnd (d.1,()),res:=λd=>([],.one (.c (.v (.int .i64 (dG (aG d.1.1 d.1.2.1 d.1.2.2.1 d.1.2.2.2.1 d.1.2.2.2.2.1).1 d.2.1))))) }
theorem akI(vs:List VD) (ms cs:List ByteArray) (fs:List FD) (ts:List SD) (bound:Int) (aF:zJ.pre ((vs,ms,cs,fs,ts,()),bound,())):
 let z2:=aG vs ms cs fs ts;let z1:=dG z2.fst bound;(vs.length<=1000000/\ms.length<=1000000/\cs.length<=1000000/\fs.length<=1000000/\ts.length<=1000000/\(∀(x:ByteArray×(lJ.sl.pair Sh.unit).den),x∈fs->List.length x.snd.fst<=1000000)/\(dN fs).length<=1000000)/\br (!decide (z2.fst=0)) (qI z1 (z2.fst)) (br (decide (bound < 1) || decide (32 < bound)) (qI z1 (2:Int)) (qI z1 (0:Int))):=by
 conv=>zeta
 delta qI I6;have hb:bnd ((vs,ms,cs,fs,ts,()),()):=aF;refine⟨hb,ah.2 ⟨λh=>?_,λh=>ah.2 ⟨λh2=>?_,λh2=>?_⟩⟩⟩
 .have h:(aG vs ms cs fs ts).1≠0:=by simpa using h
  unfold dG;rw[if_pos h];exact⟨rfl,rfl⟩
 .have h:¬(aG vs ms cs fs ts).1≠0:=by simpa using h
  have h2:bound < 1\/32 < bound:=by simpa using h2
  unfold dG;rw[if_neg h,if_pos h2];exact⟨rfl,rfl⟩
 .have h:¬(aG vs ms cs fs ts).1≠0:=by simpa using h
  have h2:¬(bound < 1\/32 < bound):=by simp only[l7,eX]at h2;omega
  unfold dG;rw[if_neg h,if_neg h2];exact⟨rfl,rfl⟩
theorem JJ:aU aT.gd 75 zJ:=
 jG (cx:=aT) (n:=23) (cl:=[(74,Hr)]) au ⟨CW,trivial⟩ Tryz.func75 λd hd=>by
  obtain⟨⟨vs,ms,cs,fs,ts,⟨⟩⟩,bound,⟨⟩⟩:=d;exact aJ (λ_=>none) (akI vs ms cs fs ts bound hd) (by kernel_rfl)
open Classical in
theorem jO:iO ms fs bound t=true↔dB ms fs bound t:=by
 unfold iO;rw[VU]
theorem wP(h:¬dB ms fs bound t):iO ms fs bound t=false:=VN.2 λq=>h (jO.1 q)
open Classical in
theorem kK:mQ ms fs bound t=true↔uh ms fs bound t:=by
 unfold mQ;rw[VU]
theorem Fh(h:¬uh ms fs bound t):mQ ms fs bound t=false:=VN.2 λq=>h (kK.1 q)
abbrev aav:CT:={ ps:=[o9,.int .i64,dX],pre:=λd=>True/\d.2.2.1.2.2.2.2.2.2.2.2.2.1.length<=1000000/\d.2.2.1.1<=9223372036854775807/\d.2.2.1.2.2.2.1.length=8,res:=λd=>([],vB (iO d.1.2.1 d.1.2.2.2.1 d.2.1 d.2.2.1)) }
abbrev akJ(vs:List VD) (ms cs:List ByteArray) (fs:List FD) (ts:List SD) (bound id fn pc:Int) (rg:List Int) (st ch ph su fa:Int) (he:List Int):Nat->Option (St->jv):=λk=>match k with
 | 5=>some λ_=>.inv { α:=Nat,slots:=λk=>[(52,.c (.v (.int .i64 k)))],res:=λ_=>[],inv:=λk=>k<=8/\∀j < k,∀r,rg[j]?=some r->bW r=true,meas:=λk=>8 - k }
 | 13=>some λ_=>.inv { α:=Nat,slots:=λk=>[(97,.c (.v (.int .i64 k)))],res:=λ_=>[],inv:=λk=>k<=he.length/\∀j < k,∀m,he[j]?=some m->0<=m/\m < ms.length,meas:=λk=>he.length - k }
 | _=>none
theorem afs(vs:List VD) (ms cs:List ByteArray) (fs:List FD) (ts:List SD) (bound id fn pc:Int) (rg:List Int) (st ch ph su fa:Int) (he:List Int) (aF:aav.pre ((vs,ms,cs,fs,ts,()),bound,(id,fn,pc,rg,st,ch,ph,su,fa,he,()),())):
 let z3:=!(decide (aV id < 0) || decide (fn < 0) || decide ((fs.length:Int)<=fn) || decide (pc < 0));let z7:=(id,fn,pc,rg,st,ch,ph,su,fa,he,());let z6:=iO ms fs bound z7;let z5:=qB z6 false;let z4:=λ(x:Nat)=>(x<=8/\∀(j:Nat),j < x->∀(r:Int),rg[j]?=some r->bW r=true);let z1:=[g0 (ay.blk 27 [SC.sl ER vs,SC.sl Sh.str ms,SC.sl Sh.str cs,SC.sl BA fs,SC.sl lU ts]),g0 (ay.obj 56 dX z7)];let z10:=λ(x:Nat)=>(x:Int)+(1:Int);let z2:=λ(x:Nat)=>(x<=he.length/\∀(j:Nat),j < x->∀(m:Int),he[j]?=some m->0<=m/\m < (ms.length:Int));let z8:=decide (ph=1) || decide (ph=2);let z9:=(atR fs fn pc).fst.fst=18;id<=9223372036854775807/\(z3=true->0<=fn/\fn < (fs.length:Int))/\∀(d:ByteArray×(lJ.sl.pair Sh.unit).den),(z3=true->fs[fn.toNat]?=some d)->br (decide (aV id < 0) || decide (fn < 0) || decide ((fs.length:Int)<=fn) || decide (pc < 0) || decide (((List.length d.snd.fst):Int) < pc)) z5 ((∃x,(z4 x)/\(cI 0=cI (x:Int)/\True)/\sm z1)/\∀(x:Nat),(z4 x)->br (decide ((x:Int) < (8:Int))) ((0<=(x:Int)/\(x:Int) < (rg.length:Int))/\∀(d:Int),rg[(x:Int).toNat]?=some d->True/\br (!decide (aH d=d)) z5 (iR (z10 x)/\∃x',(z4 x')/\(cI (z10 x)=cI (x':Int)/\True)/\sm z1/\8 - x' < 8 - x)) (((!(decide (st < 0) || decide (bound < st) || decide (ch < 0) || decide (7 < ch) || decide (aV id=4) && !decide (ch=0)))=true->he.length<=1000000)/\br (decide (st < 0) || decide (bound < st) || decide (ch < 0) || decide (7 < ch) || decide (aV id=4) && !decide (ch=0) || !ku he) z5 ((∃x,(z2 x)/\(cI 0=cI (x:Int)/\True)/\sm z1)/\∀(x:Nat),(z2 x)->br (decide ((x:Int) < (he.length:Int))) ((0<=(x:Int)/\(x:Int) < (he.length:Int))/\∀(d:Int),he[(x:Int).toNat]?=some d->br (decide (d < 0) || decide ((ms.length:Int)<=d)) z5 (iR (z10 x)/\∃x',(z2 x')/\(cI (z10 x)=cI (x':Int)/\True)/\sm z1/\he.length - x' < he.length - x)) (br (decide (ph=0)) (qB z6 true) ((0<=fn/\fn < (fs.length:Int)/\0<=pc)/\((z8 && (atR fs fn pc).snd && decide z9)=true->he.length<=1000000)/\qB z6 (z8 && (atR fs fn pc).snd && decide z9 && !dP he (atR fs fn pc).fst.snd.snd.snd.snd.snd.fst)))))):=by
 conv=>zeta
 delta cI g0 qB sm I6 iR;obtain⟨_,AX,hid,hrg⟩:True/\he.length<=1000000/\id<=9223372036854775807/\rg.length=8:=aF;have fF:¬dB ms fs bound (id,fn,pc,rg,st,ch,ph,su,fa,he,())->([]:List Go.jf.ay)=[]/\aZ.one (SV.c (SC.v (Value.bool (iO ms fs bound (id,fn,pc,rg,st,ch,ph,su,fa,he,())))))=aZ.one (SV.c (SC.v (Value.bool false))):=λq=>⟨rfl,by rw[wP q]⟩
 refine⟨hid,λg=>by simp at g;omega,λx hx=>ah.2 ⟨λh=>?_,λh=>?_⟩⟩
 .refine fF λq=>?_
  obtain⟨q1,q2,q3,_⟩:=q;obtain⟨y,hy,ey⟩:=oq q2;have hx:=hx (by simp;omega)
  rw[hx]at hy;cases hy;rw[ey]at q3;simp at h;omega
 simp only[l7,eX]at h;obtain⟨⟨⟨⟨h1,h2⟩,h3⟩,h4⟩,h5⟩:=h;have hx:=hx (by simp;omega)
 have hfn:0<=fn/\fn < (fs.length:Int):=by omega
 obtain⟨y,hy,ey⟩:=oq hfn;rw[hx]at hy;cases hy;have hpc:0<=pc/\pc<=((codeF fs fn).length:Int):=by rw[ey];omega
 refine⟨⟨0,⟨by omega,λj hj=>by omega⟩,⟨rfl,trivial⟩,rfl⟩,λk hk=>ah.2 ⟨λh=>?_,λh=>?_⟩⟩
 .simp only[dH]at h;refine⟨by omega,λd hd=>⟨trivial,ah.2 ⟨λh6=>?_,λh6=>⟨ak.2 (by omega),k+1,⟨by omega,λj hj r hr=>?_⟩,⟨rfl,trivial⟩,rfl,by omega⟩⟩⟩⟩
  .refine fF λq=>?_
   have:=q.2.2.2.1 k (by omega) d hd
   unfold bW at this;have h6:¬aH d=d:=by simpa using h6
   exact h6 (EU.2 (by simpa using this))
  .have h6:aH d=d:=by simpa using h6
   by_cases gU:j=k
   .subst gU;have hd:rg[j]?=some d:=hd;rw[hd]at hr;cases hr;unfold bW;exact wX (EU.1 h6)
   .exact hk.2 j (by omega) r hr
 simp only[eX]at h;have hr:∀k < 8,∀r,rg[k]?=some r->bW r=true:=λj hj r hr=>hk.2 j (by omega) r hr
 refine⟨λ_=>AX,ah.2 ⟨λh7=>?_,λh7=>?_⟩⟩
 .refine fF λq=>?_
  obtain⟨_,_,_,_,q5,q6,q7,_⟩:=q;have e:ku he=true:=wX q7;rw[e]at h7;simp at h7;omega
 simp only[l7,A70,wU,eX,dH]at h7;obtain⟨⟨⟨⟨⟨a1,a2⟩,a3⟩,a4⟩,a5⟩,a6⟩:=h7;have hss:SS he:=Qn a6;refine⟨⟨0,⟨by omega,λj hj=>by omega⟩,⟨rfl,trivial⟩,rfl⟩,λm hm=>ah.2 ⟨λh8=>?_,λh8=>?_⟩⟩
 .simp only[dH]at h8;refine⟨by omega,λd hd=>ah.2 ⟨λh9=>?_,λh9=>⟨ak.2 (by omega),m+1,⟨by omega,λj hj r hr=>?_⟩,⟨rfl,trivial⟩,rfl,by omega⟩⟩⟩
  .refine fF λq=>?_
   have:=q.2.2.2.2.2.2.2.1 d (iy hd);simp at h9;omega
  .by_cases gU:j=m
   .subst gU;have hd:he[j]?=some d:=hd;rw[hd]at hr;cases hr;simp at h9;omega
   .exact hm.2 j (by omega) r hr
 simp only[eX]at h8;have hmm:∀m∈he,0<=m/\m < (ms.length:Int):=λy hy=>by
  obtain⟨j,hj⟩:=yu hy;exact hm.2 j (by have:=(A8.1 hj).1;omega) y hj
 have base:(ph=0\/((ph=1\/ph=2)/\∃i,mZ fs fn pc=some i/\i.1=18/\dP he i.2.2.2.2.2.1=false))↔dB ms fs bound (id,fn,pc,rg,st,ch,ph,su,fa,he,()):=
  ⟨λq=>⟨by omega,hfn,hpc,hr,by omega,⟨by omega,by omega,λe=>by omega⟩,hss,hmm,q⟩,λq=>q.2.2.2.2.2.2.2.2⟩
 have fB:∀b:Bool,(b=true↔(ph=0\/((ph=1\/ph=2)/\∃i,mZ fs fn pc=some i/\i.1=18/\dP he i.2.2.2.2.2.1=false)))->aZ.one (SV.c (SC.v (Value.bool (iO ms fs bound (id,fn,pc,rg,st,ch,ph,su,fa,he,())))))=aZ.one (SV.c (SC.v (Value.bool b))):=λb hb=>by
  have:iO ms fs bound (id,fn,pc,rg,st,ch,ph,su,fa,he,())=b:=by
   rw[FK,hb,base,jO]
  rw[this]
 refine ah.2 ⟨λh9=>⟨rfl,fB _ ?_⟩,λh9=>⟨⟨hfn.1,hfn.2,hpc.1⟩,λ_=>AX,rfl,fB _ ?_⟩⟩
 .simp at h9;simp[h9]
 .simp at h9;cases ha:mZ fs fn pc with
  | none=>rw[show atR fs fn pc=((0,0,0,0,0,0,0,0,()),false) by unfold atR;rw[ha]];simp[h9]
  | some i=>rw[show atR fs fn pc=(i,true) by unfold atR;rw[ha]];simp[h9,and_assoc]
theorem aaw:aU aT.gd 167 aav:=
 dQ (cx:=aT) (n:=144) (cl:=[(76,MP),(77,Fa),(192,ctV),(95,PY),(165,Hg)]) (rc:=[]) au ⟨JI,CY,MN,zH,zy,trivial⟩ Tryz.func167 λd hd=>by
  obtain⟨⟨vs,ms,cs,fs,ts,⟨⟩⟩,bound,⟨id,fn,pc,rg,st,ch,ph,su,fa,he,⟨⟩⟩,⟨⟩⟩:=d;exact aJ (akJ vs ms cs fs ts bound id fn pc rg st ch ph su fa he) (afs vs ms cs fs ts bound id fn pc rg st ch ph su fa he hd) (by kernel_rfl)
abbrev JK:CT:={ ps:=[o9,.int .i64,dX],pre:=λd=>(aG d.1.1 d.1.2.1 d.1.2.2.1 d.1.2.2.2.1 d.1.2.2.2.2.1).1=0/\d.2.2.1.2.2.2.2.2.2.2.2.2.1.length<=1000000/\d.2.2.1.1<=9223372036854775807/\d.2.2.1.2.2.2.1.length=8,res:=λd=>([],vB (mQ d.1.2.1 d.1.2.2.2.1 d.2.1 d.2.2.1)) }
theorem aft(vs:List VD) (ms cs:List ByteArray) (fs:List FD) (ts:List SD) (bound id fn pc:Int) (rg:List Int) (st ch ph su fa:Int) (he:List Int) (aF:JK.pre ((vs,ms,cs,fs,ts,()),bound,(id,fn,pc,rg,st,ch,ph,su,fa,he,()),())):
 let z5:=(id,fn,pc,rg,st,ch,ph,su,fa,he,());let z4:=mQ ms fs bound z5;let z3:=qB z4 false;let z2:=((!(!decide (fa=0) || !(atR fs fn pc).snd))=true->True)/\((!(!decide (fa=0) || !(atR fs fn pc).snd || !jw (atR fs fn pc).fst.fst))=true->he.length<=1000000/\id<=9223372036854775807)/\br (!decide (fa=0) || !(atR fs fn pc).snd || !jw (atR fs fn pc).fst.fst || !decide (jy id ch ph he (atR fs fn pc).fst=0)) z3 (qB z4 (decide (su=1) && decide (st < bound) || decide (su=4) && decide (1<=st)));let z6:=(atR fs fn pc).fst.fst=6;let z1:=br (decide (su=2)) (qB z4 (decide (fa=0) && decide (ph=0) && (!(atR fs fn pc).snd || decide ((atR fs fn pc).fst.fst=7)))) (br (decide (su=3)) (br (!decide (ph=0) || !(atR fs fn pc).snd) z3 (br (decide (fa=26)) ((decide z6=true->0<=(atR fs fn pc).fst.snd.snd.fst/\(atR fs fn pc).fst.snd.snd.fst < 8)/\(decide z6=true->(atR fs fn pc).fst.snd.snd.fst.toNat < 8)/\∀(d:Int),(decide z6=true->rg[(atR fs fn pc).fst.snd.snd.fst.toNat]?=some d)->qB z4 (decide z6 && decide (d=0))) (br (decide (fa=29)) (True/\qB z4 (!jw (atR fs fn pc).fst.fst)) (((!decide (fa=0))=true->he.length<=1000000/\id<=9223372036854775807)/\qB z4 (!decide (fa=0) && decide (jy id ch ph he (atR fs fn pc).fst=fa)))))) z3);(True/\he.length<=1000000/\id<=9223372036854775807/\rg.length=8)/\br (!iO ms fs bound z5) z3 ((0<=fn/\fn < (fs.length:Int)/\0<=pc)/\br (decide (su=1)) (br (decide (su=1)) z2 z1) (br (decide (su=4)) z2 z1)):=by
 conv=>zeta
 delta qB;obtain⟨hc,AX,hid,hrg⟩:(aG vs ms cs fs ts).1=0/\he.length<=1000000/\id<=9223372036854775807/\rg.length=8:=aF;refine⟨⟨trivial,AX,hid,hrg⟩,ah.2 ⟨λh=>⟨rfl,?_⟩,λh=>?_⟩⟩
 .have:mQ ms fs bound (id,fn,pc,rg,st,ch,ph,su,fa,he,())=false:=Fh λq=>by
   have e:=jO.2 q.1;rw[e]at h;cases h
  rw[this]
 have hF:dB ms fs bound (id,fn,pc,rg,st,ch,ph,su,fa,he,()):=by
  have e:iO ms fs bound (id,fn,pc,rg,st,ch,ph,su,fa,he,())=true:=by simpa using h
  exact jO.1 e
 have hfn:=hF.2.1;refine⟨⟨hfn.1,hfn.2,hF.2.2.1.1⟩,?_⟩;have W:∀b:Bool,(b=true↔(((su=1/\st < bound\/su=4/\1<=st)/\fa=0/\∃i,mZ fs fn pc=some i/\jw i.1=true/\jy id ch ph he i=0) \/
  (su=2/\fa=0/\ph=0/\∀i,mZ fs fn pc=some i->i.1=7) \/
  (su=3/\ph=0/\∃i,mZ fs fn pc=some i/\(fa=26/\i.1=6/\rg.getD i.2.2.1.toNat 0=0\/fa=29/\jw i.1=false\/fa≠26/\fa≠29/\fa≠0/\jy id ch ph he i=fa)))) ->
   aZ.one (SV.c (SC.v (Value.bool (mQ ms fs bound (id,fn,pc,rg,st,ch,ph,su,fa,he,())))))=aZ.one (SV.c (SC.v (Value.bool b))):=λb hb=>by
  have:mQ ms fs bound (id,fn,pc,rg,st,ch,ph,su,fa,he,())=b:=by
   rw[FK,hb,kK];exact⟨λq=>q.2,λq=>⟨hF,q⟩⟩
  rw[this]
 cases ha:mZ fs fn pc with
 | none=>
   rw[show atR fs fn pc=((0,0,0,0,0,0,0,0,()),false) by unfold atR;rw[ha]]
   simp only[ah,ha]at W ⊢
   repeat' (first | exact AX | exact hid | (refine And.intro ?_ ?_) | (intro _))
   all_goals first | rfl | trivial | exact AX | exact hid | (refine W _ ?_;simp_all;done) | (simp_all;done)
 | some i=>
   rw[show atR fs fn pc=(i,true) by unfold atR;rw[ha]]
   obtain⟨r1,r2,r3,r4⟩:=kV (ql (BG hc hfn ha)).1;have rb8:i.2.2.1.toNat < 8:=by omega
   have gd:∀{x d:Int},rg[x.toNat]?=some d->rg.getD x.toNat 0=d:=λhd=>by rw[J5,hd];rfl
   simp only[ah,ha]at W ⊢
   repeat' (first | exact AX | exact hid | exact r2.1 | exact r2.2 | exact rb8 | (refine And.intro ?_ ?_) | (intro _))
   all_goals first | rfl | trivial | exact AX | exact hid | exact r2.1 | exact r2.2 | exact rb8 | (refine W _ ?_;simp_all;done) | (refine W _ ?_;clear W;simp_all;grind) | skip
theorem MS:aU aT.gd 108 JK:=
 dQ (cx:=aT) (n:=123) (cl:=[(167,aav),(95,PY),(149,aan),(150,RQ)]) (rc:=[]) au ⟨aaw,zH,ML,MR,trivial⟩ Tryz.func108 λd hd=>by
  obtain⟨⟨vs,ms,cs,fs,ts,⟨⟩⟩,bound,⟨id,fn,pc,rg,st,ch,ph,su,fa,he,⟨⟩⟩,⟨⟩⟩:=d;exact aJ (λ_=>none) (aft vs ms cs fs ts bound id fn pc rg st ch ph su fa he hd) (by kernel_rfl)
theorem aax(h:(ET vs ms cs fs).1=0):dL fs < 0:=by
 unfold ET at h;split at h
 .rename_i d hd;have hp:=V6 hd;split at h
  .cases h
  .rename_i h1;simp only[wC,dH]at hp;rcases hp with hp | hp
   .exact absurd hp h1
   .exact absurd h hp
 .split at h
  .cases h
  .omega
theorem aay(h:dL fs < 0):∀f∈fs,f.2.1.length<=64:=by
 unfold dL at h;split at h
 .omega
 .rename_i hn;rw[A73]at hn;intro f hf;simpa using hn f hf
theorem Fj(h:(aG vs ms cs fs ts).1=0){fn:Int} (hf:0<=fn/\fn < fs.length):(codeF fs fn).length<=64:=by
 obtain⟨x,hx,ex⟩:=oq hf;rw[ex];exact aay (aax (oU h).2.1) x (iy hx)
theorem aaz{fn:Int} (h:mZ fs fn pc=none) (k:Nat):fZ fs bound k (id,fn,pc,rg,st,ch,ph,su,fa,he,u)=(id,fn,pc,rg,st,ch,ph,2,0,he,()):=by
 cases k<;>(rw[fZ];unfold topS;simp only[h])
theorem afu{fn:Int} (h:mZ fs fn pc=some i) (hv:jw i.1=true) (k:Nat):fZ fs bound k (id,fn,pc,rg,st,ch,ph,su,fa,he,u) =
 if jy id ch ph he i≠0 then(id,fn,pc,rg,st,ch,ph,3,jy id ch ph he i,he,()) else if st=bound then(id,fn,pc,rg,st,ch,ph,4,0,he,()) else(id,fn,pc,rg,st,ch,ph,su,fa,he,()):=by
 cases k<;>(rw[fZ];unfold topS;simp only[h];rw[if_pos hv])
theorem aaA{fn:Int} (h:mZ fs fn pc=some i) (hv:jw i.1=false):fZ fs bound 0 (id,fn,pc,rg,st,ch,ph,su,fa,he,u)=(id,fn,pc,rg,st,ch,ph,3,29,he,()):=by
 rw[fZ];unfold topS;simp only[h];rw[if_neg (by rw[hv];simp)];rfl
theorem aaB{fn:Int} (h:mZ fs fn pc=some i) (hv:jw i.1=false) (k:Nat):fZ fs bound (k+1) (id,fn,pc,rg,st,ch,ph,su,fa,he,u) =
 if(fU (id,fn,pc,rg,st,ch,ph,su,fa,he,u) i).2=true then fZ fs bound k (fU (id,fn,pc,rg,st,ch,ph,su,fa,he,u) i).1 else(fU (id,fn,pc,rg,st,ch,ph,su,fa,he,u) i).1:=by
 rw[fZ];unfold topS;simp only[h];rw[if_neg (by rw[hv];simp)]
theorem JL(t:TD) (i:ID):(fU t i).1.2.2.2.1.length=t.2.2.2.1.length:=by
 obtain⟨id,fn,pc,rg,st,ch,ph,su,fa,hd,u⟩:=t;obtain⟨op,a,b,c,obj,n,f,ord,u2⟩:=i;unfold fU;simp only
 repeat' split
 all_goals simp
abbrev RS:CT:={ ps:=[o9,.int .i64,dX],pre:=λd=>(aG d.1.1 d.1.2.1 d.1.2.2.1 d.1.2.2.2.1 d.1.2.2.2.2.1).1=0/\dB d.1.2.1 d.1.2.2.2.1 d.2.1 d.2.2.1/\d.2.2.1.2.2.2.2.2.2.2.2.2.1.length<=1000000/\d.2.2.1.1<=9223372036854775807/\d.2.2.1.2.2.2.1.length=8,res:=λd=>([],.one (.dat dX (fZ d.1.2.2.2.1 d.2.1 256 d.2.2.1))) }
abbrev an1(vs:List VD) (ms cs:List ByteArray) (fs:List FD) (ts:List SD) (bound id fn pc:Int) (rg:List Int) (st ch ph su fa:Int) (he:List Int):Nat->Option (St->jv):=λk=>match k with
 | 4=>some λ_=>.inv { α:=Nat×TD,slots:=λx=>[(7,.c (.v (.int .i64 x.1)))],res:=λx=>[(1,.obj 56 dX x.2)],inv:=λx=>x.1<=256/\dB ms fs bound x.2/\x.2.2.2.2.2.2.2.2.2.2.1=he/\x.2.1=id/\x.2.2.2.2.1.length=8/\fZ fs bound (256 - x.1) x.2=fZ fs bound 256 (id,fn,pc,rg,st,ch,ph,su,fa,he,()),meas:=λx=>257 - x.1 }
 | _=>none
theorem akK(vs:List VD) (ms cs:List ByteArray) (fs:List FD) (ts:List SD) (bound id fn pc:Int) (rg:List Int) (st ch ph su fa:Int) (he:List Int) (aF:RS.pre ((vs,ms,cs,fs,ts,()),bound,(id,fn,pc,rg,st,ch,ph,su,fa,he,()),())):
 let z7:=(id,fn,pc,rg,st,ch,ph,su,fa,he,());let z2:=λ(x:Nat×TD)=>x.fst<=256/\dB ms fs bound x.snd/\x.snd.snd.snd.snd.snd.snd.snd.snd.snd.snd.fst=he/\x.snd.fst=id/\x.snd.snd.snd.snd.fst.length=8/\fZ fs bound (256 - x.fst) x.snd=fZ fs bound 256 z7;let z3:=[SC.sl ER vs,SC.sl Sh.str ms,SC.sl Sh.str cs,SC.sl BA fs,SC.sl lU ts];let z1:=λ(x:Nat×TD)=>[g0 (ay.blk 27 z3),g0 (ay.obj 56 dX x.snd),g0 (ay.obj 56 dX ((0:Int),(0:Int),(0:Int),List.replicate 8 (0:Int),(0:Int),(0:Int),(0:Int),(0:Int),(0:Int),[],())),g0 ay.gone];let z8:=λ(x:Nat×TD)=>atR fs x.snd.snd.fst x.snd.snd.snd.fst;let z5:=fZ fs bound 256 z7;let z9:=aZ.one (SV.dat dX z5);let z6:=λ(x:Nat×TD)=>fU x.snd (z8 x).fst;let z4:=λ(x:Nat×TD)=>(z6 x).fst;he.length<=1000000/\(∃(x:Nat×TD),(z2 x)/\(cI 0=cI (x.fst:Int)/\True)/\[g0 (ay.blk 27 z3),g0 (ay.obj 56 dX z7),g0 (ay.obj 56 dX ((0:Int),(0:Int),(0:Int),List.replicate 8 (0:Int),(0:Int),(0:Int),(0:Int),(0:Int),(0:Int),[],())),g0 ay.gone]=(z1 x))/\∀(x:Nat×TD),x.fst<=256/\dB ms fs bound x.snd/\x.snd.snd.snd.snd.snd.snd.snd.snd.snd.snd.fst=he/\x.snd.fst=id/\x.snd.snd.snd.snd.fst.length=8/\fZ fs bound (256 - x.fst) x.snd=fZ fs bound 256 z7->(0<=x.snd.snd.fst/\x.snd.snd.fst < (fs.length:Int)/\0<=x.snd.snd.snd.fst)/\br (!(z8 x).snd) (True/\rE z9 (aZ.one (SV.dat dX (JE x.snd (2:Int) (0:Int))))) (True/\br (jw (z8 x).fst.fst) ((List.length x.snd.snd.snd.snd.snd.snd.snd.snd.snd.snd.fst<=1000000/\x.snd.fst<=9223372036854775807)/\br (!decide (jy x.snd.fst x.snd.snd.snd.snd.snd.snd.fst x.snd.snd.snd.snd.snd.snd.snd.fst x.snd.snd.snd.snd.snd.snd.snd.snd.snd.snd.fst (z8 x).fst=0)) (True/\rE z9 (aZ.one (SV.dat dX (JE x.snd (3:Int) (jy x.snd.fst x.snd.snd.snd.snd.snd.snd.fst x.snd.snd.snd.snd.snd.snd.snd.fst x.snd.snd.snd.snd.snd.snd.snd.snd.snd.snd.fst (z8 x).fst))))) (br (decide (x.snd.snd.snd.snd.snd.fst=bound)) (True/\rE z9 (aZ.one (SV.dat dX (JE x.snd (4:Int) (0:Int))))) (rE z9 (aZ.one (SV.dat dX (x.snd)))))) (br (decide ((x.fst:Int)=(256:Int))) (True/\rE z9 (aZ.one (SV.dat dX (JE x.snd (3:Int) (29:Int))))) (((0<=(z8 x).fst.snd.fst/\(z8 x).fst.snd.fst < 8)/\(0<=(z8 x).fst.snd.snd.fst/\(z8 x).fst.snd.snd.fst < 8)/\(0<=(z8 x).fst.snd.snd.snd.fst/\(z8 x).fst.snd.snd.snd.fst < 8)/\0<=x.snd.snd.snd.fst/\x.snd.snd.snd.fst<=1000000)/\br (!(z6 x).snd) (rE z9 (aZ.one (SV.dat dX (z4 x)))) (iR ((x.fst:Int)+(1:Int))/\∃(x':Nat×TD),(z2 x')/\(cI ((x.fst:Int)+(1:Int))=cI (x'.fst:Int)/\True)/\[g0 (ay.blk 27 z3),g0 (ay.obj 56 dX (z4 x)),g0 (ay.obj 56 dX ((0:Int),(0:Int),(0:Int),List.replicate 8 (0:Int),(0:Int),(0:Int),(0:Int),(0:Int),(0:Int),[],())),g0 ay.gone]=(z1 x')/\257 - x'.fst < 257 - x.fst)))):=by
 conv=>zeta
 delta cI g0 rE I6 iR;obtain⟨hc,hF,AX,hid,hrg⟩:(aG vs ms cs fs ts).1=0/\dB ms fs bound (id,fn,pc,rg,st,ch,ph,su,fa,he,())/\he.length<=1000000/\id<=9223372036854775807/\rg.length=8:=aF;refine⟨AX,⟨(0,(id,fn,pc,rg,st,ch,ph,su,fa,he,())),⟨by omega,hF,rfl,rfl,hrg,rfl⟩,⟨rfl,trivial⟩,rfl⟩,λx hx=>?_⟩
 obtain⟨k,id',fn',pc',VP,st',ch',ph',su',fa',he',⟨⟩⟩:=x;obtain⟨x1,x2,x3,x4,x5,x6⟩:=hx;have x1:k<=256:=x1;have x3:he'=he:=x3;have x4:id'=id:=x4;have x5:VP.length=8:=x5;have x6:fZ fs bound (256 - k) (id',fn',pc',VP,st',ch',ph',su',fa',he',())=fZ fs bound 256 (id,fn,pc,rg,st,ch,ph,su,fa,he,()):=x6;have x2:dB ms fs bound (id',fn',pc',VP,st',ch',ph',su',fa',he',()):=x2;subst x3;subst x4;rw[<-x6];have hfn:=x2.2.1;have hpc:=x2.2.2.1;refine⟨⟨hfn.1,hfn.2,hpc.1⟩,?_⟩;show br (!(atR fs fn' pc').2) _ _;cases ha:mZ fs fn' pc' with
 | none=>
   rw[show atR fs fn' pc'=((0,0,0,0,0,0,0,0,()),false) by unfold atR;rw[ha]]
   refine ah.2 ⟨λ_=>⟨trivial,rfl,?_⟩,λq=>by simp at q⟩
   rw[aaz ha];rfl
 | some i=>
   rw[show atR fs fn' pc'=(i,true) by unfold atR;rw[ha]]
   obtain⟨r1,r2,r3,r4⟩:=kV (ql (BG hc hfn ha)).1;have h64:=Fj hc hfn;refine ah.2 ⟨λq=>by simp at q,λ_=>⟨trivial,ah.2 ⟨λhv=>?_,λhv=>?_⟩⟩⟩
   .have hv:jw i.1=true:=hv;rw[afu ha hv];refine⟨⟨AX,hid⟩,ah.2 ⟨λh1=>?_,λh1=>ah.2 ⟨λh2=>?_,λh2=>?_⟩⟩⟩
    .have h1:jy id' ch' ph' he' i≠0:=by simpa using h1
     rw[if_pos h1];exact⟨trivial,rfl,rfl⟩
    .have h1:¬jy id' ch' ph' he' i≠0:=by simpa using h1
     have h2:st'=bound:=by simpa using h2
     rw[if_neg h1,if_pos h2];exact⟨trivial,rfl,rfl⟩
    .have h1:¬jy id' ch' ph' he' i≠0:=by simpa using h1
     have h2:¬st'=bound:=by simpa using h2
     rw[if_neg h1,if_neg h2];exact⟨rfl,rfl⟩
   .have hv:jw i.1=false:=hv;refine ah.2 ⟨λh1=>?_,λh1=>?_⟩
    .have h1:k=256:=by
      have:(k:Int)=256:=by simpa using h1
      omega
     rw[h1,show 256 - 256=0 from rfl,aaA ha hv]
     exact⟨trivial,rfl,rfl⟩
    .have h1:¬k=256:=by
      have:¬(k:Int)=256:=by simpa using h1
      omega
     obtain⟨m,hm⟩:∃m,256 - k=m+1:=⟨255 - k,by omega⟩
     rw[hm,aaB ha hv];have hk:=EZ (id',fn',pc',VP,st',ch',ph',su',fa',he',()) i;have hlen:=JL (id',fn',pc',VP,st',ch',ph',su',fa',he',()) i;have hfo:=EY hc x2 ha hv;refine⟨⟨r1,r2,r3,hpc.1,show pc'<=1000000 by omega⟩,ah.2 ⟨λh2=>?_,λh2=>⟨ak.2 (show(-9223372036854775808:Int)<=(k:Int)+1/\(k:Int)+1<=9223372036854775807 by omega),(k+1,(fU (id',fn',pc',VP,st',ch',ph',su',fa',he',()) i).1),⟨show k+1<=256 by omega,hfo,hk.2.2.2.2.2.1,hk.1,hlen.trans x5,?_⟩,⟨rfl,trivial⟩,rfl,show 257 - (k+1) < 257 - k by omega⟩⟩⟩
     .have h2:¬(fU (id',fn',pc',VP,st',ch',ph',su',fa',he',()) i).2=true:=by simpa using h2
      rw[if_neg h2];exact⟨rfl,rfl⟩
     .have h2:(fU (id',fn',pc',VP,st',ch',ph',su',fa',he',()) i).2=true:=by simpa using h2
      show fZ fs bound (256 - (k+1)) _=_;rw[if_pos h2,show 256 - (k+1)=m by omega]
theorem RU:aU aT.gd 78 RS:=
 dQ (cx:=aT) (n:=59) (cl:=[(58,vU),(95,PY),(148,aas),(149,aan),(150,RQ),(151,aat)]) (rc:=[.data dX]) au ⟨CQ,zH,MQ,ML,MR,aau,trivial⟩ Tryz.func78 λd hd=>by
  obtain⟨⟨vs,ms,cs,fs,ts,⟨⟩⟩,bound,⟨id,fn,pc,rg,st,ch,ph,su,fa,he,⟨⟩⟩,⟨⟩⟩:=d;exact aJ (an1 vs ms cs fs ts bound id fn pc rg st ch ph su fa he) (akK vs ms cs fs ts bound id fn pc rg st ch ph su fa he hd) (by kernel_rfl)
theorem val_wrap(n:Int):bW n=decide (aH n=n):=by
 unfold bW;rw[FK,VU,VU,EU]
theorem ahD(h:zW vs ms cs fs=0):ms.length<=4:=by
 unfold zW at h;split at h
 .cases h
 .omega
theorem sN(h:dB ms fs bound t) (hm:ms.length<=4):t.2.2.2.2.2.2.2.2.2.1.length<=4:=by
 obtain⟨id,fn,pc,rg,st,ch,ph,su,fa,he,u⟩:=t;exact pq (ZT h.2.2.2.2.2.2.1 h.2.2.2.2.2.2.2.1) hm
theorem Hz(h:dB ms fs bound t):t.1<=9223372036854775807:=by
 obtain⟨id,fn,pc,rg,st,ch,ph,su,fa,he,u⟩:=t;have:=lZ h.1;show id<=9223372036854775807;omega
theorem RX(t:TD) (i:ID) (r:Int):(lK t i r).2.2.2.1.length=t.2.2.2.1.length:=by
 obtain⟨id,fn,pc,rg,st,ch,ph,su,fa,hd,u⟩:=t;have e:(if(mP i).2=true then rg.set (mP i).1.toNat r else rg).length=rg.length:=by split<;>simp
 unfold lK;simp only;split
 .split
  .exact e
  split
  .exact e
  .exact e
 .exact e
theorem aaC(h:ug i=0) (hd:(mP i).2=true):0<=(mP i).1/\(mP i).1 < 8:=by
 obtain⟨r1,_⟩:=kV h;unfold mP at hd ⊢;split at hd
 .cases hd
 .rename_i q;rw[if_neg q];exact r1
abbrev RY:CT:={ ps:=[o9,.int .i64,.int .i64,.int .i64,.int .i64],pre:=λd=>bnd (d.1,())/\d.2.2.1<=9223372036854775807,res:=λd=>([],.gV [.dat dX (newS (aG d.1.1 d.1.2.1 d.1.2.2.1 d.1.2.2.2.1 d.1.2.2.2.2.1).1 d.1.2.2.2.1 d.2.1 d.2.2.1 d.2.2.2.1 d.2.2.2.2.1).1,.c (.v (.int .i64 (newS (aG d.1.1 d.1.2.1 d.1.2.2.1 d.1.2.2.2.1 d.1.2.2.2.2.1).1 d.1.2.2.2.1 d.2.1 d.2.2.1 d.2.2.2.1 d.2.2.2.2.1).2))]) }
abbrev kq1:=[SV.dat dX (((0:Int),(0:Int),(0:Int),[(0:Int),(0:Int),(0:Int),(0:Int),(0:Int),(0:Int),(0:Int),(0:Int)],(0:Int),(0:Int),(0:Int),(0:Int),(0:Int),[],())),cI 2]
abbrev VQ:=[(0:Int),(0:Int),(0:Int),(0:Int),(0:Int),(0:Int),(0:Int),(0:Int)]
theorem akL(vs:List VD) (ms cs:List ByteArray) (fs:List FD) (ts:List SD) (bound id fn arg:Int) (aF:RY.pre ((vs,ms,cs,fs,ts,()),bound,id,fn,arg,())):
 let z4:=aG vs ms cs fs ts;let z3:=newS z4.fst fs bound id fn arg;let z2:=[SV.dat dX z3.fst,cI (z3.snd)];let z1:=rT z2 kq1;(vs.length<=1000000/\ms.length<=1000000/\cs.length<=1000000/\fs.length<=1000000/\ts.length<=1000000/\(∀(x:ByteArray×(lJ.sl.pair Sh.unit).den),x∈fs->List.length x.snd.fst<=1000000)/\(dN fs).length<=1000000)/\br (!decide (dG z4.fst bound=0)) (rT z2 [SV.dat dX (((0:Int),(0:Int),(0:Int),VQ,(0:Int),(0:Int),(0:Int),(0:Int),(0:Int),[],())),cI (dG z4.fst bound)]) (id<=9223372036854775807/\br (decide (aV id < 0)) z1 (br (decide (fn < 0) || decide ((fs.length:Int)<=fn)) (rT z2 [SV.dat dX (((0:Int),(0:Int),(0:Int),VQ,(0:Int),(0:Int),(0:Int),(0:Int),(0:Int),[],())),cI 11]) (True/\br (!decide (aH arg=arg)) z1 (((0:Int)<=(0:Int)/\(0:Int) < (8:Int))/\0 < 8/\(z4.fst=0/\dB ms fs bound (id,fn,(0:Int),VQ.set 0 arg,(0:Int),(0:Int),(0:Int),(1:Int),(0:Int),[],())/\0<=1000000/\id<=9223372036854775807/\(VQ.set 0 arg).length=8)/\rT z2 [SV.dat dX (fZ fs bound 256 (id,fn,(0:Int),VQ.set 0 arg,(0:Int),(0:Int),(0:Int),(1:Int),(0:Int),[],())),cI 0])))):=by
 conv=>zeta
 delta kq1 VQ cI rT I6;obtain⟨hb,hid⟩:bnd ((vs,ms,cs,fs,ts,()),())/\id<=9223372036854775807:=aF;refine⟨hb,ah.2 ⟨λh=>?_,λh=>⟨hid,ah.2 ⟨λh2=>?_,λh2=>ah.2 ⟨λh3=>?_,λh3=>⟨trivial,ah.2 ⟨λh4=>?_,λh4=>?_⟩⟩⟩⟩⟩⟩⟩
 .have h:dG (aG vs ms cs fs ts).1 bound≠0:=by simpa using h
  have e:newS (aG vs ms cs fs ts).1 fs bound id fn arg=(zT,dG (aG vs ms cs fs ts).1 bound):=by unfold newS;rw[if_pos h]
  rw[e];exact⟨rfl,rfl⟩
 all_goals have h:¬dG (aG vs ms cs fs ts).1 bound≠0:=by simpa using h
 .have h2:aV id < 0:=by simpa using h2
  have e:newS (aG vs ms cs fs ts).1 fs bound id fn arg=(zT,2):=by unfold newS;rw[if_neg h,if_pos h2]
  rw[e];exact⟨rfl,rfl⟩
 all_goals have h2:¬aV id < 0:=by simpa using h2
 .have h3:fn < 0\/(fs.length:Int)<=fn:=by simpa using h3
  have e:newS (aG vs ms cs fs ts).1 fs bound id fn arg=(zT,11):=by unfold newS;rw[if_neg h,if_neg h2,if_pos h3]
  rw[e];exact⟨rfl,rfl⟩
 all_goals have h3:¬(fn < 0\/(fs.length:Int)<=fn):=by simp only[l7,eX]at h3;omega
 .have h4:bW arg=false:=by rw[val_wrap];simpa using h4
  have e:newS (aG vs ms cs fs ts).1 fs bound id fn arg=(zT,2):=by unfold newS;rw[if_neg h,if_neg h2,if_neg h3,if_pos h4]
  rw[e];exact⟨rfl,rfl⟩
 .have h4:¬bW arg=false:=by rw[val_wrap];simpa using h4
  have e:newS (aG vs ms cs fs ts).1 fs bound id fn arg=(fZ fs bound 256 (id,fn,0,[arg,0,0,0,0,0,0,0],0,0,0,1,0,[],()),0):=by unfold newS;rw[if_neg h,if_neg h2,if_neg h3,if_neg h4]
  have hs:=iw.1 (J8.1 h);rw[e];exact⟨⟨by omega,by omega⟩,by omega,⟨hs.1,E8 ms hs.2.1 h2 h3 h4,by omega,hid,rfl⟩,rfl,rfl⟩
theorem RZ:aU aT.gd 34 RY:=
 dQ (cx:=aT) (n:=50) (cl:=[(75,zJ),(76,MP),(77,Fa),(78,RS)]) (rc:=[.data dX,.keep]) au ⟨JJ,JI,CY,RU,trivial⟩ Tryz.func34 λd hd=>by
  obtain⟨⟨vs,ms,cs,fs,ts,⟨⟩⟩,bound,id,fn,arg,⟨⟩⟩:=d;exact aJ (λ_=>none) (akL vs ms cs fs ts bound id fn arg hd) (by kernel_rfl)
abbrev afv:CT:={ ps:=[o9,.int .i64,dX],pre:=λd=>bnd (d.1,())/\d.2.2.1.2.2.2.2.2.2.2.2.2.1.length<=1000000/\d.2.2.1.1<=9223372036854775807/\d.2.2.1.2.2.2.1.length=8,res:=λd=>([],vB (decide (dG (aG d.1.1 d.1.2.1 d.1.2.2.1 d.1.2.2.2.1 d.1.2.2.2.2.1).1 d.2.1=0) && mQ d.1.2.1 d.1.2.2.2.1 d.2.1 d.2.2.1)) }
theorem akM(vs:List VD) (ms cs:List ByteArray) (fs:List FD) (ts:List SD) (bound id fn pc:Int) (rg:List Int) (st ch ph su fa:Int) (he:List Int) (aF:afv.pre ((vs,ms,cs,fs,ts,()),bound,(id,fn,pc,rg,st,ch,ph,su,fa,he,()),())):
 let z2:=dG (aG vs ms cs fs ts).fst bound=0;let z1:=decide z2 && mQ ms fs bound (id,fn,pc,rg,st,ch,ph,su,fa,he,());(vs.length<=1000000/\ms.length<=1000000/\cs.length<=1000000/\fs.length<=1000000/\ts.length<=1000000/\(∀(x:ByteArray×(lJ.sl.pair Sh.unit).den),x∈fs->List.length x.snd.fst<=1000000)/\(dN fs).length<=1000000)/\(decide z2=true->(aG vs ms cs fs ts).fst=0/\he.length<=1000000/\id<=9223372036854775807/\rg.length=8)/\qB z1 z1:=by
 conv=>zeta
 delta qB I6;obtain⟨hb,AX,hid,hrg⟩:bnd ((vs,ms,cs,fs,ts,()),())/\he.length<=1000000/\id<=9223372036854775807/\rg.length=8:=aF;exact⟨hb,λh=>⟨(iw.1 (Qn h)).1,AX,hid,hrg⟩,rfl,rfl⟩
theorem Si:aU aT.gd 85 afv:=
 dQ (cx:=aT) (n:=17) (cl:=[(75,zJ),(108,JK)]) (rc:=[]) au ⟨JJ,MS,trivial⟩ Tryz.func85 λd hd=>by
  obtain⟨⟨vs,ms,cs,fs,ts,⟨⟩⟩,bound,⟨id,fn,pc,rg,st,ch,ph,su,fa,he,⟨⟩⟩,⟨⟩⟩:=d;exact aJ (λ_=>none) (akM vs ms cs fs ts bound id fn pc rg st ch ph su fa he hd) (by kernel_rfl)
abbrev Sj:CT:={ ps:=[o9,dX],pre:=λd=>bnd (d.1,())/\d.2.1.2.2.2.2.2.2.2.2.2.1.length<=1000000/\d.2.1.1<=9223372036854775807/\d.2.1.2.2.2.1.length=8,res:=λd=>([],.gV [.agg [.v (.int .i64 ((gQ (aG d.1.1 d.1.2.1 d.1.2.2.1 d.1.2.2.2.1 d.1.2.2.2.2.1).1 d.1.2.1 d.1.2.2.2.1 d.2.1).1).1),.v (.int .i64 ((gQ (aG d.1.1 d.1.2.1 d.1.2.2.1 d.1.2.2.2.1 d.1.2.2.2.2.1).1 d.1.2.1 d.1.2.2.2.1 d.2.1).1).2.1),.v (.int .i64 ((gQ (aG d.1.1 d.1.2.1 d.1.2.2.1 d.1.2.2.2.1 d.1.2.2.2.2.1).1 d.1.2.1 d.1.2.2.2.1 d.2.1).1).2.2.1),.v (.int .i64 ((gQ (aG d.1.1 d.1.2.1 d.1.2.2.1 d.1.2.2.2.1 d.1.2.2.2.2.1).1 d.1.2.1 d.1.2.2.2.1 d.2.1).1).2.2.2.1),.v (.int .i64 ((gQ (aG d.1.1 d.1.2.1 d.1.2.2.1 d.1.2.2.2.1 d.1.2.2.2.2.1).1 d.1.2.1 d.1.2.2.2.1 d.2.1).1).2.2.2.2.1),.v (.int .i64 ((gQ (aG d.1.1 d.1.2.1 d.1.2.2.1 d.1.2.2.2.1 d.1.2.2.2.2.1).1 d.1.2.1 d.1.2.2.2.1 d.2.1).1).2.2.2.2.2.1),.v (.int .i64 ((gQ (aG d.1.1 d.1.2.1 d.1.2.2.1 d.1.2.2.2.1 d.1.2.2.2.2.1).1 d.1.2.1 d.1.2.2.2.1 d.2.1).1).2.2.2.2.2.2.1),.v (.int .i64 ((gQ (aG d.1.1 d.1.2.1 d.1.2.2.1 d.1.2.2.2.1 d.1.2.2.2.2.1).1 d.1.2.1 d.1.2.2.2.1 d.2.1).1).2.2.2.2.2.2.2.1)],.c (.v (.bool (gQ (aG d.1.1 d.1.2.1 d.1.2.2.1 d.1.2.2.2.1 d.1.2.2.2.2.1).1 d.1.2.1 d.1.2.2.2.1 d.2.1).2))]) }
theorem akN(vs:List VD) (ms cs:List ByteArray) (fs:List FD) (ts:List SD) (id fn pc:Int) (rg:List Int) (st ch ph su fa:Int) (he:List Int) (aF:Sj.pre ((vs,ms,cs,fs,ts,()),(id,fn,pc,rg,st,ch,ph,su,fa,he,()),())):
 let z3:=(id,fn,pc,rg,st,ch,ph,su,fa,he,());let z2:=gQ (aG vs ms cs fs ts).fst ms fs z3;let z1:=[SV.agg [v6 (z2.fst.fst),v6 (z2.fst.snd.fst),v6 (z2.fst.snd.snd.fst),v6 (z2.fst.snd.snd.snd.fst),v6 (z2.fst.snd.snd.snd.snd.fst),v6 (z2.fst.snd.snd.snd.snd.snd.fst),v6 (z2.fst.snd.snd.snd.snd.snd.snd.fst),v6 (z2.fst.snd.snd.snd.snd.snd.snd.snd.fst)],cB (z2.snd)];((!!decide (su=1))=true->(vs.length<=1000000/\ms.length<=1000000/\cs.length<=1000000/\fs.length<=1000000/\ts.length<=1000000/\(∀(x:ByteArray×(lJ.sl.pair Sh.unit).den),x∈fs->List.length x.snd.fst<=1000000)/\(dN fs).length<=1000000)/\he.length<=1000000/\id<=9223372036854775807/\rg.length=8)/\br (!decide (su=1) || !(decide (dG (aG vs ms cs fs ts).fst (32:Int)=(0:Int)) && mQ ms fs (32:Int) z3)) (rT z1 [SV.agg [v6 0,v6 0,v6 0,v6 0,v6 0,v6 0,v6 0,v6 0],cB false]) ((0<=fn/\fn < (fs.length:Int)/\0<=pc)/\rT z1 [SV.agg [v6 ((atR fs fn pc).fst.fst),v6 ((atR fs fn pc).fst.snd.fst),v6 ((atR fs fn pc).fst.snd.snd.fst),v6 ((atR fs fn pc).fst.snd.snd.snd.fst),v6 ((atR fs fn pc).fst.snd.snd.snd.snd.fst),v6 ((atR fs fn pc).fst.snd.snd.snd.snd.snd.fst),v6 ((atR fs fn pc).fst.snd.snd.snd.snd.snd.snd.fst),v6 ((atR fs fn pc).fst.snd.snd.snd.snd.snd.snd.snd.fst)],cB ((atR fs fn pc).snd)]):=by
 conv=>zeta
 delta v6 cB rT I6;obtain⟨hb,AX,hid,hrg⟩:bnd ((vs,ms,cs,fs,ts,()),())/\he.length<=1000000/\id<=9223372036854775807/\rg.length=8:=aF;have key:((aG vs ms cs fs ts).1=0/\su=1/\uh ms fs 32 (id,fn,pc,rg,st,ch,ph,su,fa,he,()))↔(!decide (su=1) || !(decide (dG (aG vs ms cs fs ts).1 32=0) && mQ ms fs 32 (id,fn,pc,rg,st,ch,ph,su,fa,he,())))=false:=by
  rw[l7,wU,wU,bY,VU,VU,iw,kK];constructor
  .rintro⟨q1,q2,q3⟩;exact⟨q2,⟨q1,by omega,by omega⟩,q3⟩
  .rintro⟨q2,⟨q1,_⟩,q3⟩;exact⟨q1,q2,q3⟩
 refine⟨λ_=>⟨hb,AX,hid,hrg⟩,ah.2 ⟨λh=>?_,λh=>?_⟩⟩
 .have e:gQ (aG vs ms cs fs ts).1 ms fs (id,fn,pc,rg,st,ch,ph,su,fa,he,())=((0,0,0,0,0,0,0,0,()),false):=by
   unfold gQ;rw[if_neg];intro q;rw[key.1 q]at h;cases h
  rw[e];exact⟨rfl,rfl⟩
 .have q:=key.2 h;have e:gQ (aG vs ms cs fs ts).1 ms fs (id,fn,pc,rg,st,ch,ph,su,fa,he,())=atR fs fn pc:=by
   unfold gQ;rw[if_pos q]
  have hF:=q.2.2.1;rw[e];exact⟨⟨hF.2.1.1,hF.2.1.2,hF.2.2.1.1⟩,rfl,rfl⟩
theorem Sl:aU aT.gd 45 Sj:=
 dQ (cx:=aT) (n:=21) (cl:=[(85,afv),(95,PY)]) (rc:=[]) au ⟨Si,zH,trivial⟩ Tryz.func45 λd hd=>by
  obtain⟨⟨vs,ms,cs,fs,ts,⟨⟩⟩,⟨id,fn,pc,rg,st,ch,ph,su,fa,he,⟨⟩⟩,⟨⟩⟩:=d;exact aJ (λ_=>none) (akN vs ms cs fs ts id fn pc rg st ch ph su fa he hd) (by kernel_rfl)
def tN:TD->Int->TD
 | (id,fn,pc,rg,st,ch,ph,su,fa,he,_),m=>if ph=0 then(id,fn,pc,rg,st,ch,1,su,fa,BR he m,()) else if ph=1 then(id,fn,pc,rg,st,ch,2,su,fa,he,()) else(id,fn,pc+1,rg,st,ch,0,su,fa,BU he m,())
abbrev aaD:CT:={ ps:=[dX,.int .i64],pre:=λd=>d.1.2.2.2.2.2.2.2.2.2.1.length<=999999/\0<=d.1.2.2.1/\d.1.2.2.1<=1000000,res:=λd=>([],.one (.dat dX (tN d.1 d.2.1))) }
theorem afw(id fn pc:Int) (rg:List Int) (st ch ph su fa:Int) (he:List Int) (m:Int) (aF:aaD.pre ((id,fn,pc,rg,st,ch,ph,su,fa,he,()),m,())):
 let z1:=aZ.one (SV.dat dX (tN (id,fn,pc,rg,st,ch,ph,su,fa,he,()) m));br (decide (ph=0)) (he.length<=1000000/\rE z1 (aZ.one (SV.dat dX ((id,fn,pc,rg,st,ch,(1:Int),su,fa,pG (bD he) [m] false,()))))) (br (decide (ph=1)) (rE z1 (aZ.one (SV.dat dX ((id,fn,pc,rg,st,ch,(2:Int),su,fa,he,()))))) (he.length<=999999/\iR (pc+1)/\rE z1 (aZ.one (SV.dat dX ((id,fn,pc+1,rg,st,ch,(0:Int),su,fa,bD (he++[m]),())))))):=by
 conv=>zeta
 delta rE I6 iR;obtain⟨AX,hp0,hp1⟩:he.length<=999999/\0<=pc/\pc<=1000000:=aF;refine ah.2 ⟨λh=>?_,λh=>ah.2 ⟨λh2=>?_,λh2=>?_⟩⟩
 .have h:ph=0:=by simpa using h
  have e:tN (id,fn,pc,rg,st,ch,ph,su,fa,he,()) m=(id,fn,pc,rg,st,ch,1,su,fa,BR he m,()):=by simp only[tN];rw[if_pos h]
  rw[e];exact⟨by omega,rfl,rfl⟩
 .have h:¬ph=0:=by simpa using h
  have h2:ph=1:=by simpa using h2
  have e:tN (id,fn,pc,rg,st,ch,ph,su,fa,he,()) m=(id,fn,pc,rg,st,ch,2,su,fa,he,()):=by simp only[tN];rw[if_neg h,if_pos h2]
  rw[e];exact⟨rfl,rfl⟩
 .have h:¬ph=0:=by simpa using h
  have h2:¬ph=1:=by simpa using h2
  have e:tN (id,fn,pc,rg,st,ch,ph,su,fa,he,()) m=(id,fn,pc+1,rg,st,ch,0,su,fa,BU he m,()):=by simp only[tN];rw[if_neg h,if_neg h2]
  rw[e];exact⟨AX,ak.2 (by omega),rfl,rfl⟩
theorem aaE:aU aT.gd 110 aaD:=
 dQ (cx:=aT) (n:=29) (cl:=[(112,MO),(111,MC)]) (rc:=[.data dX]) au ⟨Fg,EP,trivial⟩ Tryz.func110 λd hd=>by
  obtain⟨⟨id,fn,pc,rg,st,ch,ph,su,fa,he,⟨⟩⟩,m,⟨⟩⟩:=d;exact aJ (λ_=>none) (afw id fn pc rg st ch ph su fa he m hd) (by kernel_rfl)
abbrev aaF:CT:={ ps:=[o9,.int .i64,dX,.int .i64],pre:=λd=>bnd (d.1,())/\d.2.2.1.2.2.2.2.2.2.2.2.2.1.length<=1000000/\d.2.2.1.1<=9223372036854775807/\d.2.2.1.2.2.2.1.length=8,res:=λd=>([],.gV [.dat dX (kW (aG d.1.1 d.1.2.1 d.1.2.2.1 d.1.2.2.2.1 d.1.2.2.2.2.1).1 d.1.2.1 d.1.2.2.2.1 d.2.1 d.2.2.1 d.2.2.2.1).1,.c (.v (.int .i64 (kW (aG d.1.1 d.1.2.1 d.1.2.2.1 d.1.2.2.2.1 d.1.2.2.2.2.1).1 d.1.2.1 d.1.2.2.2.1 d.2.1 d.2.2.1 d.2.2.2.1).2))]) }
theorem akO(vs:List VD) (ms cs:List ByteArray) (fs:List FD) (ts:List SD) (bound id fn pc:Int) (rg:List Int) (st ch ph su fa:Int) (he:List Int) (r:Int) (aF:aaF.pre ((vs,ms,cs,fs,ts,()),bound,(id,fn,pc,rg,st,ch,ph,su,fa,he,()),r,())):
 let z30:=aG vs ms cs fs ts;let z21:=(id,fn,pc,rg,st,ch,ph,su,fa,he,());let wo:=kW z30.fst ms fs bound z21 r;let z5:=[SV.dat dX wo.fst,cI (wo.snd)];let z29:=mP (atR fs fn pc).fst;let z24:=decide ((atR fs fn pc).fst.fst=18);let z22:=he.length<=999999/\0<=pc/\pc<=1000000;let z8:=tN (id,fn,pc,rg.set z29.fst.toNat r,st+1,ch,ph,su,fa,he,()) (atR fs fn pc).fst.snd.snd.snd.snd.snd.fst;let z25:=decide ((atR fs fn pc).fst.fst=17);let z13:=(id,fn,pc+1,rg.set z29.fst.toNat r,st+1,ch,ph,su,fa,he,());let z20:=rg.set z29.fst.toNat r;let z3:=iR (pc+1)/\(z30.fst=0/\dB ms fs bound z13/\he.length<=1000000/\id<=9223372036854775807/\z20.length=8)/\rT z5 [SV.dat dX (fZ fs bound 256 z13),cI 0];let z23:=[(atR fs fn pc).fst.snd.snd.snd.snd.fst];let VR:=he++z23;let z7:=(id,fn,pc+1,rg.set z29.fst.toNat r,st+1,ch,ph,su,fa,bD VR,());let z17:=bD VR;let z1:=he.length<=999999/\iR (pc+1)/\(z30.fst=0/\dB ms fs bound z7/\z17.length<=1000000/\id<=9223372036854775807/\z20.length=8)/\rT z5 [SV.dat dX (fZ fs bound 256 z7),cI 0];let z26:=decide ((atR fs fn pc).fst.fst=15);let z27:=decide ((atR fs fn pc).fst.fst=16);let z6:=(id,fn,pc+1,rg.set z29.fst.toNat r,st+1,ch,ph,su,fa,pG (bD he) z23 false,());let sO:=pG (bD he) z23 false;let z28:=decide ((atR fs fn pc).fst.fst=21);let z12:=(id,fn,pc+1,rg.set z29.fst.toNat r,st+1,ch+1,ph,su,fa,he,());let z11:=tN (id,fn,pc,rg,st+1,ch,ph,su,fa,he,()) (atR fs fn pc).fst.snd.snd.snd.snd.snd.fst;let z18:=(id,fn,pc+1,rg,st+1,ch,ph,su,fa,he,());let z4:=iR (pc+1)/\(z30.fst=0/\dB ms fs bound z18/\he.length<=1000000/\id<=9223372036854775807/\rg.length=8)/\rT z5 [SV.dat dX (fZ fs bound 256 z18),cI 0];let z10:=(id,fn,pc+1,rg,st+1,ch,ph,su,fa,bD VR,());let z2:=he.length<=999999/\iR (pc+1)/\(z30.fst=0/\dB ms fs bound z10/\z17.length<=1000000/\id<=9223372036854775807/\rg.length=8)/\rT z5 [SV.dat dX (fZ fs bound 256 z10),cI 0];let z9:=(id,fn,pc+1,rg,st+1,ch,ph,su,fa,pG (bD he) z23 false,());let NJ:=(id,fn,pc+1,rg,st+1,ch+1,ph,su,fa,he,());(vs.length<=1000000/\ms.length<=1000000/\cs.length<=1000000/\fs.length<=1000000/\ts.length<=1000000/\(∀(x:ByteArray×(lJ.sl.pair Sh.unit).den),x∈fs->List.length x.snd.fst<=1000000)/\(dN fs).length<=1000000)/\br (!decide (dG z30.fst bound=0)) (rT z5 [SV.dat dX (((0:Int),(0:Int),(0:Int),VQ,(0:Int),(0:Int),(0:Int),(0:Int),(0:Int),[],())),cI (dG z30.fst bound)]) ((z30.fst=0/\he.length<=1000000/\id<=9223372036854775807/\rg.length=8)/\br (!mQ ms fs bound z21) (rT z5 [SV.dat dX (((0:Int),(0:Int),(0:Int),VQ,(0:Int),(0:Int),(0:Int),(0:Int),(0:Int),[],())),cI 1]) (br (!decide (su=1)) (rT z5 [SV.dat dX (((0:Int),(0:Int),(0:Int),VQ,(0:Int),(0:Int),(0:Int),(0:Int),(0:Int),[],())),cI 30]) (True/\br (!decide (aH r=r)) (rT z5 kq1) ((0<=fn/\fn < (fs.length:Int)/\0<=pc)/\iR (st+1)/\True/\br z29.snd ((0<=z29.fst/\z29.fst < 8)/\z29.fst.toNat < 8/\br z24 (z22/\(z30.fst=0/\dB ms fs bound z8/\List.length z8.snd.snd.snd.snd.snd.snd.snd.snd.snd.fst<=1000000/\z8.fst<=9223372036854775807/\List.length z8.snd.snd.snd.fst=8)/\rT z5 [SV.dat dX (fZ fs bound 256 z8),cI 0]) (br z25 (br (decide (r=0)) z3 z1) (br z26 z1 (br z27 (he.length<=1000000/\iR (pc+1)/\(z30.fst=0/\dB ms fs bound z6/\sO.length<=1000000/\id<=9223372036854775807/\z20.length=8)/\rT z5 [SV.dat dX (fZ fs bound 256 z6),cI 0]) (br z28 (iR (ch+1)/\iR (pc+1)/\(z30.fst=0/\dB ms fs bound z12/\he.length<=1000000/\id<=9223372036854775807/\z20.length=8)/\rT z5 [SV.dat dX (fZ fs bound 256 z12),cI 0]) z3))))) (br z24 (z22/\(z30.fst=0/\dB ms fs bound z11/\List.length z11.snd.snd.snd.snd.snd.snd.snd.snd.snd.fst<=1000000/\z11.fst<=9223372036854775807/\List.length z11.snd.snd.snd.fst=8)/\rT z5 [SV.dat dX (fZ fs bound 256 z11),cI 0]) (br z25 (br (decide (r=0)) z4 z2) (br z26 z2 (br z27 (he.length<=1000000/\iR (pc+1)/\(z30.fst=0/\dB ms fs bound z9/\sO.length<=1000000/\id<=9223372036854775807/\rg.length=8)/\rT z5 [SV.dat dX (fZ fs bound 256 z9),cI 0]) (br z28 (iR (ch+1)/\iR (pc+1)/\(z30.fst=0/\dB ms fs bound NJ/\he.length<=1000000/\id<=9223372036854775807/\rg.length=8)/\rT z5 [SV.dat dX (fZ fs bound 256 NJ),cI 0]) z4))))))))):=by
 conv=>zeta
 delta VQ kq1 cI rT I6 iR;obtain⟨hb,AX,hid,hrg⟩:bnd ((vs,ms,cs,fs,ts,()),())/\he.length<=1000000/\id<=9223372036854775807/\rg.length=8:=aF;refine⟨hb,ah.2 ⟨λh=>?_,λh=>?_⟩⟩
 .have h:dG (aG vs ms cs fs ts).1 bound≠0:=by simpa using h
  have e:kW (aG vs ms cs fs ts).1 ms fs bound (id,fn,pc,rg,st,ch,ph,su,fa,he,()) r=(zT,dG (aG vs ms cs fs ts).1 bound):=by unfold kW;rw[if_pos h]
  rw[e];exact⟨rfl,rfl⟩
 have h:¬dG (aG vs ms cs fs ts).1 bound≠0:=by simpa using h
 have hs:=iw.1 (J8.1 h);refine⟨⟨hs.1,AX,hid,hrg⟩,ah.2 ⟨λh2=>?_,λh2=>?_⟩⟩
 .have h2:¬uh ms fs bound (id,fn,pc,rg,st,ch,ph,su,fa,he,()):=λq=>by rw[kK.2 q]at h2;cases h2
  have e:kW (aG vs ms cs fs ts).1 ms fs bound (id,fn,pc,rg,st,ch,ph,su,fa,he,()) r=(zT,1):=by unfold kW;rw[if_neg h,if_pos h2]
  rw[e];exact⟨rfl,rfl⟩
 have hV:uh ms fs bound (id,fn,pc,rg,st,ch,ph,su,fa,he,()):=kK.1 (by simpa using h2)
 have h2:¬¬uh ms fs bound (id,fn,pc,rg,st,ch,ph,su,fa,he,()):=λq=>q hV
 refine ah.2 ⟨λh3=>?_,λh3=>⟨trivial,ah.2 ⟨λh4=>?_,λh4=>?_⟩⟩⟩
 .have h3:su≠1:=by simpa using h3
  have e:kW (aG vs ms cs fs ts).1 ms fs bound (id,fn,pc,rg,st,ch,ph,su,fa,he,()) r=(zT,30):=by unfold kW;rw[if_neg h,if_neg h2,if_pos h3]
  rw[e];exact⟨rfl,rfl⟩
 all_goals
  have h1:su=1:=by simpa using h3
  have h3:¬su≠1:=λq=>q h1
 .have h4:bW r=false:=by rw[val_wrap];simpa using h4
  have e:kW (aG vs ms cs fs ts).1 ms fs bound (id,fn,pc,rg,st,ch,ph,su,fa,he,()) r=(zT,2):=by unfold kW;rw[if_neg h,if_neg h2,if_neg h3,if_pos h4]
  rw[e];exact⟨rfl,rfl⟩
 have hvr:bW r=true:=by rw[val_wrap];simpa using h4
 have h4:¬bW r=false:=by rw[hvr];simp
 obtain⟨f0,s0,i,ha,vi,oi⟩:=AV hV h1;have ha:mZ fs fn pc=some i:=ha;have s0:st < bound:=s0;have hF:dB ms fs bound (id,fn,pc,rg,st,ch,ph,su,fa,he,()):=hV.1;have hfn:=hF.2.1;have hpc:=hF.2.2.1;have hst:=hF.2.2.2.2.1;have hch:=hF.2.2.2.2.2.1;have h64:=Fj hs.1 hfn;have hci:=(ql (BG hs.1 hfn ha)).1;have hm4:=ahD (oU hs.1).1;have h4e:he.length<=4:=sN hF hm4;have leaf:∀t':TD,t'=lK (id,fn,pc,rg,st,ch,ph,su,fa,he,()) i r->(((aG vs ms cs fs ts).1=0/\dB ms fs bound t'/\t'.2.2.2.2.2.2.2.2.2.1.length<=1000000/\t'.1<=9223372036854775807/\t'.2.2.2.1.length=8)/\([]:List Go.jf.ay)=[] /\
  aZ.gV [SV.dat dX (kW (aG vs ms cs fs ts).1 ms fs bound (id,fn,pc,rg,st,ch,ph,su,fa,he,()) r).1,SV.c (SC.v (Value.int .i64 (kW (aG vs ms cs fs ts).1 ms fs bound (id,fn,pc,rg,st,ch,ph,su,fa,he,()) r).2))]=aZ.gV [SV.dat dX (fZ fs bound 256 t'),SV.c (SC.v (Value.int .i64 0))]):=by
  intro t' et;subst et;have hf:=E5 hs.1 hV h1 ha hvr;have e:kW (aG vs ms cs fs ts).1 ms fs bound (id,fn,pc,rg,st,ch,ph,su,fa,he,()) r=(fZ fs bound 256 (lK (id,fn,pc,rg,st,ch,ph,su,fa,he,()) i r),0):=by
   unfold kW;rw[if_neg h,if_neg h2,if_neg h3,if_neg h4];show(fZ fs bound 256 (lK (id,fn,pc,rg,st,ch,ph,su,fa,he,()) (atR fs fn pc).1 r),(0:Int))=_;rw[show atR fs fn pc=(i,true) by unfold atR;rw[ha]]
  rw[e];exact⟨⟨hs.1,hf,pq (sN hf hm4) (by omega),Hz hf,(RX _ _ _).trans hrg⟩,rfl,rfl⟩
 rw[show atR fs fn pc=(i,true) by unfold atR;rw[ha]]
 dsimp only;have e9:he.length<=999999:=by omega
 have ep:mY .i64 (pc+1):=ak.2 (by omega)
 have ec:mY .i64 (ch+1):=ak.2 (by omega)
 refine⟨⟨hfn.1,hfn.2,hpc.1⟩,ak.2 (by omega),trivial,ah.2 ⟨λhd=>?_,λhd=>?_⟩⟩
 .have hr:=aaC hci hd;refine⟨hr,by omega,?_⟩
  refine aO.2 ⟨λq=>⟨⟨e9,hpc.1,show pc<=1000000 by omega⟩,leaf _ (by simp only[tN,lK,if_pos q,if_pos hd])⟩,λn18=>aO.2 ⟨λn17=>aO.2 ⟨λq=>⟨ep,leaf _ (by simp[lK,n17,hd,q])⟩,λq=>⟨e9,ep,leaf _ (by simp[lK,n17,hd,q,BU])⟩⟩,
   λn17=>aO.2 ⟨λq=>⟨e9,ep,leaf _ (by simp[lK,q,hd,BU])⟩,λn15=>aO.2 ⟨λq=>⟨AX,ep,leaf _ (by simp[lK,q,hd,BR])⟩,λn16=>aO.2 ⟨λq=>⟨ec,ep,leaf _ (by simp[lK,q,hd])⟩,λn21=>⟨ep,leaf _ (by simp[lK,n18,n17,n15,n16,n21,hd])⟩⟩⟩⟩⟩⟩
 .refine aO.2 ⟨λq=>⟨⟨e9,hpc.1,show pc<=1000000 by omega⟩,leaf _ (by simp only[tN,lK,if_pos q,hd];simp)⟩,λn18=>aO.2 ⟨λn17=>aO.2 ⟨λq=>⟨ep,leaf _ (by simp[lK,n17,hd,q])⟩,λq=>⟨e9,ep,leaf _ (by simp[lK,n17,hd,q,BU])⟩⟩,
   λn17=>aO.2 ⟨λq=>⟨e9,ep,leaf _ (by simp[lK,q,hd,BU])⟩,λn15=>aO.2 ⟨λq=>⟨AX,ep,leaf _ (by simp[lK,q,hd,BR])⟩,λn16=>aO.2 ⟨λq=>⟨ec,ep,leaf _ (by simp[lK,q,hd])⟩,λn21=>⟨ep,leaf _ (by simp[lK,n18,n17,n15,n16,n21,hd])⟩⟩⟩⟩⟩⟩
theorem afx:aU aT.gd 51 aaF:=
 dQ (cx:=aT) (n:=103) (cl:=[(75,zJ),(108,JK),(77,Fa),(95,PY),(109,ahC),(78,RS),(110,aaD),(111,MC),(112,MO)]) (rc:=[.data dX,.keep]) au ⟨JJ,MS,CY,zH,aao,RU,aaE,EP,Fg,trivial⟩ Tryz.func51 λd hd=>by
  obtain⟨⟨vs,ms,cs,fs,ts,⟨⟩⟩,bound,⟨id,fn,pc,rg,st,ch,ph,su,fa,he,⟨⟩⟩,r,⟨⟩⟩:=d;exact aJ (λ_=>none) (akO vs ms cs fs ts bound id fn pc rg st ch ph su fa he r hd) (by kernel_rfl)
theorem MV(h:(cO id ch).2=true):(cO id ch).1=8 * (id+1)+ch/\(0<=ch/\ch < 7)/\RG (cO id ch).1=(id,true)/\iE (cO id ch).1=iE id+1/\8<=(cO id ch).1/\iE (cO id ch).1<=4/\(cO id ch).1<=1000000/\(0<=iE id/\iE id<=4):=by
 unfold cO at h ⊢
 split at h
 .cases h
 rename_i q;rw[if_neg q];have q1:0<=aV id:=by omega
 have q2:aV id≠4:=by omega
 obtain⟨e1,e2⟩:=BF q1 q2 (ch:=ch) (by omega) (by omega)
 have hl:=lZ q1;have hr:=EX id;refine⟨rfl,by omega,?_,?_,by simp only;omega,?_,by simp only;omega,?_⟩
 .unfold RG;rw[if_neg (by rw[e1];omega),e2]
 .unfold iE;rw[e1,if_neg (by omega),if_neg (by omega)]
 .unfold iE;rw[e1,if_neg (by omega)];omega
 .unfold iE;rw[if_neg (by omega)];omega
theorem top_len{rest:ID->TD} (hr:∀i,(rest i).2.2.2.1.length=t.2.2.2.1.length):(topS fs bound t rest).2.2.2.1.length=t.2.2.2.1.length:=by
 obtain⟨id,fn,pc,rg,st,ch,ph,su,fa,hd,u⟩:=t;unfold topS;simp only;split
 .rfl
 split
 .repeat' split
  all_goals rfl
 .exact hr _
theorem Sm(fs:List FD) (bound:Int):∀(k:Nat) (t:TD),(fZ fs bound k t).2.2.2.1.length=t.2.2.2.1.length:=by
 intro k
 induction k with
 | zero=>
   intro t;rw[fZ];exact top_len λi=>rfl
 | succ k ih=>
   intro t;rw[fZ];refine top_len λi=>?_
   split
   .exact(ih _).trans (JL t i)
   .exact JL t i
theorem aaG{fn r:Int} (h:(newS (aG vs ms cs fs ts).1 fs bound id fn r).2=0):dG (aG vs ms cs fs ts).1 bound=0/\uh ms fs bound (newS (aG vs ms cs fs ts).1 fs bound id fn r).1/\(newS (aG vs ms cs fs ts).1 fs bound id fn r).1.2.2.2.1.length=8:=by
 unfold newS at h ⊢
 split at h
 .rename_i q;exact absurd h q
 split at h
 .cases h
 split at h
 .cases h
 split at h
 .cases h
 rename_i q1 q2 q3 q4;rw[if_neg q1,if_neg q2,if_neg q3,if_neg q4];have hs:=iw.1 (J8.1 q1);exact⟨J8.1 q1,RI hs.1 hs.2.1 _ _ (E8 ms hs.2.1 q2 q3 q4) rfl rfl,Sm _ _ _ _⟩
theorem akP{r:Int} (hl:t.2.2.2.1.length=8) (h:(kW (aG vs ms cs fs ts).1 ms fs bound t r).2=0):dG (aG vs ms cs fs ts).1 bound=0/\uh ms fs bound (kW (aG vs ms cs fs ts).1 ms fs bound t r).1/\(kW (aG vs ms cs fs ts).1 ms fs bound t r).1.2.2.2.1.length=8 /\
 (kW (aG vs ms cs fs ts).1 ms fs bound t r).1.2.2.2.2.1=t.2.2.2.2.1+1/\(kW (aG vs ms cs fs ts).1 ms fs bound t r).1.1=t.1/\(kW (aG vs ms cs fs ts).1 ms fs bound t r).1.2.1=t.2.1/\(0<=t.2.2.2.2.1/\t.2.2.2.2.1 < 32):=by
 unfold kW at h ⊢
 split at h
 .rename_i q;exact absurd h q
 split at h
 .cases h
 split at h
 .cases h
 split at h
 .cases h
 rename_i q1 q2 q3 q4;rw[if_neg q1,if_neg q2,if_neg q3,if_neg q4];have hs:=iw.1 (J8.1 q1);have hV:=J8.1 q2;have h1:t.2.2.2.2.2.2.2.1=1:=J8.1 q3;have hv:bW r=true:=by simpa using q4
 obtain⟨f0,s0,i,ha,vi,oi⟩:=AV hV h1;have ea:(atR fs t.2.1 t.2.2.1).1=i:=by unfold atR;rw[ha]
 rw[ea];have hf:=E5 hs.1 hV h1 ha hv;have hk:=aal t i r;have hk2:=MJ fs bound 256 (lK t i r);refine⟨J8.1 q1,RI hs.1 hs.2.1 _ _ hf (hk.2.2.2.1.trans h1) (hk.2.2.2.2.trans f0),((Sm _ _ _ _).trans (RX _ _ _)).trans hl,hk2.2.2.1.trans hk.2.2.1,hk2.1.trans hk.1,hk2.2.1.trans hk.2.1,?_⟩;obtain⟨id,fn,pc,rg,st,ch,ph,su,fa,he,u⟩:=t;have:=hV.1.2.2.2.2.1;have s0:st < bound:=s0;show 0<=st/\st < 32;have:0<=st/\st<=bound:=this;omega
theorem oV(h:uh ms fs bound t):dB ms fs bound t:=by
 obtain⟨id,fn,pc,rg,st,ch,ph,su,fa,he,u⟩:=t;exact h.1
theorem AY(h:dB ms fs bound t):(0<=t.2.1/\t.2.1 < (fs.length:Int))/\0<=t.2.2.1:=by
 obtain⟨id,fn,pc,rg,st,ch,ph,su,fa,he,u⟩:=t;exact⟨h.2.1,h.2.2.1.1⟩
theorem MW(hs:dG (aG vs ms cs fs ts).1 bound=0) (h:uh ms fs bound t):t.2.2.2.2.2.2.2.2.2.1.length<=1000000/\t.1<=9223372036854775807:=by
 have hf:dB ms fs bound t:=by
  obtain⟨id,fn,pc,rg,st,ch,ph,su,fa,he,u⟩:=t;exact h.1
 exact⟨pq (sN hf (ahD (oU (iw.1 hs).1).1)) (by omega),Hz hf⟩
end
end Go.Proofs.YtjhenjhcbcalpaaGreatDoor
