/- Part 8 of the proof. Conditions: the rows'. -/
import Derived.Test.YtjhenjhcbcalpaaGreatDoorB7
set_option linter.unusedSimpArgs false
set_option linter.unusedVariables false
set_option maxRecDepth 1000000
set_option maxHeartbeats 8000000
namespace Go.Proofs.YtjhenjhcbcalpaaGreatDoor
open Go Go.jw
noncomputable section
variable {ms cs:List ByteArray}{fs:List FD}{bound id pc st ch ph su fa:Int}{t:TD}{vs:List VD}{ts:List SD}{rg he:List Int}{u:Unit}{i:ID}
theorem wrap32(n:Int):IntKind.i32.wrap (IntKind.u32.wrap n)=aH n:=by
 simp only[IntKind.wrap,IntKind.bits,IntKind.signed,aH];simp;split<;>omega
theorem ajT{x y:Int} (hx:-2147483648<=x/\x<=2147483647) (hy:-2147483648<=y/\y<=2147483647):-9223372036854775808<=x * y/\x * y<=9223372036854775807:=by
 have h1:x.natAbs<=2147483648:=by omega
 have h2:y.natAbs<=2147483648:=by omega
 have h3:(x * y).natAbs<=2147483648 * 2147483648:=by rw[Int.natAbs_mul];exact Nat.mul_le_mul h1 h2
 omega
abbrev Gx:CT:={ ps:=[.int .i64],pre:=λd=>True,res:=λd=>([],.one (.c (.v (.int .i64 (aH d.1))))) }
theorem amZ(n:Int):
 let z1:=IntKind.i32.wrap (IntKind.u32.wrap n);iR z1/\qI (aH n) z1:=by
 conv=>zeta
 delta qI iR;have:=o8 n;rw[wrap32];exact⟨au.2 (by omega),rfl,rfl⟩
theorem D7:aN aK.gd 77 Gx:=
 jG (cx:=aK) (n:=7) (cl:=[]) ay trivial Tryz.func77 λd hd=>by
  obtain⟨n,⟨⟩⟩:=d;exact aI (λ_=>none) (amZ n) (by kernel_rfl)
abbrev ajU:CT:={ ps:=[.bool],pre:=λd=>True,res:=λd=>([],.one (.c (.v (.int .i64 (if d.1=true then 1 else 0))))) }
theorem ag8(b:Bool):
 let z1:=if b=true then(1:Int) else(0:Int);br b (qI z1 (1:Int)) (qI z1 (0:Int)):=by
 conv=>zeta
 delta qI;rw[ah];cases b<;>simp
theorem ace:aN aK.gd 161 ajU:=
 jG (cx:=aK) (n:=4) (cl:=[]) ay trivial Tryz.func161 λd hd=>by
  obtain⟨b,⟨⟩⟩:=d;exact aI (λ_=>none) (ag8 b) (by kernel_rfl)
abbrev U4:CT:={ ps:=[.int .i64,.int .i64,.int .i64],pre:=λd=>True,res:=λd=>([],.gY [.c (.v (.int .i64 (dQ d.1 d.2.1 d.2.2.1).1)),.c (.v (.int .i64 (dQ d.1 d.2.1 d.2.2.1).2))]) }
theorem am0(f a b:Int):
 let z1:=[cI ((dQ f a b).fst),cI ((dQ f a b).snd)];True/\True/\br (decide (f=1)) (iR (aH a+aH b)/\True/\rT z1 [cI (aH (aH a+aH b)),cI 0]) (br (decide (f=2)) (iR (aH a - aH b)/\True/\rT z1 [cI (aH (aH a - aH b)),cI 0]) (br (decide (f=3)) (iR (aH a * aH b)/\True/\rT z1 [cI (aH (aH a * aH b)),cI 0]) (br (decide (f=4)) (True/\rT z1 [cI (aH (lD BinOp.and IntKind.i64 (aH a) (aH b))),cI 0]) (br (decide (f=5)) (True/\rT z1 [cI (aH (lD BinOp.or IntKind.i64 (aH a) (aH b))),cI 0]) (br (decide (f=6)) (True/\rT z1 [cI (aH (lD BinOp.xor IntKind.i64 (aH a) (aH b))),cI 0]) (br (decide (f=7)) (True/\rT z1 [cI (if decide (aH a=aH b)=true then(1:Int) else(0:Int)),cI 0]) (br (decide (f=8)) (True/\rT z1 [cI (if(!decide (aH a=aH b))=true then(1:Int) else(0:Int)),cI 0]) (br (decide (f=9)) (True/\rT z1 [cI (if decide (aH a < aH b)=true then(1:Int) else(0:Int)),cI 0]) (br (decide (f=10)) (True/\rT z1 [cI (if decide (aH a<=aH b)=true then(1:Int) else(0:Int)),cI 0]) (rT z1 [cI 0,cI 8])))))))))):=by
 conv=>zeta
 delta cI rT iR;have ha:=o8 a;have hb:=o8 b;have hm:=ajT ha hb;unfold dQ;simp only[ah,dG,A8]
 repeat' (first | (refine And.intro ?_ ?_) | (intro _))
 all_goals first | rfl | trivial | exact au.2 (by omega) | (simp[*];done) | skip
theorem Ll:aN aK.gd 97 U4:=
 jG (cx:=aK) (n:=75) (cl:=[(77,Gx),(161,ajU)]) ay ⟨D7,ace,trivial⟩ Tryz.func97 λd hd=>by
  obtain⟨f,a,b,⟨⟩⟩:=d;exact aI (λ_=>none) (am0 f a b) (by kernel_rfl)
abbrev acf:CT:={ ps:=[.int .i64],pre:=λd=>True,res:=λd=>([],vB (jm d.1)) }
theorem ag9(op:Int):
 qB (jm op) (decide (8<=op) && decide (op<=22)):=by
 delta qB;refine⟨rfl,?_⟩;rw[show jm op=(decide (8<=op) && decide (op<=22)) by unfold jm;rw[Et];simp]
theorem OO:aN aK.gd 149 acf:=
 jG (cx:=aK) (n:=9) (cl:=[]) ay trivial Tryz.func149 λd hd=>by
  obtain⟨op,⟨⟩⟩:=d;exact aI (λ_=>none) (ag9 op) (by kernel_rfl)
abbrev ajV:CT:={ ps:=[jT],pre:=λd=>True,res:=λd=>([],.gY [.c (.v (.int .i64 (jo d.1).1)),.c (.v (.bool (jo d.1).2))]) }
theorem aha(op a b c obj n fo ord:Int):
 let z4:=pY op a b c obj n fo ord=0;let z2:=!!decide z4;let z3:=jo (op,a,b,c,obj,n,fo,ord,());let z1:=[cI (z3.fst),cB (z3.snd)];True/\(z2=true->iR (op - 1))/\(z2=true->0<=op - 1/\op - 1 < (22:Int))/\∀(d:ByteArray×((Sh.arr 7 Sh.bool).pair Sh.unit).den),(z2=true->Oq[(op - 1).toNat]?=some d)->(z2=true->(0:Int)<=(0:Int)/\0 < ((List.length d.snd.fst):Int))/\∀(dH:Bool),(z2=true->d.snd.fst[0]?=some dH)->br (!decide z4 || !dH) (rT z1 [cI 0,cB false]) (rT z1 [cI a,cB true]):=by
 conv=>zeta
 delta cI cB rT iR
 by_cases h:pY op a b c obj n fo ord=0
 .obtain⟨r1,r2,r3,r4⟩:=kP (i:=(op,a,b,c,obj,n,fo,ord,())) h;have r4:1<=op/\op<=22:=r4;refine⟨trivial,λ_=>au.2 (by omega),λ_=>by omega,λd hd=>?_⟩
  have hd:=hd (by simp[h])
  obtain⟨nm,us,u⟩:=d;have hu:=Ou r4 hd;subst hu;refine⟨λ_=>by simp,λd1 hd1=>?_⟩
  have hd1:use op 0=d1:=by simpa[h]using hd1
  subst hd1;rw[ah];have hc:sQ (op,a,b,c,obj,n,fo,ord,())=0:=h;refine⟨λq=>?_,λq=>?_⟩
  .have q:use op 0=false:=by simpa[h]using q
   have e:jo (op,a,b,c,obj,n,fo,ord,())=(0,false):=by unfold jo;rw[if_pos (.inr q)]
   rw[e];exact⟨rfl,rfl⟩
  .have q:use op 0=true:=by simpa[h]using q
   have e:jo (op,a,b,c,obj,n,fo,ord,())=(a,true):=by unfold jo;rw[if_neg (by rw[hc];simp[q])]
   rw[e];exact⟨rfl,rfl⟩
 .have hc:¬sQ (op,a,b,c,obj,n,fo,ord,())=0:=h;have e:jo (op,a,b,c,obj,n,fo,ord,())=(0,false):=by unfold jo;rw[if_pos (.inl hc)]
  rw[e];refine⟨trivial,λq=>by simp[h]at q,λq=>by simp[h]at q,λd hd=>⟨λq=>by simp[h]at q,λd1 hd1=>?_⟩⟩
  rw[ah];exact⟨λ_=>⟨rfl,rfl⟩,λq=>by simp[h]at q⟩
theorem acg:aN aK.gd 109 ajV:=
 jG (cx:=aK) (n:=19) (cl:=[(168,al9)]) ay ⟨Ov,trivial⟩ Tryz.func109 λd hd=>by
  obtain⟨⟨op,a,b,c,obj,n,fo,ord,⟨⟩⟩,⟨⟩⟩:=d;exact aI (λ_=>none) (aha op a b c obj n fo ord) (by kernel_rfl)
instance (l:List Int):Decidable (SS l):=inferInstanceAs (Decidable (l.Pairwise (· < ·)))
def kU(l:List Int):Bool:=decide (SS l)
theorem Gy:∀{l:List Int},(∀j x y,l[j]?=some x->l[j+1]?=some y->x < y)->SS l
 | [],_=>List.Pairwise.nil
 | [a],_=>by simp[SS]
 | a :: b :: l,h=>by
   have ih:SS (b :: l):=Gy λj x y h1 h2=>h (j+1) x y (by simpa using h1) (by simpa using h2)
   refine X7.2 ⟨λz hz=>?_,ih⟩
   have hab:=h 0 a b rfl rfl;rcases nG.1 hz with rfl | hz
   .exact hab
   .have:=(X7.1 ih).1 z hz;omega
theorem Lm{l:List Int} (h:SS l){j:Nat}{x y:Int} (h1:l[j]?=some x) (h2:l[j+1]?=some y):x < y:=by
 obtain⟨a1,a2⟩:=eX.1 h1;obtain⟨b1,b2⟩:=eX.1 h2;have:=akg.1 h j (j+1) a1 b1 (by omega)
 omega
abbrev ctV:CT:={ ps:=[.sl (.int .i64)],pre:=λd=>d.1.length<=1000000,res:=λd=>([],vB (kU d.1)) }
abbrev am1(l:List Int):Nat->Option (St->iE):=λk=>match k with
 | 2=>some λ_=>.inv { α:=Nat,slots:=λk=>[(3,.c (.v (.int .i64 k)))],res:=λ_=>[],inv:=λk=>(1<=k/\(k<=l.length\/k=1))/\∀j,j+1 < k->∀x y,l[j]?=some x->l[j+1]?=some y->x < y,meas:=λk=>l.length - k }
 | _=>none
theorem ahb(l:List Int) (aA:ctV.pre (l,())):
 (∃x,((1<=x/\(x<=l.length\/x=1))/\∀(j:Nat),j+1 < x->∀(x y:Int),l[j]?=some x->l[j+1]?=some y->x < y)/\(cI 1=cI (x:Int)/\True)/\([]:List dP)=[])/\∀(x:Nat),((1<=x/\(x<=l.length\/x=1))/\∀(j:Nat),j+1 < x->∀(x y:Int),l[j]?=some x->l[j+1]?=some y->x < y)->br (decide ((x:Int) < (l.length:Int))) (iR ((x:Int) - (1:Int))/\(0<=(x:Int) - (1:Int)/\(x:Int) - 1 < (l.length:Int))/\∀(d:Int),l[((x:Int) - (1:Int)).toNat]?=some d->(0<=(x:Int)/\(x:Int) < (l.length:Int))/\∀(dH:Int),l[(x:Int).toNat]?=some dH->br (decide (dH<=d)) (qB (kU l) false) (iR ((x:Int)+(1:Int))/\∃x',((1<=x'/\(x'<=l.length\/x'=1))/\∀(j:Nat),j+1 < x'->∀(x y:Int),l[j]?=some x->l[j+1]?=some y->x < y)/\(cI ((x:Int)+(1:Int))=cI (x':Int)/\True)/\([]:List dP)=[]/\l.length - x' < l.length - x)) (qB (kU l) true):=by
 delta dP cI qB iR;have hp:l.length<=1000000:=aA;refine⟨⟨1,⟨⟨by omega,.inr rfl⟩,λj hj=>by omega⟩,⟨rfl,trivial⟩,rfl⟩,λk hk=>ah.2 ⟨λh=>?_,λh=>?_⟩⟩
 .simp only[dG]at h;have hk1:=hk.1.1;refine⟨au.2 (by omega),by omega,λd hd=>⟨by omega,λe he=>?_⟩⟩
  have hd:l[k - 1]?=some d:=by rw[<-hd];congr 1;omega
  have he:l[k]?=some e:=by simpa using he
  have he':l[k - 1+1]?=some e:=by rw[show k - 1+1=k by omega];exact he
  refine ah.2 ⟨λh2=>?_,λh2=>⟨au.2 (by omega),k+1,⟨⟨by omega,.inl (by omega)⟩,λj hj x y hx hy=>?_⟩,⟨by simp,trivial⟩,rfl,by omega⟩⟩
  .simp only[dG]at h2;have:kU l=false:=yS λhs=>by have:=Lm hs hd he';omega
   rw[this];exact⟨rfl,rfl⟩
  .simp only[A8]at h2
   by_cases gu:j+1=k
   .have hj':j=k - 1:=by omega
    subst hj';rw[hd]at hx;rw[he']at hy;cases hx;cases hy;omega
   .exact hk.2 j (by omega) x y hx hy
 .simp only[A8]at h;have:kU l=true:=vg (Gy λj x y hx hy=>hk.2 j (by have:=(eX.1 hy).1;omega) x y hx hy)
  rw[this];exact⟨rfl,rfl⟩
theorem OQ:aN aK.gd 192 ctV:=
 jG (cx:=aK) (n:=20) (cl:=[]) ay trivial Tryz.func192 λd hd=>by
  obtain⟨l,⟨⟩⟩:=d;exact aI (am1 l) (ahb l hd) (by kernel_rfl)
abbrev Gz:CT:={ ps:=[.sl (.int .i64),.sl (.int .i64),.bool],pre:=λd=>d.1.length<=1000000/\d.2.1.length<=1000000,res:=λd=>([.row 3 (.int .i64) (jr (aX d.1) d.2.1 d.2.2.1)],.one (.c (.row 0))) }
abbrev am2(l o:List Int) (b:Bool):Nat->Option (St->iE):=λk=>match k with
 | 3=>some λ_=>.inv { α:=Nat,slots:=λk=>[(13,.c (.v (.int .i64 k))),(7,.c (.row 1))],res:=λk=>[(1,.row 3 (.int .i64) (jr ((aX l).take k) o b))],inv:=λk=>k<=(aX l).length,meas:=λk=>(aX l).length - k,nil:=[(7,3,.int .i64)] }
 | _=>none
theorem ahc(l o:List Int) (b:Bool) (aA:Gz.pre (l,o,b,())):
 let z3:=λ(x:Nat)=>jr (List.take x (aX l)) o b;let z2:=λ(x:Nat)=>[g0 (aj.row 3 I6 (aX l)),g0 (aj.row 3 I6 (z3 x))];let z1:=λ(x x':Nat)=>cI ((x:Int)+(1:Int))=cI (x':Int)/\SV.c (SC.row 1)=SV.c (SC.row 1)/\True;l.length<=1000000/\(∃x,x<=(aX l).length/\(cI 0=cI (x:Int)/\SV.c (SC.row (Nat.succ 0))=SV.c (SC.row 1)/\True)/\[g0 (aj.row 3 I6 (aX l)),g0 (aj.row 3 I6 [])]=(z2 x))/\∀(x:Nat),x<=(aX l).length->br (decide ((x:Int) < (↑(aX l).length:Int))) ((0<=(x:Int)/\(x:Int) < (↑(aX l).length:Int))/\(x:Int).toNat < (aX l).length/\∀(d:Int),(aX l)[(x:Int).toNat]?=some d->o.length<=4611686018427387904/\br (dM o d == b) (jY (List.length (z3 x)+List.length ([d])) 8/\iR ((x:Int)+(1:Int))/\∃x',x'<=(aX l).length/\(z1 x x')/\[g0 (aj.row 3 I6 (aX l)),g0 (aj.row 3 I6 (jr (List.take x (aX l)) o b++[d]))]=(z2 x')/\(aX l).length - x' < (aX l).length - x) (iR ((x:Int)+(1:Int))/\∃x',x'<=(aX l).length/\(z1 x x')/\(z2 x)=(z2 x')/\(aX l).length - x' < (aX l).length - x)) ([aj.row 3 I6 (jr (aX l) o b)]=[aj.row 3 I6 (z3 x)]/\aW.one (SV.c (SC.row 0))=aW.one (SV.c (SC.row 0))):=by
 conv=>zeta
 delta cI g0 I6 iR;have hp:l.length<=1000000/\o.length<=1000000:=aA;have hm:=OC l;have hf:∀k,(jr ((aX l).take k) o b).length<=1000000:=λk=>by
  refine oh (X6 _ _) ?_;rw[kH];omega
 refine⟨hp.1,⟨0,by omega,⟨rfl,rfl,trivial⟩,by simp[jr]⟩,λk hk=>ah.2 ⟨λh=>?_,λh=>?_⟩⟩
 .simp only[dG]at h;refine⟨⟨by omega,h⟩,by omega,λd hd=>?_⟩
  have hd:(aX l)[k]?=some d:=by simpa using hd
  have e:jr ((aX l).take (k+1)) o b=jr ((aX l).take k) o b++(if dM o d == b then[d] else[]):=by
   unfold jr;rw[Hf,hd,Qh,Wh]
   congr 1
   simp only[aer,aeu]
  refine⟨by omega,ah.2 ⟨λh2=>⟨?_,au.2 (by omega),k+1,by omega,⟨by simp,rfl,trivial⟩,?_,by omega⟩,λh2=>⟨au.2 (by omega),k+1,by omega,⟨by simp,rfl,trivial⟩,?_,by omega⟩⟩⟩
  .have:=hf k;rw[bJ];simp;omega
  .rw[e,h2];rfl
  .rw[e,h2];simp
 .simp only[A8]at h;rw[qV (by omega)];exact⟨rfl,rfl⟩
theorem ach:aN aK.gd 170 Gz:=
 jG (cx:=aK) (n:=28) (cl:=[(169,Ac),(98,Gh)]) ay ⟨OD,Aa,trivial⟩ Tryz.func170 λd hd=>by
  obtain⟨l,o,b,⟨⟩⟩:=d;exact aI (am2 l o b) (ahc l o b hd) (by kernel_rfl)
abbrev OU:CT:={ ps:=[.sl (.int .i64),.int .i64],pre:=λd=>d.1.length<=1000000,res:=λd=>([.row 3 (.int .i64) (jr (aX d.1) [d.2.1] false)],.one (.c (.row 0))) }
theorem ahd(l:List Int) (x:Int) (aA:OU.pre (l,x,())):
 let z1:=[aj.row (3:TypeId) gZ (jr (aX l) [x] false)];(l.length<=(1000000:Nat)/\[x].length<=(1000000:Nat))/\z1=z1/\aW.one mD=aW.one mD:=by
 conv=>zeta
 delta gZ mD;have hp:l.length<=1000000:=aA;exact⟨⟨hp,by simp⟩,rfl,rfl⟩
theorem GH:aN aK.gd 112 OU:=
 jG (cx:=aK) (n:=9) (cl:=[(170,Gz)]) ay ⟨ach,trivial⟩ Tryz.func112 λd hd=>by
  obtain⟨l,x,⟨⟩⟩:=d;exact aI (λ_=>none) (ahd l x hd) (by kernel_rfl)
abbrev aci:CT:={ ps:=[.int .i64],pre:=λd=>0<=d.1/\d.1<=9223372036854775807,res:=λd=>([],.gY [.c (.v (.int .i64 (d.1.tdiv 8 - 1))),.c (.v (.int .i64 (d.1.tmod 8)))]) }
theorem ahe(id:Int) (aA:aci.pre (id,())):
 let z2:=id.tdiv (8:Int) - (1:Int);let z1:=[cI z2,cI (id.tmod (8:Int))];(8:Int)≠(0:Int)/\iR (id.tdiv (8:Int))/\iR z2/\(8:Int)≠(0:Int)/\rT z1 z1:=by
 conv=>zeta
 delta cI rT iR;have hp:0<=id/\id<=9223372036854775807:=aA;have e:id.tdiv 8=id / 8:=A75 hp.1;exact⟨by decide,au.2 (by omega),au.2 (by omega),by decide,rfl,rfl⟩
theorem acj:aN aK.gd 147 aci:=
 jG (cx:=aK) (n:=9) (cl:=[]) ay trivial Tryz.func147 λd hd=>by
  obtain⟨id,⟨⟩⟩:=d;exact aI (λ_=>none) (ahe id hd) (by kernel_rfl)
abbrev OV:CT:={ ps:=[.int .i64],pre:=λd=>d.1<=9223372036854775807,res:=λd=>([],.one (.c (.v (.int .i64 (aU d.1))))) }
abbrev aqv(id:Int):Nat->Option (St->iE):=λk=>match k with
 | 4=>some λ_=>.inv { α:=Nat×Int,slots:=λx=>[(8,.c (.v (.int .i64 x.1))),(0,.c (.v (.int .i64 x.2)))],res:=λ_=>[],inv:=λx=>x.1<=5/\0<=x.2/\x.2<=9223372036854775807/\dZ (5 - x.1) x.1 x.2=aU id,meas:=λx=>5 - x.1 }
 | _=>none
theorem am3(id:Int) (aA:OV.pre (id,())):
 let z2:=qI (aU id) (-1:Int);let z1:=λ(x:Nat×Int)=>x.fst<=5/\0<=x.snd/\x.snd<=9223372036854775807/\dZ (5 - x.fst) (x.fst:Int) x.snd=aU id;br (decide (id < 0)) z2 ((∃(x:Nat×Int),(z1 x)/\(cI 0=cI (x.fst:Int)/\cI id=cI x.snd/\True)/\([]:List dP)=[])/\∀(x:Nat×Int),x.fst<=5/\0<=x.snd/\x.snd<=9223372036854775807/\dZ (5 - x.fst) (x.fst:Int) x.snd=aU id->br (decide ((x.fst:Int) < (5:Int))) (br (decide (x.snd < 8)) (qI (aU id) (x.fst:Int)) ((0<=x.snd/\x.snd<=9223372036854775807)/\br (decide (7<=x.snd.tmod (8:Int))) z2 (iR ((x.fst:Int)+(1:Int))/\∃(x':Nat×Int),(z1 x')/\(cI ((x.fst:Int)+(1:Int))=cI (x'.fst:Int)/\cI (x.snd.tdiv (8:Int) - (1:Int))=cI x'.snd/\True)/\([]:List dP)=[]/\5 - x'.fst < 5 - x.fst))) z2):=by
 conv=>zeta
 delta dP cI qI iR;have hp:id<=9223372036854775807:=aA;refine ah.2 ⟨λh=>?_,λh=>?_⟩
 .simp only[dG]at h;have e:aU id = -1:=by unfold aU;rw[if_pos h]
  rw[e];exact⟨rfl,rfl⟩
 simp only[A8]at h;refine⟨⟨(0,id),⟨by omega,by simp only;omega,hp,by unfold aU;rw[if_neg h];rfl⟩,⟨rfl,rfl,trivial⟩,rfl⟩,λx hx=>ah.2 ⟨λh2=>?_,λh2=>?_⟩⟩
 .obtain⟨x1,x2,x3,x4⟩:=hx;simp only[dG]at h2;obtain⟨m,hm⟩:∃m,5 - x.1=m+1:=⟨4 - x.1,by omega⟩
  rw[hm,dZ]at x4;refine ah.2 ⟨λh3=>?_,λh3=>⟨⟨x2,x3⟩,ah.2 ⟨λh4=>?_,λh4=>?_⟩⟩⟩
  .simp only[dG]at h3;rw[if_pos h3]at x4;rw[<-x4];exact⟨rfl,rfl⟩
  .simp only[dG,A8]at h3 h4;rw[if_neg h3,if_pos h4]at x4;rw[<-x4];exact⟨rfl,rfl⟩
  .simp only[A8]at h3 h4;rw[if_neg h3,if_neg h4]at x4;have e:x.2.tdiv 8=x.2 / 8:=A75 x2;refine⟨au.2 (by omega),(x.1+1,x.2.tdiv 8 - 1),⟨by simp only;omega,by simp only;omega,by simp only;omega,?_⟩,⟨rfl,rfl,trivial⟩,rfl,by simp only;omega⟩
   rw[<-x4,show 5 - (x.1+1)=m by omega];rfl
 .obtain⟨x1,x2,x3,x4⟩:=hx;simp only[A8]at h2;rw[show 5 - x.1=0 by omega]at x4
  rw[<-x4];exact⟨rfl,rfl⟩
theorem Lp:aN aK.gd 76 OV:=
 jG (cx:=aK) (n:=23) (cl:=[(147,aci)]) ay ⟨acj,trivial⟩ Tryz.func76 λd hd=>by
  obtain⟨id,⟨⟩⟩:=d;exact aI (aqv id) (am3 id hd) (by kernel_rfl)
abbrev U5:CT:={ ps:=[bD],pre:=λd=>d.1.1<=9223372036854775807,res:=λd=>([],.gY [.c (.v (.int .i64 (dB d.1.1 d.1.2.2.2.2.2.1).1)),.c (.v (.bool (dB d.1.1 d.1.2.2.2.2.2.1).2))]) }
theorem am4(id fn pc:Int) (rg:List Int) (st ch ph su fa:Int) (he:List Int) (aA:U5.pre ((id,fn,pc,rg,st,ch,ph,su,fa,he,()),())):
 let z1:=[cI ((dB id ch).fst),cB ((dB id ch).snd)];id<=9223372036854775807/\br (decide (aU id < 0) || decide (aU id=4) || decide (ch < 0) || decide (7<=ch)) (rT z1 [cI 0,cB false]) (iR (id+1)/\iR ((8:Int) * (id+1))/\iR ((8:Int) * (id+1)+ch)/\rT z1 [cI ((8:Int) * (id+1)+ch),cB true]):=by
 conv=>zeta
 delta cI cB rT iR;refine⟨aA,ah.2 ⟨λh=>?_,λh=>?_⟩⟩
 .have e:dB id ch=(0,false):=by
   unfold dB;rw[if_pos (by simpa[or_assoc]using h)]
  rw[e];exact⟨rfl,rfl⟩
 .simp only[lM,A8]at h;have e:dB id ch=(8 * (id+1)+ch,true):=by
   unfold dB;rw[if_neg (by omega)]
  have:=nC (id:=id) (by omega)
  rw[e];exact⟨au.2 (by omega),au.2 (by omega),au.2 (by omega),rfl,rfl⟩
theorem U6:aN aK.gd 89 U5:=
 jG (cx:=aK) (n:=31) (cl:=[(76,OV)]) ay ⟨Lp,trivial⟩ Tryz.func89 λd hd=>by
  obtain⟨⟨id,fn,pc,rg,st,ch,ph,su,fa,he,⟨⟩⟩,⟨⟩⟩:=d;exact aI (λ_=>none) (am4 id fn pc rg st ch ph su fa he hd) (by kernel_rfl)
abbrev Sv:CT:={ ps:=[oQ,bD],pre:=λd=>0<=d.2.1.2.1/\d.2.1.2.1 < d.1.2.2.2.1.length/\0<=d.2.1.2.2.1,res:=λd=>([],.gY [.agg [.v (.int .i64 ((atR d.1.2.2.2.1 d.2.1.2.1 d.2.1.2.2.1).1).1),.v (.int .i64 ((atR d.1.2.2.2.1 d.2.1.2.1 d.2.1.2.2.1).1).2.1),.v (.int .i64 ((atR d.1.2.2.2.1 d.2.1.2.1 d.2.1.2.2.1).1).2.2.1),.v (.int .i64 ((atR d.1.2.2.2.1 d.2.1.2.1 d.2.1.2.2.1).1).2.2.2.1),.v (.int .i64 ((atR d.1.2.2.2.1 d.2.1.2.1 d.2.1.2.2.1).1).2.2.2.2.1),.v (.int .i64 ((atR d.1.2.2.2.1 d.2.1.2.1 d.2.1.2.2.1).1).2.2.2.2.2.1),.v (.int .i64 ((atR d.1.2.2.2.1 d.2.1.2.1 d.2.1.2.2.1).1).2.2.2.2.2.2.1),.v (.int .i64 ((atR d.1.2.2.2.1 d.2.1.2.1 d.2.1.2.2.1).1).2.2.2.2.2.2.2.1)],.c (.v (.bool (atR d.1.2.2.2.1 d.2.1.2.1 d.2.1.2.2.1).2))]) }
theorem am5(vs:List VD) (ms cs:List ByteArray) (fs:List FD) (ts:List SD) (id fn pc:Int) (rg:List Int) (st ch ph su fa:Int) (he:List Int) (aA:Sv.pre ((vs,ms,cs,fs,ts,()),(id,fn,pc,rg,st,ch,ph,su,fa,he,()),())):
 let z1:=[SV.agg [v6 ((atR fs fn pc).fst.fst),v6 ((atR fs fn pc).fst.snd.fst),v6 ((atR fs fn pc).fst.snd.snd.fst),v6 ((atR fs fn pc).fst.snd.snd.snd.fst),v6 ((atR fs fn pc).fst.snd.snd.snd.snd.fst),v6 ((atR fs fn pc).fst.snd.snd.snd.snd.snd.fst),v6 ((atR fs fn pc).fst.snd.snd.snd.snd.snd.snd.fst),v6 ((atR fs fn pc).fst.snd.snd.snd.snd.snd.snd.snd.fst)],cB ((atR fs fn pc).snd)];(0<=fn/\fn < (fs.length:Int))/\∀(d:ByteArray×(jT.sl.pair Sh.unit).den),fs[fn.toNat]?=some d->br (decide (((List.length d.snd.fst):Int)<=pc)) (rT z1 [SV.agg [v6 0,v6 0,v6 0,v6 0,v6 0,v6 0,v6 0,v6 0],cB false]) ((0<=pc/\pc < ((List.length d.snd.fst):Int))/\∀(dH:ID),d.snd.fst[pc.toNat]?=some dH->rT z1 [SV.agg [v6 dH.fst,v6 dH.snd.fst,v6 dH.snd.snd.fst,v6 dH.snd.snd.snd.fst,v6 dH.snd.snd.snd.snd.fst,v6 dH.snd.snd.snd.snd.snd.fst,v6 dH.snd.snd.snd.snd.snd.snd.fst,v6 dH.snd.snd.snd.snd.snd.snd.snd.fst],cB true]):=by
 conv=>zeta
 delta v6 cB rT I6;obtain⟨h1,h2,h3⟩:0<=fn/\fn < (fs.length:Int)/\0<=pc:=aA;refine⟨⟨h1,h2⟩,λx hx=>?_⟩
 obtain⟨y,hy,ey⟩:=pq ⟨h1,h2⟩;rw[hx]at hy;cases hy;refine ah.2 ⟨λh=>?_,λh=>?_⟩
 .simp only[dG]at h;have e:atR fs fn pc=((0,0,0,0,0,0,0,0,()),false):=by
   unfold atR lS;rw[ey,uD (by omega)]
  rw[e];exact⟨rfl,rfl⟩
 .simp only[A8]at h;refine⟨⟨h3,by omega⟩,λi hi=>?_⟩
  have e:atR fs fn pc=(i,true):=by
   unfold atR lS;rw[ey,hi]
  rw[e];exact⟨rfl,rfl⟩
theorem Aq:aN aK.gd 95 Sv:=
 bV (cx:=aK) (n:=25) (cl:=[]) (rc:=[]) ay trivial Tryz.func95 λd hd=>by
  obtain⟨⟨vs,ms,cs,fs,ts,⟨⟩⟩,⟨id,fn,pc,rg,st,ch,ph,su,fa,he,⟨⟩⟩,⟨⟩⟩:=d;exact aI (λ_=>none) (am5 vs ms cs fs ts id fn pc rg st ch ph su fa he hd) (by kernel_rfl)
abbrev acn:CT:={ ps:=[bD,.int .i64,.int .i64],pre:=λd=>True,res:=λd=>([],.one (.dat bD (Aj d.1 d.2.1 d.2.2.1))) }
theorem ahf(id fn pc:Int) (rg:List Int) (st ch ph su fa:Int) (he:List Int) (s f:Int):
 rE (aW.one (SV.dat bD (Aj (id,fn,pc,rg,st,ch,ph,su,fa,he,()) s f))) (aW.one (SV.dat bD ((id,fn,pc,rg,st,ch,ph,s,f,he,())))):=by
 delta rE I6;exact⟨rfl,rfl⟩
theorem OW:aN aK.gd 148 acn:=
 bV (cx:=aK) (n:=12) (cl:=[]) (rc:=[.data bD]) ay trivial Tryz.func148 λd hd=>by
  obtain⟨⟨id,fn,pc,rg,st,ch,ph,su,fa,he,⟨⟩⟩,s,f,⟨⟩⟩:=d;exact aI (λ_=>none) (ahf id fn pc rg st ch ph su fa he s f) (by kernel_rfl)
abbrev U7:CT:={ ps:=[bD,jT],pre:=λd=>d.1.2.2.2.2.2.2.2.2.2.1.length<=1000000/\d.1.1<=9223372036854775807,res:=λd=>([],.one (.c (.v (.int .i64 (iW d.1.1 d.1.2.2.2.2.2.1 d.1.2.2.2.2.2.2.1 d.1.2.2.2.2.2.2.2.2.2.1 d.2.1))))) }
theorem ahg(id fn pc:Int) (rg:List Int) (st ch ph su fa:Int) (he:List Int) (op a b c obj n fo ord:Int) (aA:U7.pre ((id,fn,pc,rg,st,ch,ph,su,fa,he,()),(op,a,b,c,obj,n,fo,ord,()),())):
 let z3:=iW id ch ph he (op,a,b,c,obj,n,fo,ord,());let z2:=qI z3 (0:Int);let z1:=qI z3 (27:Int);br (!decide (ph=0)) z2 (br (decide (op=18)) (he.length<=1000000/\br (!dM he n) z1 z2) (br (decide (op=16)) (he.length<=1000000/\br (!dM he obj) z1 z2) (br (decide (op=21)) (id<=9223372036854775807/\br (!(dB id ch).snd) (qI z3 (28:Int)) z2) z2))):=by
 conv=>zeta
 delta qI;obtain⟨h1,h2⟩:he.length<=1000000/\id<=9223372036854775807:=aA;unfold iW;simp only[ah]
 repeat' (first | exact h1 | exact h2 | (refine And.intro ?_ ?_) | (intro _))
 all_goals first | rfl | (simp_all;done)
theorem OX:aN aK.gd 150 U7:=
 jG (cx:=aK) (n:=35) (cl:=[(165,I9),(89,U5)]) ay ⟨Ad,U6,trivial⟩ Tryz.func150 λd hd=>by
  obtain⟨⟨id,fn,pc,rg,st,ch,ph,su,fa,he,⟨⟩⟩,⟨op,a,b,c,obj,n,fo,ord,⟨⟩⟩,⟨⟩⟩:=d;exact aI (λ_=>none) (ahg id fn pc rg st ch ph su fa he op a b c obj n fo ord hd) (by kernel_rfl)
theorem aJ{c:Prop} [Decidable c] {A B:Prop}:br (decide c) A B↔(c->A)/\(¬c->B):=by
 rw[ah,dG,A8]
abbrev aco:CT:={ ps:=[bD,jT],pre:=λd=>(0<=d.2.1.2.1/\d.2.1.2.1 < 8)/\(0<=d.2.1.2.2.1/\d.2.1.2.2.1 < 8)/\(0<=d.2.1.2.2.2.1/\d.2.1.2.2.2.1 < 8)/\0<=d.1.2.2.1/\d.1.2.2.1<=1000000,res:=λd=>([],.gY [.dat bD (dW d.1 d.2.1).1,.c (.v (.bool (dW d.1 d.2.1).2))]) }
theorem ahh(id fn pc:Int) (rg:List Int) (st ch ph su fa:Int) (he:List Int) (op a b c obj n fo ord:Int) (aA:aco.pre ((id,fn,pc,rg,st,ch,ph,su,fa,he,()),(op,a,b,c,obj,n,fo,ord,()),())):
 let z5:=(id,fn,pc,rg,st,ch,ph,su,fa,he,());let z4:=dW z5 (op,a,b,c,obj,n,fo,ord,());let z3:=[SV.dat bD z4.fst,cB (z4.snd)];let z1:=rT z3 [SV.dat bD ((id,fn,pc+1,rg,st,ch,ph,su,fa,he,())),cB true];let z2:=rT z3 [SV.dat bD ((id,fn,n,rg,st,ch,ph,su,fa,he,())),cB true];iR (pc+1)/\br (decide (op=1)) ((0<=a/\a < 8)/\a.toNat < 8/\rT z3 [SV.dat bD ((id,fn,pc+1,rg.set a.toNat n,st,ch,ph,su,fa,he,())),cB true]) (br (decide (op=2)) ((0<=b/\b < 8)/\b.toNat < 8/\∀(d:Int),rg[b.toNat]?=some d->(0<=a/\a < 8)/\a.toNat < 8/\rT z3 [SV.dat bD ((id,fn,pc+1,rg.set a.toNat d,st,ch,ph,su,fa,he,())),cB true]) (br (decide (op=3)) ((0<=b/\b < 8)/\b.toNat < 8/\∀(d:Int),rg[b.toNat]?=some d->(0<=c/\c < 8)/\c.toNat < 8/\∀(dH:Int),rg[c.toNat]?=some dH->True/\br (decide ((dQ fo d dH).snd=0)) ((0<=a/\a < 8)/\a.toNat < 8/\rT z3 [SV.dat bD ((id,fn,pc+1,rg.set a.toNat (dQ fo d dH).fst,st,ch,ph,su,fa,he,())),cB true]) z1) (br (decide (op=5)) ((0<=b/\b < 8)/\b.toNat < 8/\∀(d:Int),rg[b.toNat]?=some d->br (decide (d=0)) z1 z2) (br (decide (op=4)) z2 (br (decide (op=6)) ((0<=b/\b < 8)/\b.toNat < 8/\∀(d:Int),rg[b.toNat]?=some d->br (decide (d=0)) (True/\rT z3 [SV.dat bD (Aj z5 (3:Int) (26:Int)),cB false]) z1) (br (decide (op=7)) (True/\rT z3 [SV.dat bD (Aj z5 (2:Int) (0:Int)),cB false]) z1)))))):=by
 conv=>zeta
 delta cB rT I6 iR;obtain⟨hA,hB,hC,hp0,hp1⟩:(0<=a/\a < 8)/\(0<=b/\b < 8)/\(0<=c/\c < 8)/\0<=pc/\pc<=1000000:=aA;have hA8:a.toNat < 8:=by omega
 have hB8:b.toNat < 8:=by omega
 have hC8:c.toNat < 8:=by omega
 have gd:∀{x d:Int},rg[x.toNat]?=some d->rg.getD x.toNat 0=d:=λhd=>by rw[Il,hd];rfl
 refine⟨au.2 (by omega),aJ.2 ⟨λh=>?_,λh=>aJ.2 ⟨λh2=>?_,λh2=>aJ.2 ⟨λh3=>?_,λh3=>aJ.2 ⟨λh4=>?_,λh4=>aJ.2 ⟨λh5=>?_,λh5=>aJ.2 ⟨λh6=>?_,λh6=>aJ.2 ⟨λh7=>?_,λh7=>?_⟩⟩⟩⟩⟩⟩⟩⟩
 .have e:dW (id,fn,pc,rg,st,ch,ph,su,fa,he,()) (op,a,b,c,obj,n,fo,ord,())=((id,fn,pc+1,rg.set a.toNat n,st,ch,ph,su,fa,he,()),true):=by simp only[dW,if_pos h]
  rw[e];exact⟨hA,hA8,rfl,rfl⟩
 .refine⟨hB,hB8,λd hd=>?_⟩
  have e:dW (id,fn,pc,rg,st,ch,ph,su,fa,he,()) (op,a,b,c,obj,n,fo,ord,())=((id,fn,pc+1,rg.set a.toNat d,st,ch,ph,su,fa,he,()),true):=by simp only[dW,if_neg h,if_pos h2,gd hd]
  rw[e];exact⟨hA,hA8,rfl,rfl⟩
 .refine⟨hB,hB8,λd hd=>⟨hC,hC8,λd1 hd1=>⟨trivial,aJ.2 ⟨λh8=>?_,λh8=>?_⟩⟩⟩⟩
  .have e:dW (id,fn,pc,rg,st,ch,ph,su,fa,he,()) (op,a,b,c,obj,n,fo,ord,())=((id,fn,pc+1,rg.set a.toNat (dQ fo d d1).1,st,ch,ph,su,fa,he,()),true):=by simp only[dW,if_neg h,if_neg h2,if_pos h3,gd hd,gd hd1,if_pos h8]
   rw[e];exact⟨hA,hA8,rfl,rfl⟩
  .have e:dW (id,fn,pc,rg,st,ch,ph,su,fa,he,()) (op,a,b,c,obj,n,fo,ord,())=((id,fn,pc+1,rg,st,ch,ph,su,fa,he,()),true):=by simp only[dW,if_neg h,if_neg h2,if_pos h3,gd hd,gd hd1,if_neg h8]
   rw[e];exact⟨rfl,rfl⟩
 .have h45:¬op=4:=by omega
  refine⟨hB,hB8,λd hd=>aJ.2 ⟨λh8=>?_,λh8=>?_⟩⟩
  .have e:dW (id,fn,pc,rg,st,ch,ph,su,fa,he,()) (op,a,b,c,obj,n,fo,ord,())=((id,fn,pc+1,rg,st,ch,ph,su,fa,he,()),true):=by simp only[dW,if_neg h,if_neg h2,if_neg h3,if_neg h45,if_pos h4,gd hd,if_pos h8]
   rw[e];exact⟨rfl,rfl⟩
  .have e:dW (id,fn,pc,rg,st,ch,ph,su,fa,he,()) (op,a,b,c,obj,n,fo,ord,())=((id,fn,n,rg,st,ch,ph,su,fa,he,()),true):=by simp only[dW,if_neg h,if_neg h2,if_neg h3,if_neg h45,if_pos h4,gd hd,if_neg h8]
   rw[e];exact⟨rfl,rfl⟩
 .have e:dW (id,fn,pc,rg,st,ch,ph,su,fa,he,()) (op,a,b,c,obj,n,fo,ord,())=((id,fn,n,rg,st,ch,ph,su,fa,he,()),true):=by simp only[dW,if_neg h,if_neg h2,if_neg h3,if_pos h5]
  rw[e];exact⟨rfl,rfl⟩
 .refine⟨hB,hB8,λd hd=>aJ.2 ⟨λh8=>?_,λh8=>?_⟩⟩
  .have e:dW (id,fn,pc,rg,st,ch,ph,su,fa,he,()) (op,a,b,c,obj,n,fo,ord,())=((id,fn,pc,rg,st,ch,ph,3,26,he,()),false):=by simp only[dW,if_neg h,if_neg h2,if_neg h3,if_neg h5,if_neg h4,gd hd];rw[if_pos ⟨h6,h8⟩]
   rw[e];exact⟨trivial,rfl,rfl⟩
  .have h67:¬op=7:=by omega
   have e:dW (id,fn,pc,rg,st,ch,ph,su,fa,he,()) (op,a,b,c,obj,n,fo,ord,())=((id,fn,pc+1,rg,st,ch,ph,su,fa,he,()),true):=by simp only[dW,if_neg h,if_neg h2,if_neg h3,if_neg h5,if_neg h4,gd hd,if_neg h67];rw[if_neg λq=>h8 q.2]
   rw[e];exact⟨rfl,rfl⟩
 .have e:dW (id,fn,pc,rg,st,ch,ph,su,fa,he,()) (op,a,b,c,obj,n,fo,ord,())=((id,fn,pc,rg,st,ch,ph,2,0,he,()),false):=by simp only[dW,if_neg h,if_neg h2,if_neg h3,if_neg h5,if_neg h4,if_pos h7];rw[if_neg λq=>h6 q.1]
  rw[e];exact⟨trivial,rfl,rfl⟩
 .have e:dW (id,fn,pc,rg,st,ch,ph,su,fa,he,()) (op,a,b,c,obj,n,fo,ord,())=((id,fn,pc+1,rg,st,ch,ph,su,fa,he,()),true):=by simp only[dW,if_neg h,if_neg h2,if_neg h3,if_neg h5,if_neg h4,if_neg h7];rw[if_neg λq=>h6 q.1]
  rw[e];exact⟨rfl,rfl⟩
theorem acp:aN aK.gd 151 aco:=
 bV (cx:=aK) (n:=87) (cl:=[(97,U4),(148,acn)]) (rc:=[.data bD,.keep]) ay ⟨Ll,OW,trivial⟩ Tryz.func151 λd hd=>by
  obtain⟨⟨id,fn,pc,rg,st,ch,ph,su,fa,he,⟨⟩⟩,⟨op,a,b,c,obj,n,fo,ord,⟨⟩⟩,⟨⟩⟩:=d;exact aI (λ_=>none) (ahh id fn pc rg st ch ph su fa he op a b c obj n fo ord hd) (by kernel_rfl)
abbrev uN:CT:={ ps:=[oQ,.int .i64],pre:=λd=>bnd (d.1,()),res:=λd=>([],.one (.c (.v (.int .i64 (bQ (aB d.1.1 d.1.2.1 d.1.2.2.1 d.1.2.2.2.1 d.1.2.2.2.2.1).1 d.2.1))))) }
theorem am7(vs:List VD) (ms cs:List ByteArray) (fs:List FD) (ts:List SD) (bound:Int) (aA:uN.pre ((vs,ms,cs,fs,ts,()),bound,())):
 let z2:=aB vs ms cs fs ts;let z1:=bQ z2.fst bound;(vs.length<=1000000/\ms.length<=1000000/\cs.length<=1000000/\fs.length<=1000000/\ts.length<=1000000/\(∀(x:ByteArray×(jT.sl.pair Sh.unit).den),x∈fs->List.length x.snd.fst<=1000000)/\(dR fs).length<=1000000)/\br (!decide (z2.fst=0)) (qI z1 (z2.fst)) (br (decide (bound < 1) || decide (32 < bound)) (qI z1 (2:Int)) (qI z1 (0:Int))):=by
 conv=>zeta
 delta qI I6;have hb:bnd ((vs,ms,cs,fs,ts,()),()):=aA;refine⟨hb,ah.2 ⟨λh=>?_,λh=>ah.2 ⟨λh2=>?_,λh2=>?_⟩⟩⟩
 .have h:(aB vs ms cs fs ts).1≠0:=by simpa using h
  unfold bQ;rw[if_pos h];exact⟨rfl,rfl⟩
 .have h:¬(aB vs ms cs fs ts).1≠0:=by simpa using h
  have h2:bound < 1\/32 < bound:=by simpa using h2
  unfold bQ;rw[if_neg h,if_pos h2];exact⟨rfl,rfl⟩
 .have h:¬(aB vs ms cs fs ts).1≠0:=by simpa using h
  have h2:¬(bound < 1\/32 < bound):=by simp only[lM,A8]at h2;omega
  unfold bQ;rw[if_neg h,if_neg h2];exact⟨rfl,rfl⟩
theorem Lr:aN aK.gd 75 uN:=
 jG (cx:=aK) (n:=23) (cl:=[(74,Jd)]) ay ⟨DZ,trivial⟩ Tryz.func75 λd hd=>by
  obtain⟨⟨vs,ms,cs,fs,ts,⟨⟩⟩,bound,⟨⟩⟩:=d;exact aI (λ_=>none) (am7 vs ms cs fs ts bound hd) (by kernel_rfl)
open Classical in
theorem kF:jd ms fs bound t=true↔bH ms fs bound t:=by
 unfold jd;rw[X8]
theorem xJ(h:¬bH ms fs bound t):jd ms fs bound t=false:=TJ.2 λq=>h (kF.1 q)
open Classical in
theorem jI:nD ms fs bound t=true↔rD ms fs bound t:=by
 unfold nD;rw[X8]
theorem GI(h:¬rD ms fs bound t):nD ms fs bound t=false:=TJ.2 λq=>h (jI.1 q)
abbrev acr:CT:={ ps:=[oQ,.int .i64,bD],pre:=λd=>True/\d.2.2.1.2.2.2.2.2.2.2.2.2.1.length<=1000000/\d.2.2.1.1<=9223372036854775807/\d.2.2.1.2.2.2.1.length=8,res:=λd=>([],vB (jd d.1.2.1 d.1.2.2.2.1 d.2.1 d.2.2.1)) }
abbrev am8(vs:List VD) (ms cs:List ByteArray) (fs:List FD) (ts:List SD) (bound id fn pc:Int) (rg:List Int) (st ch ph su fa:Int) (he:List Int):Nat->Option (St->iE):=λk=>match k with
 | 5=>some λ_=>.inv { α:=Nat,slots:=λk=>[(52,.c (.v (.int .i64 k)))],res:=λ_=>[],inv:=λk=>k<=8/\∀j < k,∀r,rg[j]?=some r->bY r=true,meas:=λk=>8 - k }
 | 13=>some λ_=>.inv { α:=Nat,slots:=λk=>[(97,.c (.v (.int .i64 k)))],res:=λ_=>[],inv:=λk=>k<=he.length/\∀j < k,∀m,he[j]?=some m->0<=m/\m < ms.length,meas:=λk=>he.length - k }
 | _=>none
theorem ahi(vs:List VD) (ms cs:List ByteArray) (fs:List FD) (ts:List SD) (bound id fn pc:Int) (rg:List Int) (st ch ph su fa:Int) (he:List Int) (aA:acr.pre ((vs,ms,cs,fs,ts,()),bound,(id,fn,pc,rg,st,ch,ph,su,fa,he,()),())):
 let z3:=!(decide (aU id < 0) || decide (fn < 0) || decide ((fs.length:Int)<=fn) || decide (pc < 0));let z7:=(id,fn,pc,rg,st,ch,ph,su,fa,he,());let z6:=jd ms fs bound z7;let z5:=qB z6 false;let z4:=λ(x:Nat)=>(x<=8/\∀(j:Nat),j < x->∀(r:Int),rg[j]?=some r->bY r=true);let z1:=[g0 (aj.blk 27 [SC.sl Gj vs,SC.sl Sh.str ms,SC.sl Sh.str cs,SC.sl CY fs,SC.sl mO ts]),g0 (aj.obj 56 bD z7)];let z10:=λ(x:Nat)=>(x:Int)+(1:Int);let z2:=λ(x:Nat)=>(x<=he.length/\∀(j:Nat),j < x->∀(m:Int),he[j]?=some m->0<=m/\m < (ms.length:Int));let z8:=decide (ph=1) || decide (ph=2);let z9:=(atR fs fn pc).fst.fst=18;id<=9223372036854775807/\(z3=true->0<=fn/\fn < (fs.length:Int))/\∀(d:ByteArray×(jT.sl.pair Sh.unit).den),(z3=true->fs[fn.toNat]?=some d)->br (decide (aU id < 0) || decide (fn < 0) || decide ((fs.length:Int)<=fn) || decide (pc < 0) || decide (((List.length d.snd.fst):Int) < pc)) z5 ((∃x,(z4 x)/\(cI 0=cI (x:Int)/\True)/\sm z1)/\∀(x:Nat),(z4 x)->br (decide ((x:Int) < (8:Int))) ((0<=(x:Int)/\(x:Int) < (rg.length:Int))/\∀(d:Int),rg[(x:Int).toNat]?=some d->True/\br (!decide (aH d=d)) z5 (iR (z10 x)/\∃x',(z4 x')/\(cI (z10 x)=cI (x':Int)/\True)/\sm z1/\8 - x' < 8 - x)) (((!(decide (st < 0) || decide (bound < st) || decide (ch < 0) || decide (7 < ch) || decide (aU id=4) && !decide (ch=0)))=true->he.length<=1000000)/\br (decide (st < 0) || decide (bound < st) || decide (ch < 0) || decide (7 < ch) || decide (aU id=4) && !decide (ch=0) || !kU he) z5 ((∃x,(z2 x)/\(cI 0=cI (x:Int)/\True)/\sm z1)/\∀(x:Nat),(z2 x)->br (decide ((x:Int) < (he.length:Int))) ((0<=(x:Int)/\(x:Int) < (he.length:Int))/\∀(d:Int),he[(x:Int).toNat]?=some d->br (decide (d < 0) || decide ((ms.length:Int)<=d)) z5 (iR (z10 x)/\∃x',(z2 x')/\(cI (z10 x)=cI (x':Int)/\True)/\sm z1/\he.length - x' < he.length - x)) (br (decide (ph=0)) (qB z6 true) ((0<=fn/\fn < (fs.length:Int)/\0<=pc)/\((z8 && (atR fs fn pc).snd && decide z9)=true->he.length<=1000000)/\qB z6 (z8 && (atR fs fn pc).snd && decide z9 && !dM he (atR fs fn pc).fst.snd.snd.snd.snd.snd.fst)))))):=by
 conv=>zeta
 delta cI g0 qB sm I6 iR;obtain⟨_,yN,hid,hrg⟩:True/\he.length<=1000000/\id<=9223372036854775807/\rg.length=8:=aA;have fF:¬bH ms fs bound (id,fn,pc,rg,st,ch,ph,su,fa,he,())->([]:List Go.jw.aj)=[]/\aW.one (SV.c (SC.v (Value.bool (jd ms fs bound (id,fn,pc,rg,st,ch,ph,su,fa,he,())))))=aW.one (SV.c (SC.v (Value.bool false))):=λq=>⟨rfl,by rw[xJ q]⟩
 refine⟨hid,λg=>by simp at g;omega,λx hx=>ah.2 ⟨λh=>?_,λh=>?_⟩⟩
 .refine fF λq=>?_
  obtain⟨q1,q2,q3,_⟩:=q;obtain⟨y,hy,ey⟩:=pq q2;have hx:=hx (by simp;omega)
  rw[hx]at hy;cases hy;rw[ey]at q3;simp at h;omega
 simp only[lM,A8]at h;obtain⟨⟨⟨⟨h1,h2⟩,h3⟩,h4⟩,h5⟩:=h;have hx:=hx (by simp;omega)
 have hfn:0<=fn/\fn < (fs.length:Int):=by omega
 obtain⟨y,hy,ey⟩:=pq hfn;rw[hx]at hy;cases hy;have hpc:0<=pc/\pc<=((codeF fs fn).length:Int):=by rw[ey];omega
 refine⟨⟨0,⟨by omega,λj hj=>by omega⟩,⟨rfl,trivial⟩,rfl⟩,λk hk=>ah.2 ⟨λh=>?_,λh=>?_⟩⟩
 .simp only[dG]at h;refine⟨by omega,λd hd=>⟨trivial,ah.2 ⟨λh6=>?_,λh6=>⟨au.2 (by omega),k+1,⟨by omega,λj hj r hr=>?_⟩,⟨rfl,trivial⟩,rfl,by omega⟩⟩⟩⟩
  .refine fF λq=>?_
   have:=q.2.2.2.1 k (by omega) d hd
   unfold bY at this;have h6:¬aH d=d:=by simpa using h6
   exact h6 (Gu.2 (by simpa using this))
  .have h6:aH d=d:=by simpa using h6
   by_cases gu:j=k
   .subst gu;have hd:rg[j]?=some d:=hd;rw[hd]at hr;cases hr;unfold bY;exact vg (Gu.1 h6)
   .exact hk.2 j (by omega) r hr
 simp only[A8]at h;have hr:∀k < 8,∀r,rg[k]?=some r->bY r=true:=λj hj r hr=>hk.2 j (by omega) r hr
 refine⟨λ_=>yN,ah.2 ⟨λh7=>?_,λh7=>?_⟩⟩
 .refine fF λq=>?_
  obtain⟨_,_,_,_,q5,q6,q7,_⟩:=q;have e:kU he=true:=vg q7;rw[e]at h7;simp at h7;omega
 simp only[lM,Yd,uP,A8,dG]at h7;obtain⟨⟨⟨⟨⟨a1,a2⟩,a3⟩,a4⟩,a5⟩,a6⟩:=h7;have hss:SS he:=MI a6;refine⟨⟨0,⟨by omega,λj hj=>by omega⟩,⟨rfl,trivial⟩,rfl⟩,λm hm=>ah.2 ⟨λh8=>?_,λh8=>?_⟩⟩
 .simp only[dG]at h8;refine⟨by omega,λd hd=>ah.2 ⟨λh9=>?_,λh9=>⟨au.2 (by omega),m+1,⟨by omega,λj hj r hr=>?_⟩,⟨rfl,trivial⟩,rfl,by omega⟩⟩⟩
  .refine fF λq=>?_
   have:=q.2.2.2.2.2.2.2.1 d (gQ hd);simp at h9;omega
  .by_cases gu:j=m
   .subst gu;have hd:he[j]?=some d:=hd;rw[hd]at hr;cases hr;simp at h9;omega
   .exact hm.2 j (by omega) r hr
 simp only[A8]at h8;have hmm:∀m∈he,0<=m/\m < (ms.length:Int):=λy hy=>by
  obtain⟨j,hj⟩:=yT hy;exact hm.2 j (by have:=(eX.1 hj).1;omega) y hj
 have base:(ph=0\/((ph=1\/ph=2)/\∃i,lS fs fn pc=some i/\i.1=18/\dM he i.2.2.2.2.2.1=false))↔bH ms fs bound (id,fn,pc,rg,st,ch,ph,su,fa,he,()):=
  ⟨λq=>⟨by omega,hfn,hpc,hr,by omega,⟨by omega,by omega,λe=>by omega⟩,hss,hmm,q⟩,λq=>q.2.2.2.2.2.2.2.2⟩
 have fB:∀b:Bool,(b=true↔(ph=0\/((ph=1\/ph=2)/\∃i,lS fs fn pc=some i/\i.1=18/\dM he i.2.2.2.2.2.1=false)))->aW.one (SV.c (SC.v (Value.bool (jd ms fs bound (id,fn,pc,rg,st,ch,ph,su,fa,he,())))))=aW.one (SV.c (SC.v (Value.bool b))):=λb hb=>by
  have:jd ms fs bound (id,fn,pc,rg,st,ch,ph,su,fa,he,())=b:=by
   rw[Et,hb,base,kF]
  rw[this]
 refine ah.2 ⟨λh9=>⟨rfl,fB _ ?_⟩,λh9=>⟨⟨hfn.1,hfn.2,hpc.1⟩,λ_=>yN,rfl,fB _ ?_⟩⟩
 .simp at h9;simp[h9]
 .simp at h9;cases ha:lS fs fn pc with
  | none=>rw[show atR fs fn pc=((0,0,0,0,0,0,0,0,()),false) by unfold atR;rw[ha]];simp[h9]
  | some i=>rw[show atR fs fn pc=(i,true) by unfold atR;rw[ha]];simp[h9,and_assoc]
theorem acs:aN aK.gd 167 acr:=
 bV (cx:=aK) (n:=144) (cl:=[(76,OV),(77,Gx),(192,ctV),(95,Sv),(165,I9)]) (rc:=[]) ay ⟨Lp,D7,OQ,Aq,Ad,trivial⟩ Tryz.func167 λd hd=>by
  obtain⟨⟨vs,ms,cs,fs,ts,⟨⟩⟩,bound,⟨id,fn,pc,rg,st,ch,ph,su,fa,he,⟨⟩⟩,⟨⟩⟩:=d;exact aI (am8 vs ms cs fs ts bound id fn pc rg st ch ph su fa he) (ahi vs ms cs fs ts bound id fn pc rg st ch ph su fa he hd) (by kernel_rfl)
abbrev Ls:CT:={ ps:=[oQ,.int .i64,bD],pre:=λd=>(aB d.1.1 d.1.2.1 d.1.2.2.1 d.1.2.2.2.1 d.1.2.2.2.2.1).1=0/\d.2.2.1.2.2.2.2.2.2.2.2.2.1.length<=1000000/\d.2.2.1.1<=9223372036854775807/\d.2.2.1.2.2.2.1.length=8,res:=λd=>([],vB (nD d.1.2.1 d.1.2.2.2.1 d.2.1 d.2.2.1)) }
theorem ahj(vs:List VD) (ms cs:List ByteArray) (fs:List FD) (ts:List SD) (bound id fn pc:Int) (rg:List Int) (st ch ph su fa:Int) (he:List Int) (aA:Ls.pre ((vs,ms,cs,fs,ts,()),bound,(id,fn,pc,rg,st,ch,ph,su,fa,he,()),())):
 let z5:=(id,fn,pc,rg,st,ch,ph,su,fa,he,());let z4:=nD ms fs bound z5;let z3:=qB z4 false;let z2:=((!(!decide (fa=0) || !(atR fs fn pc).snd))=true->True)/\((!(!decide (fa=0) || !(atR fs fn pc).snd || !jm (atR fs fn pc).fst.fst))=true->he.length<=1000000/\id<=9223372036854775807)/\br (!decide (fa=0) || !(atR fs fn pc).snd || !jm (atR fs fn pc).fst.fst || !decide (iW id ch ph he (atR fs fn pc).fst=0)) z3 (qB z4 (decide (su=1) && decide (st < bound) || decide (su=4) && decide (1<=st)));let z6:=(atR fs fn pc).fst.fst=6;let z1:=br (decide (su=2)) (qB z4 (decide (fa=0) && decide (ph=0) && (!(atR fs fn pc).snd || decide ((atR fs fn pc).fst.fst=7)))) (br (decide (su=3)) (br (!decide (ph=0) || !(atR fs fn pc).snd) z3 (br (decide (fa=26)) ((decide z6=true->0<=(atR fs fn pc).fst.snd.snd.fst/\(atR fs fn pc).fst.snd.snd.fst < 8)/\(decide z6=true->(atR fs fn pc).fst.snd.snd.fst.toNat < 8)/\∀(d:Int),(decide z6=true->rg[(atR fs fn pc).fst.snd.snd.fst.toNat]?=some d)->qB z4 (decide z6 && decide (d=0))) (br (decide (fa=29)) (True/\qB z4 (!jm (atR fs fn pc).fst.fst)) (((!decide (fa=0))=true->he.length<=1000000/\id<=9223372036854775807)/\qB z4 (!decide (fa=0) && decide (iW id ch ph he (atR fs fn pc).fst=fa)))))) z3);(True/\he.length<=1000000/\id<=9223372036854775807/\rg.length=8)/\br (!jd ms fs bound z5) z3 ((0<=fn/\fn < (fs.length:Int)/\0<=pc)/\br (decide (su=1)) (br (decide (su=1)) z2 z1) (br (decide (su=4)) z2 z1)):=by
 conv=>zeta
 delta qB;obtain⟨hc,yN,hid,hrg⟩:(aB vs ms cs fs ts).1=0/\he.length<=1000000/\id<=9223372036854775807/\rg.length=8:=aA;refine⟨⟨trivial,yN,hid,hrg⟩,ah.2 ⟨λh=>⟨rfl,?_⟩,λh=>?_⟩⟩
 .have:nD ms fs bound (id,fn,pc,rg,st,ch,ph,su,fa,he,())=false:=GI λq=>by
   have e:=kF.2 q.1;rw[e]at h;cases h
  rw[this]
 have hF:bH ms fs bound (id,fn,pc,rg,st,ch,ph,su,fa,he,()):=by
  have e:jd ms fs bound (id,fn,pc,rg,st,ch,ph,su,fa,he,())=true:=by simpa using h
  exact kF.1 e
 have hfn:=hF.2.1;refine⟨⟨hfn.1,hfn.2,hF.2.2.1.1⟩,?_⟩;have W:∀b:Bool,(b=true↔(((su=1/\st < bound\/su=4/\1<=st)/\fa=0/\∃i,lS fs fn pc=some i/\jm i.1=true/\iW id ch ph he i=0) \/
  (su=2/\fa=0/\ph=0/\∀i,lS fs fn pc=some i->i.1=7) \/
  (su=3/\ph=0/\∃i,lS fs fn pc=some i/\(fa=26/\i.1=6/\rg.getD i.2.2.1.toNat 0=0\/fa=29/\jm i.1=false\/fa≠26/\fa≠29/\fa≠0/\iW id ch ph he i=fa)))) ->
   aW.one (SV.c (SC.v (Value.bool (nD ms fs bound (id,fn,pc,rg,st,ch,ph,su,fa,he,())))))=aW.one (SV.c (SC.v (Value.bool b))):=λb hb=>by
  have:nD ms fs bound (id,fn,pc,rg,st,ch,ph,su,fa,he,())=b:=by
   rw[Et,hb,jI];exact⟨λq=>q.2,λq=>⟨hF,q⟩⟩
  rw[this]
 cases ha:lS fs fn pc with
 | none=>
   rw[show atR fs fn pc=((0,0,0,0,0,0,0,0,()),false) by unfold atR;rw[ha]]
   simp only[ah,ha]at W ⊢
   repeat' (first | exact yN | exact hid | (refine And.intro ?_ ?_) | (intro _))
   all_goals first | rfl | trivial | exact yN | exact hid | (refine W _ ?_;simp_all;done) | (simp_all;done)
 | some i=>
   rw[show atR fs fn pc=(i,true) by unfold atR;rw[ha]]
   obtain⟨r1,r2,r3,r4⟩:=kP (nH (xI hc hfn ha)).1;have rb8:i.2.2.1.toNat < 8:=by omega
   have gd:∀{x d:Int},rg[x.toNat]?=some d->rg.getD x.toNat 0=d:=λhd=>by rw[Il,hd];rfl
   simp only[ah,ha]at W ⊢
   repeat' (first | exact yN | exact hid | exact r2.1 | exact r2.2 | exact rb8 | (refine And.intro ?_ ?_) | (intro _))
   all_goals first | rfl | trivial | exact yN | exact hid | exact r2.1 | exact r2.2 | exact rb8 | (refine W _ ?_;simp_all;done) | (refine W _ ?_;clear W;simp_all;grind) | skip
theorem OY:aN aK.gd 108 Ls:=
 bV (cx:=aK) (n:=123) (cl:=[(167,acr),(95,Sv),(149,acf),(150,U7)]) (rc:=[]) ay ⟨acs,Aq,OO,OX,trivial⟩ Tryz.func108 λd hd=>by
  obtain⟨⟨vs,ms,cs,fs,ts,⟨⟩⟩,bound,⟨id,fn,pc,rg,st,ch,ph,su,fa,he,⟨⟩⟩,⟨⟩⟩:=d;exact aI (λ_=>none) (ahj vs ms cs fs ts bound id fn pc rg st ch ph su fa he hd) (by kernel_rfl)
theorem acu(h:(Gm vs ms cs fs).1=0):dU fs < 0:=by
 unfold Gm at h;split at h
 .rename_i d hd;have hp:=Qk hd;split at h
  .cases h
  .rename_i h1;simp only[wX,dG]at hp;rcases hp with hp | hp
   .exact absurd hp h1
   .exact absurd h hp
 .split at h
  .cases h
  .omega
theorem acv(h:dU fs < 0):∀f∈fs,f.2.1.length<=64:=by
 unfold dU at h;split at h
 .omega
 .rename_i hn;rw[A76]at hn;intro f hf;simpa using hn f hf
theorem uq(h:(aB vs ms cs fs ts).1=0){fn:Int} (hf:0<=fn/\fn < fs.length):(codeF fs fn).length<=64:=by
 obtain⟨x,hx,ex⟩:=pq hf;rw[ex];exact acv (acu (nU h).2.1) x (gQ hx)
theorem OZ{fn:Int} (h:lS fs fn pc=none) (k:Nat):eG fs bound k (id,fn,pc,rg,st,ch,ph,su,fa,he,u)=(id,fn,pc,rg,st,ch,ph,2,0,he,()):=by
 cases k<;>(rw[eG];unfold topS;simp only[h])
theorem U8{fn:Int} (h:lS fs fn pc=some i) (hv:jm i.1=true) (k:Nat):eG fs bound k (id,fn,pc,rg,st,ch,ph,su,fa,he,u) =
 if iW id ch ph he i≠0 then(id,fn,pc,rg,st,ch,ph,3,iW id ch ph he i,he,()) else if st=bound then(id,fn,pc,rg,st,ch,ph,4,0,he,()) else(id,fn,pc,rg,st,ch,ph,su,fa,he,()):=by
 cases k<;>(rw[eG];unfold topS;simp only[h];rw[if_pos hv])
theorem O1{fn:Int} (h:lS fs fn pc=some i) (hv:jm i.1=false):eG fs bound 0 (id,fn,pc,rg,st,ch,ph,su,fa,he,u)=(id,fn,pc,rg,st,ch,ph,3,29,he,()):=by
 rw[eG];unfold topS;simp only[h];rw[if_neg (by rw[hv];simp)];rfl
theorem O4{fn:Int} (h:lS fs fn pc=some i) (hv:jm i.1=false) (k:Nat):eG fs bound (k+1) (id,fn,pc,rg,st,ch,ph,su,fa,he,u) =
 if(dW (id,fn,pc,rg,st,ch,ph,su,fa,he,u) i).2=true then eG fs bound k (dW (id,fn,pc,rg,st,ch,ph,su,fa,he,u) i).1 else(dW (id,fn,pc,rg,st,ch,ph,su,fa,he,u) i).1:=by
 rw[eG];unfold topS;simp only[h];rw[if_neg (by rw[hv];simp)]
theorem D8(t:TD) (i:ID):(dW t i).1.2.2.2.1.length=t.2.2.2.1.length:=by
 obtain⟨id,fn,pc,rg,st,ch,ph,su,fa,hd,u⟩:=t;obtain⟨op,a,b,c,obj,n,f,ord,u2⟩:=i;unfold dW;simp only
 repeat' split
 all_goals simp
abbrev U9:CT:={ ps:=[oQ,.int .i64,bD],pre:=λd=>(aB d.1.1 d.1.2.1 d.1.2.2.1 d.1.2.2.2.1 d.1.2.2.2.2.1).1=0/\bH d.1.2.1 d.1.2.2.2.1 d.2.1 d.2.2.1/\d.2.2.1.2.2.2.2.2.2.2.2.2.1.length<=1000000/\d.2.2.1.1<=9223372036854775807/\d.2.2.1.2.2.2.1.length=8,res:=λd=>([],.one (.dat bD (eG d.1.2.2.2.1 d.2.1 256 d.2.2.1))) }
abbrev aqw(vs:List VD) (ms cs:List ByteArray) (fs:List FD) (ts:List SD) (bound id fn pc:Int) (rg:List Int) (st ch ph su fa:Int) (he:List Int):Nat->Option (St->iE):=λk=>match k with
 | 4=>some λ_=>.inv { α:=Nat×TD,slots:=λx=>[(7,.c (.v (.int .i64 x.1)))],res:=λx=>[(1,.obj 56 bD x.2)],inv:=λx=>x.1<=256/\bH ms fs bound x.2/\x.2.2.2.2.2.2.2.2.2.2.1=he/\x.2.1=id/\x.2.2.2.2.1.length=8/\eG fs bound (256 - x.1) x.2=eG fs bound 256 (id,fn,pc,rg,st,ch,ph,su,fa,he,()),meas:=λx=>257 - x.1 }
 | _=>none
theorem am9(vs:List VD) (ms cs:List ByteArray) (fs:List FD) (ts:List SD) (bound id fn pc:Int) (rg:List Int) (st ch ph su fa:Int) (he:List Int) (aA:U9.pre ((vs,ms,cs,fs,ts,()),bound,(id,fn,pc,rg,st,ch,ph,su,fa,he,()),())):
 let z7:=(id,fn,pc,rg,st,ch,ph,su,fa,he,());let z2:=λ(x:Nat×TD)=>x.fst<=256/\bH ms fs bound x.snd/\x.snd.snd.snd.snd.snd.snd.snd.snd.snd.snd.fst=he/\x.snd.fst=id/\x.snd.snd.snd.snd.fst.length=8/\eG fs bound (256 - x.fst) x.snd=eG fs bound 256 z7;let z3:=[SC.sl Gj vs,SC.sl Sh.str ms,SC.sl Sh.str cs,SC.sl CY fs,SC.sl mO ts];let z1:=λ(x:Nat×TD)=>[g0 (aj.blk 27 z3),g0 (aj.obj 56 bD x.snd),g0 (aj.obj 56 bD ((0:Int),(0:Int),(0:Int),List.replicate 8 (0:Int),(0:Int),(0:Int),(0:Int),(0:Int),(0:Int),[],())),g0 aj.gone];let z8:=λ(x:Nat×TD)=>atR fs x.snd.snd.fst x.snd.snd.snd.fst;let z5:=eG fs bound 256 z7;let z9:=aW.one (SV.dat bD z5);let z6:=λ(x:Nat×TD)=>dW x.snd (z8 x).fst;let z4:=λ(x:Nat×TD)=>(z6 x).fst;he.length<=1000000/\(∃(x:Nat×TD),(z2 x)/\(cI 0=cI (x.fst:Int)/\True)/\[g0 (aj.blk 27 z3),g0 (aj.obj 56 bD z7),g0 (aj.obj 56 bD ((0:Int),(0:Int),(0:Int),List.replicate 8 (0:Int),(0:Int),(0:Int),(0:Int),(0:Int),(0:Int),[],())),g0 aj.gone]=(z1 x))/\∀(x:Nat×TD),x.fst<=256/\bH ms fs bound x.snd/\x.snd.snd.snd.snd.snd.snd.snd.snd.snd.snd.fst=he/\x.snd.fst=id/\x.snd.snd.snd.snd.fst.length=8/\eG fs bound (256 - x.fst) x.snd=eG fs bound 256 z7->(0<=x.snd.snd.fst/\x.snd.snd.fst < (fs.length:Int)/\0<=x.snd.snd.snd.fst)/\br (!(z8 x).snd) (True/\rE z9 (aW.one (SV.dat bD (Aj x.snd (2:Int) (0:Int))))) (True/\br (jm (z8 x).fst.fst) ((List.length x.snd.snd.snd.snd.snd.snd.snd.snd.snd.snd.fst<=1000000/\x.snd.fst<=9223372036854775807)/\br (!decide (iW x.snd.fst x.snd.snd.snd.snd.snd.snd.fst x.snd.snd.snd.snd.snd.snd.snd.fst x.snd.snd.snd.snd.snd.snd.snd.snd.snd.snd.fst (z8 x).fst=0)) (True/\rE z9 (aW.one (SV.dat bD (Aj x.snd (3:Int) (iW x.snd.fst x.snd.snd.snd.snd.snd.snd.fst x.snd.snd.snd.snd.snd.snd.snd.fst x.snd.snd.snd.snd.snd.snd.snd.snd.snd.snd.fst (z8 x).fst))))) (br (decide (x.snd.snd.snd.snd.snd.fst=bound)) (True/\rE z9 (aW.one (SV.dat bD (Aj x.snd (4:Int) (0:Int))))) (rE z9 (aW.one (SV.dat bD (x.snd)))))) (br (decide ((x.fst:Int)=(256:Int))) (True/\rE z9 (aW.one (SV.dat bD (Aj x.snd (3:Int) (29:Int))))) (((0<=(z8 x).fst.snd.fst/\(z8 x).fst.snd.fst < 8)/\(0<=(z8 x).fst.snd.snd.fst/\(z8 x).fst.snd.snd.fst < 8)/\(0<=(z8 x).fst.snd.snd.snd.fst/\(z8 x).fst.snd.snd.snd.fst < 8)/\0<=x.snd.snd.snd.fst/\x.snd.snd.snd.fst<=1000000)/\br (!(z6 x).snd) (rE z9 (aW.one (SV.dat bD (z4 x)))) (iR ((x.fst:Int)+(1:Int))/\∃(x':Nat×TD),(z2 x')/\(cI ((x.fst:Int)+(1:Int))=cI (x'.fst:Int)/\True)/\[g0 (aj.blk 27 z3),g0 (aj.obj 56 bD (z4 x)),g0 (aj.obj 56 bD ((0:Int),(0:Int),(0:Int),List.replicate 8 (0:Int),(0:Int),(0:Int),(0:Int),(0:Int),(0:Int),[],())),g0 aj.gone]=(z1 x')/\257 - x'.fst < 257 - x.fst)))):=by
 conv=>zeta
 delta cI g0 rE I6 iR;obtain⟨hc,hF,yN,hid,hrg⟩:(aB vs ms cs fs ts).1=0/\bH ms fs bound (id,fn,pc,rg,st,ch,ph,su,fa,he,())/\he.length<=1000000/\id<=9223372036854775807/\rg.length=8:=aA;refine⟨yN,⟨(0,(id,fn,pc,rg,st,ch,ph,su,fa,he,())),⟨by omega,hF,rfl,rfl,hrg,rfl⟩,⟨rfl,trivial⟩,rfl⟩,λx hx=>?_⟩
 obtain⟨k,id',fn',pc',D6,st',ch',Ji,OL,U0,he',⟨⟩⟩:=x;obtain⟨x1,x2,x3,x4,x5,x6⟩:=hx;have x1:k<=256:=x1;have x3:he'=he:=x3;have x4:id'=id:=x4;have x5:D6.length=8:=x5;have x6:eG fs bound (256 - k) (id',fn',pc',D6,st',ch',Ji,OL,U0,he',())=eG fs bound 256 (id,fn,pc,rg,st,ch,ph,su,fa,he,()):=x6;have x2:bH ms fs bound (id',fn',pc',D6,st',ch',Ji,OL,U0,he',()):=x2;subst x3;subst x4;rw[<-x6];have hfn:=x2.2.1;have hpc:=x2.2.2.1;refine⟨⟨hfn.1,hfn.2,hpc.1⟩,?_⟩;show br (!(atR fs fn' pc').2) _ _;cases ha:lS fs fn' pc' with
 | none=>
   rw[show atR fs fn' pc'=((0,0,0,0,0,0,0,0,()),false) by unfold atR;rw[ha]]
   refine ah.2 ⟨λ_=>⟨trivial,rfl,?_⟩,λq=>by simp at q⟩
   rw[OZ ha];rfl
 | some i=>
   rw[show atR fs fn' pc'=(i,true) by unfold atR;rw[ha]]
   obtain⟨r1,r2,r3,r4⟩:=kP (nH (xI hc hfn ha)).1;have h64:=uq hc hfn;refine ah.2 ⟨λq=>by simp at q,λ_=>⟨trivial,ah.2 ⟨λhv=>?_,λhv=>?_⟩⟩⟩
   .have hv:jm i.1=true:=hv;rw[U8 ha hv];refine⟨⟨yN,hid⟩,ah.2 ⟨λh1=>?_,λh1=>ah.2 ⟨λh2=>?_,λh2=>?_⟩⟩⟩
    .have h1:iW id' ch' Ji he' i≠0:=by simpa using h1
     rw[if_pos h1];exact⟨trivial,rfl,rfl⟩
    .have h1:¬iW id' ch' Ji he' i≠0:=by simpa using h1
     have h2:st'=bound:=by simpa using h2
     rw[if_neg h1,if_pos h2];exact⟨trivial,rfl,rfl⟩
    .have h1:¬iW id' ch' Ji he' i≠0:=by simpa using h1
     have h2:¬st'=bound:=by simpa using h2
     rw[if_neg h1,if_neg h2];exact⟨rfl,rfl⟩
   .have hv:jm i.1=false:=hv;refine ah.2 ⟨λh1=>?_,λh1=>?_⟩
    .have h1:k=256:=by
      have:(k:Int)=256:=by simpa using h1
      omega
     rw[h1,show 256 - 256=0 from rfl,O1 ha hv]
     exact⟨trivial,rfl,rfl⟩
    .have h1:¬k=256:=by
      have:¬(k:Int)=256:=by simpa using h1
      omega
     obtain⟨m,hm⟩:∃m,256 - k=m+1:=⟨255 - k,by omega⟩
     rw[hm,O4 ha hv];have hk:=Am (id',fn',pc',D6,st',ch',Ji,OL,U0,he',()) i;have hlen:=D8 (id',fn',pc',D6,st',ch',Ji,OL,U0,he',()) i;have hfo:=yH hc x2 ha hv;refine⟨⟨r1,r2,r3,hpc.1,show pc'<=1000000 by omega⟩,ah.2 ⟨λh2=>?_,λh2=>⟨au.2 (show(-9223372036854775808:Int)<=(k:Int)+1/\(k:Int)+1<=9223372036854775807 by omega),(k+1,(dW (id',fn',pc',D6,st',ch',Ji,OL,U0,he',()) i).1),⟨show k+1<=256 by omega,hfo,hk.2.2.2.2.2.1,hk.1,hlen.trans x5,?_⟩,⟨rfl,trivial⟩,rfl,show 257 - (k+1) < 257 - k by omega⟩⟩⟩
     .have h2:¬(dW (id',fn',pc',D6,st',ch',Ji,OL,U0,he',()) i).2=true:=by simpa using h2
      rw[if_neg h2];exact⟨rfl,rfl⟩
     .have h2:(dW (id',fn',pc',D6,st',ch',Ji,OL,U0,he',()) i).2=true:=by simpa using h2
      show eG fs bound (256 - (k+1)) _=_;rw[if_pos h2,show 256 - (k+1)=m by omega]
theorem Va:aN aK.gd 78 U9:=
 bV (cx:=aK) (n:=59) (cl:=[(58,wQ),(95,Sv),(148,acn),(149,acf),(150,U7),(151,aco)]) (rc:=[.data bD]) ay ⟨DU,Aq,OW,OO,OX,acp,trivial⟩ Tryz.func78 λd hd=>by
  obtain⟨⟨vs,ms,cs,fs,ts,⟨⟩⟩,bound,⟨id,fn,pc,rg,st,ch,ph,su,fa,he,⟨⟩⟩,⟨⟩⟩:=d;exact aI (aqw vs ms cs fs ts bound id fn pc rg st ch ph su fa he) (am9 vs ms cs fs ts bound id fn pc rg st ch ph su fa he hd) (by kernel_rfl)
theorem val_wrap(n:Int):bY n=decide (aH n=n):=by
 unfold bY;rw[Et,X8,X8,Gu]
theorem acw(h:AX vs ms cs fs=0):ms.length<=4:=by
 unfold AX at h;split at h
 .cases h
 .omega
theorem mF(h:bH ms fs bound t) (hm:ms.length<=4):t.2.2.2.2.2.2.2.2.2.1.length<=4:=by
 obtain⟨id,fn,pc,rg,st,ch,ph,su,fa,he,u⟩:=t;exact oh (abP h.2.2.2.2.2.2.1 h.2.2.2.2.2.2.2.1) hm
theorem Jj(h:bH ms fs bound t):t.1<=9223372036854775807:=by
 obtain⟨id,fn,pc,rg,st,ch,ph,su,fa,he,u⟩:=t;have:=nC h.1;show id<=9223372036854775807;omega
theorem Lu(t:TD) (i:ID) (r:Int):(jU t i r).2.2.2.1.length=t.2.2.2.1.length:=by
 obtain⟨id,fn,pc,rg,st,ch,ph,su,fa,hd,u⟩:=t;have e:(if(jo i).2=true then rg.set (jo i).1.toNat r else rg).length=rg.length:=by split<;>simp
 unfold jU;simp only;split
 .split
  .exact e
  split
  .exact e
  .exact e
 .exact e
theorem O5(h:sQ i=0) (hd:(jo i).2=true):0<=(jo i).1/\(jo i).1 < 8:=by
 obtain⟨r1,_⟩:=kP h;unfold jo at hd ⊢;split at hd
 .cases hd
 .rename_i q;rw[if_neg q];exact r1
abbrev Vb:CT:={ ps:=[oQ,.int .i64,.int .i64,.int .i64,.int .i64],pre:=λd=>bnd (d.1,())/\d.2.2.1<=9223372036854775807,res:=λd=>([],.gY [.dat bD (newS (aB d.1.1 d.1.2.1 d.1.2.2.1 d.1.2.2.2.1 d.1.2.2.2.2.1).1 d.1.2.2.2.1 d.2.1 d.2.2.1 d.2.2.2.1 d.2.2.2.2.1).1,.c (.v (.int .i64 (newS (aB d.1.1 d.1.2.1 d.1.2.2.1 d.1.2.2.2.1 d.1.2.2.2.2.1).1 d.1.2.2.2.1 d.2.1 d.2.2.1 d.2.2.2.1 d.2.2.2.2.1).2))]) }
abbrev kq4:=[SV.dat bD (((0:Int),(0:Int),(0:Int),[(0:Int),(0:Int),(0:Int),(0:Int),(0:Int),(0:Int),(0:Int),(0:Int)],(0:Int),(0:Int),(0:Int),(0:Int),(0:Int),[],())),cI 2]
abbrev P9:=[(0:Int),(0:Int),(0:Int),(0:Int),(0:Int),(0:Int),(0:Int),(0:Int)]
abbrev kq1:=[SV.dat bD (((0:Int),(0:Int),(0:Int),[(0:Int),(0:Int),(0:Int),(0:Int),(0:Int),(0:Int),(0:Int),(0:Int)],(0:Int),(0:Int),(0:Int),(0:Int),(0:Int),[],())),cI 11]
theorem ana(vs:List VD) (ms cs:List ByteArray) (fs:List FD) (ts:List SD) (bound id fn arg:Int) (aA:Vb.pre ((vs,ms,cs,fs,ts,()),bound,id,fn,arg,())):
 let z4:=aB vs ms cs fs ts;let z3:=newS z4.fst fs bound id fn arg;let z2:=[SV.dat bD z3.fst,cI (z3.snd)];let z1:=rT z2 kq4;(vs.length<=1000000/\ms.length<=1000000/\cs.length<=1000000/\fs.length<=1000000/\ts.length<=1000000/\(∀(x:ByteArray×(jT.sl.pair Sh.unit).den),x∈fs->List.length x.snd.fst<=1000000)/\(dR fs).length<=1000000)/\br (!decide (bQ z4.fst bound=0)) (rT z2 [SV.dat bD (((0:Int),(0:Int),(0:Int),P9,(0:Int),(0:Int),(0:Int),(0:Int),(0:Int),[],())),cI (bQ z4.fst bound)]) (id<=9223372036854775807/\br (decide (aU id < 0)) z1 (br (decide (fn < 0) || decide ((fs.length:Int)<=fn)) (rT z2 kq1) (True/\br (!decide (aH arg=arg)) z1 (((0:Int)<=(0:Int)/\(0:Int) < (8:Int))/\0 < 8/\(z4.fst=0/\bH ms fs bound (id,fn,(0:Int),P9.set 0 arg,(0:Int),(0:Int),(0:Int),(1:Int),(0:Int),[],())/\0<=1000000/\id<=9223372036854775807/\(P9.set 0 arg).length=8)/\rT z2 [SV.dat bD (eG fs bound 256 (id,fn,(0:Int),P9.set 0 arg,(0:Int),(0:Int),(0:Int),(1:Int),(0:Int),[],())),cI 0])))):=by
 conv=>zeta
 delta kq4 P9 kq1 cI rT I6;obtain⟨hb,hid⟩:bnd ((vs,ms,cs,fs,ts,()),())/\id<=9223372036854775807:=aA;refine⟨hb,ah.2 ⟨λh=>?_,λh=>⟨hid,ah.2 ⟨λh2=>?_,λh2=>ah.2 ⟨λh3=>?_,λh3=>⟨trivial,ah.2 ⟨λh4=>?_,λh4=>?_⟩⟩⟩⟩⟩⟩⟩
 .have h:bQ (aB vs ms cs fs ts).1 bound≠0:=by simpa using h
  have e:newS (aB vs ms cs fs ts).1 fs bound id fn arg=(zT,bQ (aB vs ms cs fs ts).1 bound):=by unfold newS;rw[if_pos h]
  rw[e];exact⟨rfl,rfl⟩
 all_goals have h:¬bQ (aB vs ms cs fs ts).1 bound≠0:=by simpa using h
 .have h2:aU id < 0:=by simpa using h2
  have e:newS (aB vs ms cs fs ts).1 fs bound id fn arg=(zT,2):=by unfold newS;rw[if_neg h,if_pos h2]
  rw[e];exact⟨rfl,rfl⟩
 all_goals have h2:¬aU id < 0:=by simpa using h2
 .have h3:fn < 0\/(fs.length:Int)<=fn:=by simpa using h3
  have e:newS (aB vs ms cs fs ts).1 fs bound id fn arg=(zT,11):=by unfold newS;rw[if_neg h,if_neg h2,if_pos h3]
  rw[e];exact⟨rfl,rfl⟩
 all_goals have h3:¬(fn < 0\/(fs.length:Int)<=fn):=by simp only[lM,A8]at h3;omega
 .have h4:bY arg=false:=by rw[val_wrap];simpa using h4
  have e:newS (aB vs ms cs fs ts).1 fs bound id fn arg=(zT,2):=by unfold newS;rw[if_neg h,if_neg h2,if_neg h3,if_pos h4]
  rw[e];exact⟨rfl,rfl⟩
 .have h4:¬bY arg=false:=by rw[val_wrap];simpa using h4
  have e:newS (aB vs ms cs fs ts).1 fs bound id fn arg=(eG fs bound 256 (id,fn,0,[arg,0,0,0,0,0,0,0],0,0,0,1,0,[],()),0):=by unfold newS;rw[if_neg h,if_neg h2,if_neg h3,if_neg h4]
  have hs:=fO.1 (Hg.1 h);rw[e];exact⟨⟨by omega,by omega⟩,by omega,⟨hs.1,yM ms hs.2.1 h2 h3 h4,by omega,hid,rfl⟩,rfl,rfl⟩
theorem Vd:aN aK.gd 34 Vb:=
 bV (cx:=aK) (n:=50) (cl:=[(75,uN),(76,OV),(77,Gx),(78,U9)]) (rc:=[.data bD,.keep]) ay ⟨Lr,Lp,D7,Va,trivial⟩ Tryz.func34 λd hd=>by
  obtain⟨⟨vs,ms,cs,fs,ts,⟨⟩⟩,bound,id,fn,arg,⟨⟩⟩:=d;exact aI (λ_=>none) (ana vs ms cs fs ts bound id fn arg hd) (by kernel_rfl)
abbrev ahk:CT:={ ps:=[oQ,.int .i64,bD],pre:=λd=>bnd (d.1,())/\d.2.2.1.2.2.2.2.2.2.2.2.2.1.length<=1000000/\d.2.2.1.1<=9223372036854775807/\d.2.2.1.2.2.2.1.length=8,res:=λd=>([],vB (decide (bQ (aB d.1.1 d.1.2.1 d.1.2.2.1 d.1.2.2.2.1 d.1.2.2.2.2.1).1 d.2.1=0) && nD d.1.2.1 d.1.2.2.2.1 d.2.1 d.2.2.1)) }
theorem anb(vs:List VD) (ms cs:List ByteArray) (fs:List FD) (ts:List SD) (bound id fn pc:Int) (rg:List Int) (st ch ph su fa:Int) (he:List Int) (aA:ahk.pre ((vs,ms,cs,fs,ts,()),bound,(id,fn,pc,rg,st,ch,ph,su,fa,he,()),())):
 let z2:=bQ (aB vs ms cs fs ts).fst bound=0;let z1:=decide z2 && nD ms fs bound (id,fn,pc,rg,st,ch,ph,su,fa,he,());(vs.length<=1000000/\ms.length<=1000000/\cs.length<=1000000/\fs.length<=1000000/\ts.length<=1000000/\(∀(x:ByteArray×(jT.sl.pair Sh.unit).den),x∈fs->List.length x.snd.fst<=1000000)/\(dR fs).length<=1000000)/\(decide z2=true->(aB vs ms cs fs ts).fst=0/\he.length<=1000000/\id<=9223372036854775807/\rg.length=8)/\qB z1 z1:=by
 conv=>zeta
 delta qB I6;obtain⟨hb,yN,hid,hrg⟩:bnd ((vs,ms,cs,fs,ts,()),())/\he.length<=1000000/\id<=9223372036854775807/\rg.length=8:=aA;exact⟨hb,λh=>⟨(fO.1 (MI h)).1,yN,hid,hrg⟩,rfl,rfl⟩
theorem Ve:aN aK.gd 85 ahk:=
 bV (cx:=aK) (n:=17) (cl:=[(75,uN),(108,Ls)]) (rc:=[]) ay ⟨Lr,OY,trivial⟩ Tryz.func85 λd hd=>by
  obtain⟨⟨vs,ms,cs,fs,ts,⟨⟩⟩,bound,⟨id,fn,pc,rg,st,ch,ph,su,fa,he,⟨⟩⟩,⟨⟩⟩:=d;exact aI (λ_=>none) (anb vs ms cs fs ts bound id fn pc rg st ch ph su fa he hd) (by kernel_rfl)
abbrev Vf:CT:={ ps:=[oQ,bD],pre:=λd=>bnd (d.1,())/\d.2.1.2.2.2.2.2.2.2.2.2.1.length<=1000000/\d.2.1.1<=9223372036854775807/\d.2.1.2.2.2.1.length=8,res:=λd=>([],.gY [.agg [.v (.int .i64 ((iM (aB d.1.1 d.1.2.1 d.1.2.2.1 d.1.2.2.2.1 d.1.2.2.2.2.1).1 d.1.2.1 d.1.2.2.2.1 d.2.1).1).1),.v (.int .i64 ((iM (aB d.1.1 d.1.2.1 d.1.2.2.1 d.1.2.2.2.1 d.1.2.2.2.2.1).1 d.1.2.1 d.1.2.2.2.1 d.2.1).1).2.1),.v (.int .i64 ((iM (aB d.1.1 d.1.2.1 d.1.2.2.1 d.1.2.2.2.1 d.1.2.2.2.2.1).1 d.1.2.1 d.1.2.2.2.1 d.2.1).1).2.2.1),.v (.int .i64 ((iM (aB d.1.1 d.1.2.1 d.1.2.2.1 d.1.2.2.2.1 d.1.2.2.2.2.1).1 d.1.2.1 d.1.2.2.2.1 d.2.1).1).2.2.2.1),.v (.int .i64 ((iM (aB d.1.1 d.1.2.1 d.1.2.2.1 d.1.2.2.2.1 d.1.2.2.2.2.1).1 d.1.2.1 d.1.2.2.2.1 d.2.1).1).2.2.2.2.1),.v (.int .i64 ((iM (aB d.1.1 d.1.2.1 d.1.2.2.1 d.1.2.2.2.1 d.1.2.2.2.2.1).1 d.1.2.1 d.1.2.2.2.1 d.2.1).1).2.2.2.2.2.1),.v (.int .i64 ((iM (aB d.1.1 d.1.2.1 d.1.2.2.1 d.1.2.2.2.1 d.1.2.2.2.2.1).1 d.1.2.1 d.1.2.2.2.1 d.2.1).1).2.2.2.2.2.2.1),.v (.int .i64 ((iM (aB d.1.1 d.1.2.1 d.1.2.2.1 d.1.2.2.2.1 d.1.2.2.2.2.1).1 d.1.2.1 d.1.2.2.2.1 d.2.1).1).2.2.2.2.2.2.2.1)],.c (.v (.bool (iM (aB d.1.1 d.1.2.1 d.1.2.2.1 d.1.2.2.2.1 d.1.2.2.2.2.1).1 d.1.2.1 d.1.2.2.2.1 d.2.1).2))]) }
theorem anc(vs:List VD) (ms cs:List ByteArray) (fs:List FD) (ts:List SD) (id fn pc:Int) (rg:List Int) (st ch ph su fa:Int) (he:List Int) (aA:Vf.pre ((vs,ms,cs,fs,ts,()),(id,fn,pc,rg,st,ch,ph,su,fa,he,()),())):
 let z3:=(id,fn,pc,rg,st,ch,ph,su,fa,he,());let z2:=iM (aB vs ms cs fs ts).fst ms fs z3;let z1:=[SV.agg [v6 (z2.fst.fst),v6 (z2.fst.snd.fst),v6 (z2.fst.snd.snd.fst),v6 (z2.fst.snd.snd.snd.fst),v6 (z2.fst.snd.snd.snd.snd.fst),v6 (z2.fst.snd.snd.snd.snd.snd.fst),v6 (z2.fst.snd.snd.snd.snd.snd.snd.fst),v6 (z2.fst.snd.snd.snd.snd.snd.snd.snd.fst)],cB (z2.snd)];((!!decide (su=1))=true->(vs.length<=1000000/\ms.length<=1000000/\cs.length<=1000000/\fs.length<=1000000/\ts.length<=1000000/\(∀(x:ByteArray×(jT.sl.pair Sh.unit).den),x∈fs->List.length x.snd.fst<=1000000)/\(dR fs).length<=1000000)/\he.length<=1000000/\id<=9223372036854775807/\rg.length=8)/\br (!decide (su=1) || !(decide (bQ (aB vs ms cs fs ts).fst (32:Int)=(0:Int)) && nD ms fs (32:Int) z3)) (rT z1 [SV.agg [v6 0,v6 0,v6 0,v6 0,v6 0,v6 0,v6 0,v6 0],cB false]) ((0<=fn/\fn < (fs.length:Int)/\0<=pc)/\rT z1 [SV.agg [v6 ((atR fs fn pc).fst.fst),v6 ((atR fs fn pc).fst.snd.fst),v6 ((atR fs fn pc).fst.snd.snd.fst),v6 ((atR fs fn pc).fst.snd.snd.snd.fst),v6 ((atR fs fn pc).fst.snd.snd.snd.snd.fst),v6 ((atR fs fn pc).fst.snd.snd.snd.snd.snd.fst),v6 ((atR fs fn pc).fst.snd.snd.snd.snd.snd.snd.fst),v6 ((atR fs fn pc).fst.snd.snd.snd.snd.snd.snd.snd.fst)],cB ((atR fs fn pc).snd)]):=by
 conv=>zeta
 delta v6 cB rT I6;obtain⟨hb,yN,hid,hrg⟩:bnd ((vs,ms,cs,fs,ts,()),())/\he.length<=1000000/\id<=9223372036854775807/\rg.length=8:=aA;have key:((aB vs ms cs fs ts).1=0/\su=1/\rD ms fs 32 (id,fn,pc,rg,st,ch,ph,su,fa,he,()))↔(!decide (su=1) || !(decide (bQ (aB vs ms cs fs ts).1 32=0) && nD ms fs 32 (id,fn,pc,rg,st,ch,ph,su,fa,he,())))=false:=by
  rw[lM,uP,uP,cZ,X8,X8,fO,jI];constructor
  .rintro⟨q1,q2,q3⟩;exact⟨q2,⟨q1,by omega,by omega⟩,q3⟩
  .rintro⟨q2,⟨q1,_⟩,q3⟩;exact⟨q1,q2,q3⟩
 refine⟨λ_=>⟨hb,yN,hid,hrg⟩,ah.2 ⟨λh=>?_,λh=>?_⟩⟩
 .have e:iM (aB vs ms cs fs ts).1 ms fs (id,fn,pc,rg,st,ch,ph,su,fa,he,())=((0,0,0,0,0,0,0,0,()),false):=by
   unfold iM;rw[if_neg];intro q;rw[key.1 q]at h;cases h
  rw[e];exact⟨rfl,rfl⟩
 .have q:=key.2 h;have e:iM (aB vs ms cs fs ts).1 ms fs (id,fn,pc,rg,st,ch,ph,su,fa,he,())=atR fs fn pc:=by
   unfold iM;rw[if_pos q]
  have hF:=q.2.2.1;rw[e];exact⟨⟨hF.2.1.1,hF.2.1.2,hF.2.2.1.1⟩,rfl,rfl⟩
theorem Vg:aN aK.gd 45 Vf:=
 bV (cx:=aK) (n:=21) (cl:=[(85,ahk),(95,Sv)]) (rc:=[]) ay ⟨Ve,Aq,trivial⟩ Tryz.func45 λd hd=>by
  obtain⟨⟨vs,ms,cs,fs,ts,⟨⟩⟩,⟨id,fn,pc,rg,st,ch,ph,su,fa,he,⟨⟩⟩,⟨⟩⟩:=d;exact aI (λ_=>none) (anc vs ms cs fs ts id fn pc rg st ch ph su fa he hd) (by kernel_rfl)
def uO:TD->Int->TD
 | (id,fn,pc,rg,st,ch,ph,su,fa,he,_),m=>if ph=0 then(id,fn,pc,rg,st,ch,1,su,fa,yI he m,()) else if ph=1 then(id,fn,pc,rg,st,ch,2,su,fa,he,()) else(id,fn,pc+1,rg,st,ch,0,su,fa,uX he m,())
abbrev acy:CT:={ ps:=[bD,.int .i64],pre:=λd=>d.1.2.2.2.2.2.2.2.2.2.1.length<=999999/\0<=d.1.2.2.1/\d.1.2.2.1<=1000000,res:=λd=>([],.one (.dat bD (uO d.1 d.2.1))) }
theorem ahl(id fn pc:Int) (rg:List Int) (st ch ph su fa:Int) (he:List Int) (m:Int) (aA:acy.pre ((id,fn,pc,rg,st,ch,ph,su,fa,he,()),m,())):
 let z1:=aW.one (SV.dat bD (uO (id,fn,pc,rg,st,ch,ph,su,fa,he,()) m));br (decide (ph=0)) (he.length<=1000000/\rE z1 (aW.one (SV.dat bD ((id,fn,pc,rg,st,ch,(1:Int),su,fa,jr (aX he) [m] false,()))))) (br (decide (ph=1)) (rE z1 (aW.one (SV.dat bD ((id,fn,pc,rg,st,ch,(2:Int),su,fa,he,()))))) (he.length<=999999/\iR (pc+1)/\rE z1 (aW.one (SV.dat bD ((id,fn,pc+1,rg,st,ch,(0:Int),su,fa,aX (he++[m]),())))))):=by
 conv=>zeta
 delta rE I6 iR;obtain⟨yN,hp0,hp1⟩:he.length<=999999/\0<=pc/\pc<=1000000:=aA;refine ah.2 ⟨λh=>?_,λh=>ah.2 ⟨λh2=>?_,λh2=>?_⟩⟩
 .have h:ph=0:=by simpa using h
  have e:uO (id,fn,pc,rg,st,ch,ph,su,fa,he,()) m=(id,fn,pc,rg,st,ch,1,su,fa,yI he m,()):=by simp only[uO];rw[if_pos h]
  rw[e];exact⟨by omega,rfl,rfl⟩
 .have h:¬ph=0:=by simpa using h
  have h2:ph=1:=by simpa using h2
  have e:uO (id,fn,pc,rg,st,ch,ph,su,fa,he,()) m=(id,fn,pc,rg,st,ch,2,su,fa,he,()):=by simp only[uO];rw[if_neg h,if_pos h2]
  rw[e];exact⟨rfl,rfl⟩
 .have h:¬ph=0:=by simpa using h
  have h2:¬ph=1:=by simpa using h2
  have e:uO (id,fn,pc,rg,st,ch,ph,su,fa,he,()) m=(id,fn,pc+1,rg,st,ch,0,su,fa,uX he m,()):=by simp only[uO];rw[if_neg h,if_neg h2]
  rw[e];exact⟨yN,au.2 (by omega),rfl,rfl⟩
theorem acz:aN aK.gd 110 acy:=
 bV (cx:=aK) (n:=29) (cl:=[(112,OU),(111,OE)]) (rc:=[.data bD]) ay ⟨GH,Gi,trivial⟩ Tryz.func110 λd hd=>by
  obtain⟨⟨id,fn,pc,rg,st,ch,ph,su,fa,he,⟨⟩⟩,m,⟨⟩⟩:=d;exact aI (λ_=>none) (ahl id fn pc rg st ch ph su fa he m hd) (by kernel_rfl)
abbrev acA:CT:={ ps:=[oQ,.int .i64,bD,.int .i64],pre:=λd=>bnd (d.1,())/\d.2.2.1.2.2.2.2.2.2.2.2.2.1.length<=1000000/\d.2.2.1.1<=9223372036854775807/\d.2.2.1.2.2.2.1.length=8,res:=λd=>([],.gY [.dat bD (ig (aB d.1.1 d.1.2.1 d.1.2.2.1 d.1.2.2.2.1 d.1.2.2.2.2.1).1 d.1.2.1 d.1.2.2.2.1 d.2.1 d.2.2.1 d.2.2.2.1).1,.c (.v (.int .i64 (ig (aB d.1.1 d.1.2.1 d.1.2.2.1 d.1.2.2.2.1 d.1.2.2.2.2.1).1 d.1.2.1 d.1.2.2.2.1 d.2.1 d.2.2.1 d.2.2.2.1).2))]) }
abbrev kq3:=[SV.dat bD (((0:Int),(0:Int),(0:Int),[(0:Int),(0:Int),(0:Int),(0:Int),(0:Int),(0:Int),(0:Int),(0:Int)],(0:Int),(0:Int),(0:Int),(0:Int),(0:Int),[],())),cI 1]
abbrev kq2:=[SV.dat bD (((0:Int),(0:Int),(0:Int),[(0:Int),(0:Int),(0:Int),(0:Int),(0:Int),(0:Int),(0:Int),(0:Int)],(0:Int),(0:Int),(0:Int),(0:Int),(0:Int),[],())),cI 30]
theorem ane(vs:List VD) (ms cs:List ByteArray) (fs:List FD) (ts:List SD) (bound id fn pc:Int) (rg:List Int) (st ch ph su fa:Int) (he:List Int) (r:Int) (aA:acA.pre ((vs,ms,cs,fs,ts,()),bound,(id,fn,pc,rg,st,ch,ph,su,fa,he,()),r,())):
 let z30:=aB vs ms cs fs ts;let z21:=(id,fn,pc,rg,st,ch,ph,su,fa,he,());let qR:=ig z30.fst ms fs bound z21 r;let z5:=[SV.dat bD qR.fst,cI (qR.snd)];let z29:=jo (atR fs fn pc).fst;let z24:=decide ((atR fs fn pc).fst.fst=18);let z22:=he.length<=999999/\0<=pc/\pc<=1000000;let z8:=uO (id,fn,pc,rg.set z29.fst.toNat r,st+1,ch,ph,su,fa,he,()) (atR fs fn pc).fst.snd.snd.snd.snd.snd.fst;let z25:=decide ((atR fs fn pc).fst.fst=17);let z13:=(id,fn,pc+1,rg.set z29.fst.toNat r,st+1,ch,ph,su,fa,he,());let z20:=rg.set z29.fst.toNat r;let z3:=iR (pc+1)/\(z30.fst=0/\bH ms fs bound z13/\he.length<=1000000/\id<=9223372036854775807/\z20.length=8)/\rT z5 [SV.dat bD (eG fs bound 256 z13),cI 0];let z23:=[(atR fs fn pc).fst.snd.snd.snd.snd.fst];let MN:=he++z23;let z7:=(id,fn,pc+1,rg.set z29.fst.toNat r,st+1,ch,ph,su,fa,aX MN,());let z17:=aX MN;let z1:=he.length<=999999/\iR (pc+1)/\(z30.fst=0/\bH ms fs bound z7/\z17.length<=1000000/\id<=9223372036854775807/\z20.length=8)/\rT z5 [SV.dat bD (eG fs bound 256 z7),cI 0];let z26:=decide ((atR fs fn pc).fst.fst=15);let z27:=decide ((atR fs fn pc).fst.fst=16);let z6:=(id,fn,pc+1,rg.set z29.fst.toNat r,st+1,ch,ph,su,fa,jr (aX he) z23 false,());let kV:=jr (aX he) z23 false;let z28:=decide ((atR fs fn pc).fst.fst=21);let z12:=(id,fn,pc+1,rg.set z29.fst.toNat r,st+1,ch+1,ph,su,fa,he,());let z11:=uO (id,fn,pc,rg,st+1,ch,ph,su,fa,he,()) (atR fs fn pc).fst.snd.snd.snd.snd.snd.fst;let Qa:=(id,fn,pc+1,rg,st+1,ch,ph,su,fa,he,());let z4:=iR (pc+1)/\(z30.fst=0/\bH ms fs bound Qa/\he.length<=1000000/\id<=9223372036854775807/\rg.length=8)/\rT z5 [SV.dat bD (eG fs bound 256 Qa),cI 0];let z10:=(id,fn,pc+1,rg,st+1,ch,ph,su,fa,aX MN,());let z2:=he.length<=999999/\iR (pc+1)/\(z30.fst=0/\bH ms fs bound z10/\z17.length<=1000000/\id<=9223372036854775807/\rg.length=8)/\rT z5 [SV.dat bD (eG fs bound 256 z10),cI 0];let z9:=(id,fn,pc+1,rg,st+1,ch,ph,su,fa,jr (aX he) z23 false,());let BQ:=(id,fn,pc+1,rg,st+1,ch+1,ph,su,fa,he,());(vs.length<=1000000/\ms.length<=1000000/\cs.length<=1000000/\fs.length<=1000000/\ts.length<=1000000/\(∀(x:ByteArray×(jT.sl.pair Sh.unit).den),x∈fs->List.length x.snd.fst<=1000000)/\(dR fs).length<=1000000)/\br (!decide (bQ z30.fst bound=0)) (rT z5 [SV.dat bD (((0:Int),(0:Int),(0:Int),P9,(0:Int),(0:Int),(0:Int),(0:Int),(0:Int),[],())),cI (bQ z30.fst bound)]) ((z30.fst=0/\he.length<=1000000/\id<=9223372036854775807/\rg.length=8)/\br (!nD ms fs bound z21) (rT z5 kq3) (br (!decide (su=1)) (rT z5 kq2) (True/\br (!decide (aH r=r)) (rT z5 kq4) ((0<=fn/\fn < (fs.length:Int)/\0<=pc)/\iR (st+1)/\True/\br z29.snd ((0<=z29.fst/\z29.fst < 8)/\z29.fst.toNat < 8/\br z24 (z22/\(z30.fst=0/\bH ms fs bound z8/\List.length z8.snd.snd.snd.snd.snd.snd.snd.snd.snd.fst<=1000000/\z8.fst<=9223372036854775807/\List.length z8.snd.snd.snd.fst=8)/\rT z5 [SV.dat bD (eG fs bound 256 z8),cI 0]) (br z25 (br (decide (r=0)) z3 z1) (br z26 z1 (br z27 (he.length<=1000000/\iR (pc+1)/\(z30.fst=0/\bH ms fs bound z6/\kV.length<=1000000/\id<=9223372036854775807/\z20.length=8)/\rT z5 [SV.dat bD (eG fs bound 256 z6),cI 0]) (br z28 (iR (ch+1)/\iR (pc+1)/\(z30.fst=0/\bH ms fs bound z12/\he.length<=1000000/\id<=9223372036854775807/\z20.length=8)/\rT z5 [SV.dat bD (eG fs bound 256 z12),cI 0]) z3))))) (br z24 (z22/\(z30.fst=0/\bH ms fs bound z11/\List.length z11.snd.snd.snd.snd.snd.snd.snd.snd.snd.fst<=1000000/\z11.fst<=9223372036854775807/\List.length z11.snd.snd.snd.fst=8)/\rT z5 [SV.dat bD (eG fs bound 256 z11),cI 0]) (br z25 (br (decide (r=0)) z4 z2) (br z26 z2 (br z27 (he.length<=1000000/\iR (pc+1)/\(z30.fst=0/\bH ms fs bound z9/\kV.length<=1000000/\id<=9223372036854775807/\rg.length=8)/\rT z5 [SV.dat bD (eG fs bound 256 z9),cI 0]) (br z28 (iR (ch+1)/\iR (pc+1)/\(z30.fst=0/\bH ms fs bound BQ/\he.length<=1000000/\id<=9223372036854775807/\rg.length=8)/\rT z5 [SV.dat bD (eG fs bound 256 BQ),cI 0]) z4))))))))):=by
 conv=>zeta
 delta P9 kq3 kq2 kq4 cI rT I6 iR;obtain⟨hb,yN,hid,hrg⟩:bnd ((vs,ms,cs,fs,ts,()),())/\he.length<=1000000/\id<=9223372036854775807/\rg.length=8:=aA;refine⟨hb,ah.2 ⟨λh=>?_,λh=>?_⟩⟩
 .have h:bQ (aB vs ms cs fs ts).1 bound≠0:=by simpa using h
  have e:ig (aB vs ms cs fs ts).1 ms fs bound (id,fn,pc,rg,st,ch,ph,su,fa,he,()) r=(zT,bQ (aB vs ms cs fs ts).1 bound):=by unfold ig;rw[if_pos h]
  rw[e];exact⟨rfl,rfl⟩
 have h:¬bQ (aB vs ms cs fs ts).1 bound≠0:=by simpa using h
 have hs:=fO.1 (Hg.1 h);refine⟨⟨hs.1,yN,hid,hrg⟩,ah.2 ⟨λh2=>?_,λh2=>?_⟩⟩
 .have h2:¬rD ms fs bound (id,fn,pc,rg,st,ch,ph,su,fa,he,()):=λq=>by rw[jI.2 q]at h2;cases h2
  have e:ig (aB vs ms cs fs ts).1 ms fs bound (id,fn,pc,rg,st,ch,ph,su,fa,he,()) r=(zT,1):=by unfold ig;rw[if_neg h,if_pos h2]
  rw[e];exact⟨rfl,rfl⟩
 have hV:rD ms fs bound (id,fn,pc,rg,st,ch,ph,su,fa,he,()):=jI.1 (by simpa using h2)
 have h2:¬¬rD ms fs bound (id,fn,pc,rg,st,ch,ph,su,fa,he,()):=λq=>q hV
 refine ah.2 ⟨λh3=>?_,λh3=>⟨trivial,ah.2 ⟨λh4=>?_,λh4=>?_⟩⟩⟩
 .have h3:su≠1:=by simpa using h3
  have e:ig (aB vs ms cs fs ts).1 ms fs bound (id,fn,pc,rg,st,ch,ph,su,fa,he,()) r=(zT,30):=by unfold ig;rw[if_neg h,if_neg h2,if_pos h3]
  rw[e];exact⟨rfl,rfl⟩
 all_goals
  have h1:su=1:=by simpa using h3
  have h3:¬su≠1:=λq=>q h1
 .have h4:bY r=false:=by rw[val_wrap];simpa using h4
  have e:ig (aB vs ms cs fs ts).1 ms fs bound (id,fn,pc,rg,st,ch,ph,su,fa,he,()) r=(zT,2):=by unfold ig;rw[if_neg h,if_neg h2,if_neg h3,if_pos h4]
  rw[e];exact⟨rfl,rfl⟩
 have hvr:bY r=true:=by rw[val_wrap];simpa using h4
 have h4:¬bY r=false:=by rw[hvr];simp
 obtain⟨f0,s0,i,ha,vi,oi⟩:=yK hV h1;have ha:lS fs fn pc=some i:=ha;have s0:st < bound:=s0;have hF:bH ms fs bound (id,fn,pc,rg,st,ch,ph,su,fa,he,()):=hV.1;have hfn:=hF.2.1;have hpc:=hF.2.2.1;have hst:=hF.2.2.2.2.1;have hch:=hF.2.2.2.2.2.1;have h64:=uq hs.1 hfn;have hci:=(nH (xI hs.1 hfn ha)).1;have hm4:=acw (nU hs.1).1;have h4e:he.length<=4:=mF hF hm4;have leaf:∀t':TD,t'=jU (id,fn,pc,rg,st,ch,ph,su,fa,he,()) i r->(((aB vs ms cs fs ts).1=0/\bH ms fs bound t'/\t'.2.2.2.2.2.2.2.2.2.1.length<=1000000/\t'.1<=9223372036854775807/\t'.2.2.2.1.length=8)/\([]:List Go.jw.aj)=[] /\
  aW.gY [SV.dat bD (ig (aB vs ms cs fs ts).1 ms fs bound (id,fn,pc,rg,st,ch,ph,su,fa,he,()) r).1,SV.c (SC.v (Value.int .i64 (ig (aB vs ms cs fs ts).1 ms fs bound (id,fn,pc,rg,st,ch,ph,su,fa,he,()) r).2))]=aW.gY [SV.dat bD (eG fs bound 256 t'),SV.c (SC.v (Value.int .i64 0))]):=by
  intro t' et;subst et;have hf:=yL hs.1 hV h1 ha hvr;have e:ig (aB vs ms cs fs ts).1 ms fs bound (id,fn,pc,rg,st,ch,ph,su,fa,he,()) r=(eG fs bound 256 (jU (id,fn,pc,rg,st,ch,ph,su,fa,he,()) i r),0):=by
   unfold ig;rw[if_neg h,if_neg h2,if_neg h3,if_neg h4];show(eG fs bound 256 (jU (id,fn,pc,rg,st,ch,ph,su,fa,he,()) (atR fs fn pc).1 r),(0:Int))=_;rw[show atR fs fn pc=(i,true) by unfold atR;rw[ha]]
  rw[e];exact⟨⟨hs.1,hf,oh (mF hf hm4) (by omega),Jj hf,(Lu _ _ _).trans hrg⟩,rfl,rfl⟩
 rw[show atR fs fn pc=(i,true) by unfold atR;rw[ha]]
 dsimp only;have e9:he.length<=999999:=by omega
 have ep:nM .i64 (pc+1):=au.2 (by omega)
 have ec:nM .i64 (ch+1):=au.2 (by omega)
 refine⟨⟨hfn.1,hfn.2,hpc.1⟩,au.2 (by omega),trivial,ah.2 ⟨λhd=>?_,λhd=>?_⟩⟩
 .have hr:=O5 hci hd;refine⟨hr,by omega,?_⟩
  refine aJ.2 ⟨λq=>⟨⟨e9,hpc.1,show pc<=1000000 by omega⟩,leaf _ (by simp only[uO,jU,if_pos q,if_pos hd])⟩,λn18=>aJ.2 ⟨λn17=>aJ.2 ⟨λq=>⟨ep,leaf _ (by simp[jU,n17,hd,q])⟩,λq=>⟨e9,ep,leaf _ (by simp[jU,n17,hd,q,uX])⟩⟩,
   λn17=>aJ.2 ⟨λq=>⟨e9,ep,leaf _ (by simp[jU,q,hd,uX])⟩,λn15=>aJ.2 ⟨λq=>⟨yN,ep,leaf _ (by simp[jU,q,hd,yI])⟩,λn16=>aJ.2 ⟨λq=>⟨ec,ep,leaf _ (by simp[jU,q,hd])⟩,λn21=>⟨ep,leaf _ (by simp[jU,n18,n17,n15,n16,n21,hd])⟩⟩⟩⟩⟩⟩
 .refine aJ.2 ⟨λq=>⟨⟨e9,hpc.1,show pc<=1000000 by omega⟩,leaf _ (by simp only[uO,jU,if_pos q,hd];simp)⟩,λn18=>aJ.2 ⟨λn17=>aJ.2 ⟨λq=>⟨ep,leaf _ (by simp[jU,n17,hd,q])⟩,λq=>⟨e9,ep,leaf _ (by simp[jU,n17,hd,q,uX])⟩⟩,
   λn17=>aJ.2 ⟨λq=>⟨e9,ep,leaf _ (by simp[jU,q,hd,uX])⟩,λn15=>aJ.2 ⟨λq=>⟨yN,ep,leaf _ (by simp[jU,q,hd,yI])⟩,λn16=>aJ.2 ⟨λq=>⟨ec,ep,leaf _ (by simp[jU,q,hd])⟩,λn21=>⟨ep,leaf _ (by simp[jU,n18,n17,n15,n16,n21,hd])⟩⟩⟩⟩⟩⟩
theorem ahm:aN aK.gd 51 acA:=
 bV (cx:=aK) (n:=103) (cl:=[(75,uN),(108,Ls),(77,Gx),(95,Sv),(109,ajV),(78,U9),(110,acy),(111,OE),(112,OU)]) (rc:=[.data bD,.keep]) ay ⟨Lr,OY,D7,Aq,acg,Va,acz,Gi,GH,trivial⟩ Tryz.func51 λd hd=>by
  obtain⟨⟨vs,ms,cs,fs,ts,⟨⟩⟩,bound,⟨id,fn,pc,rg,st,ch,ph,su,fa,he,⟨⟩⟩,r,⟨⟩⟩:=d;exact aI (λ_=>none) (ane vs ms cs fs ts bound id fn pc rg st ch ph su fa he r hd) (by kernel_rfl)
open Classical in
def C9(a b:TD):Bool:=decide (a=b)
open Classical in
theorem wV{a b:TD}:C9 a b=true↔a=b:=by
 unfold C9;rw[X8]
abbrev Sz:CT:={ ps:=[bD,bD],pre:=λd=>d.1.2.2.2.2.2.2.2.2.2.1.length<=1000000,res:=λd=>([],vB (C9 d.1 d.2.1)) }
abbrev aqy(id fn pc:Int) (rg:List Int) (st ch ph su fa:Int) (he:List Int) (id2 Qb pc2:Int) (Qc:List Int) (st2 MO LC LD fa2:Int) (he2:List Int):Nat->Option (St->iE):=λk=>match k with
 | 4=>some λ_=>.inv { α:=Nat,slots:=λk=>[(5,.c (.v (.int .i64 k)))],res:=λ_=>[],inv:=λk=>k<=he.length/\∀j < k,he[j]?=he2[j]?,meas:=λk=>he.length - k }
 | _=>none
theorem anf(id fn pc:Int) (rg:List Int) (st ch ph su fa:Int) (he:List Int) (id2 Qb pc2:Int) (Qc:List Int) (st2 MO LC LD fa2:Int) (he2:List Int) (aA:Sz.pre ((id,fn,pc,rg,st,ch,ph,su,fa,he,()),(id2,Qb,pc2,Qc,st2,MO,LC,LD,fa2,he2,()),())):
 let z6:=(id,fn,pc,rg,st,ch,ph,su,fa,he,());let z5:=(id2,Qb,pc2,Qc,st2,MO,LC,LD,fa2,he2,());let z3:=C9 z6 z5;let z2:=qB z3 false;let z4:=λ(x:Nat)=>(x<=he.length/\∀(j:Nat),j < x->he[j]?=he2[j]?);let z1:=[g0 (aj.obj 56 bD z6),g0 (aj.obj 56 bD z5)];br (!decide ((he.length:Int)=(he2.length:Int))) z2 ((∃x,(z4 x)/\(cI 0=cI (x:Int)/\True)/\sm z1)/\∀(x:Nat),(z4 x)->br (decide ((x:Int) < (he.length:Int))) ((0<=(x:Int)/\(x:Int) < (he.length:Int))/\∀(d:Int),he[(x:Int).toNat]?=some d->(0<=(x:Int)/\(x:Int) < (he2.length:Int))/\∀(dH:Int),he2[(x:Int).toNat]?=some dH->br (!decide (d=dH)) z2 (iR ((x:Int)+(1:Int))/\∃x',(z4 x')/\(cI ((x:Int)+(1:Int))=cI (x':Int)/\True)/\sm z1/\he.length - x' < he.length - x)) (br (!decide (id=id2) || !decide (fn=Qb) || !decide (pc=pc2) || !decide (rg=Qc) || !decide (st=st2)) z2 (qB z3 (decide (ch=MO) && decide (ph=LC) && decide (su=LD) && decide (fa=fa2))))):=by
 conv=>zeta
 delta cI g0 qB sm I6 iR;have hp:he.length<=1000000:=aA;have sF:¬(id,fn,pc,rg,st,ch,ph,su,fa,he,())=(id2,Qb,pc2,Qc,st2,MO,LC,LD,fa2,he2,())->([]:List Go.jw.aj)=[]/\aW.one (SV.c (SC.v (Value.bool (C9 (id,fn,pc,rg,st,ch,ph,su,fa,he,()) (id2,Qb,pc2,Qc,st2,MO,LC,LD,fa2,he2,())))))=aW.one (SV.c (SC.v (Value.bool false))):=λq=>⟨rfl,by rw[show C9 (id,fn,pc,rg,st,ch,ph,su,fa,he,()) (id2,Qb,pc2,Qc,st2,MO,LC,LD,fa2,he2,())=false from TJ.2 λh=>q (wV.1 h)]⟩
 refine ah.2 ⟨λh=>sF λq=>?_,λh=>?_⟩
 .have:=oW (λt:TD=>t.2.2.2.2.2.2.2.2.2.1.length) q
  simp at h;simp at this;omega
 have h:he.length=he2.length:=by simp at h;omega
 refine⟨⟨0,⟨by omega,λj hj=>by omega⟩,⟨rfl,trivial⟩,rfl⟩,λk hk=>ah.2 ⟨λh2=>?_,λh2=>?_⟩⟩
 .simp only[dG]at h2;refine⟨by omega,λd hd=>⟨by omega,λd1 hd1=>ah.2 ⟨λh3=>sF λq=>?_,λh3=>⟨au.2 (by omega),k+1,⟨by omega,λj hj=>?_⟩,⟨rfl,trivial⟩,rfl,by omega⟩⟩⟩⟩
  .have:he=he2:=oW (λt:TD=>t.2.2.2.2.2.2.2.2.2.1) q
   rw[this,hd1]at hd;cases hd;simp at h3
  .have h3:d=d1:=by simpa using h3
   by_cases gu:j=k
   .subst gu;have a:he[j]?=some d:=hd;have b:he2[j]?=some d1:=hd1;rw[a,b,h3]
   .exact hk.2 j (by omega)
 simp only[A8]at h2;have hh:he=he2:=Dh λj=>by
  by_cases hj:j < k
  .exact hk.2 j hj
  .rw[uD (by omega),uD (by omega)]
 subst hh;refine ah.2 ⟨λh3=>sF λq=>?_,λh3=>⟨rfl,?_⟩⟩
 .simp only[Ya]at q;obtain⟨q1,q2,q3,q4,q5,_⟩:=q;subst q1;subst q2;subst q3;subst q4;subst q5;simp at h3
 .simp only[lM,uP,dG]at h3;obtain⟨⟨⟨⟨e1,e2⟩,e3⟩,e4⟩,e5⟩:=h3;subst e1;subst e2;subst e3;subst e4;subst e5;have:C9 (id,fn,pc,rg,st,ch,ph,su,fa,he,()) (id,fn,pc,rg,st,MO,LC,LD,fa2,he,())=(decide (ch=MO) && decide (ph=LC) && decide (su=LD) && decide (fa=fa2)):=by
   rw[Et,wV];simp[and_assoc]
  rw[this]
theorem ahn:aN aK.gd 38 Sz:=
 bV (cx:=aK) (n:=90) (cl:=[]) (rc:=[]) ay trivial Tryz.func38 λd hd=>by
  obtain⟨⟨id,fn,pc,rg,st,ch,ph,su,fa,he,⟨⟩⟩,⟨id2,Qb,pc2,Qc,st2,MO,LC,LD,fa2,he2,⟨⟩⟩,⟨⟩⟩:=d;exact aI (aqy id fn pc rg st ch ph su fa he id2 Qb pc2 Qc st2 MO LC LD fa2 he2) (anf id fn pc rg st ch ph su fa he id2 Qb pc2 Qc st2 MO LC LD fa2 he2 hd) (by kernel_rfl)
theorem GK(h:(dB id ch).2=true):(dB id ch).1=8 * (id+1)+ch/\(0<=ch/\ch < 7)/\UY (dB id ch).1=(id,true)/\iL (dB id ch).1=iL id+1/\8<=(dB id ch).1/\iL (dB id ch).1<=4/\(dB id ch).1<=1000000/\(0<=iL id/\iL id<=4):=by
 unfold dB at h ⊢
 split at h
 .cases h
 rename_i q;rw[if_neg q];have q1:0<=aU id:=by omega
 have q2:aU id≠4:=by omega
 obtain⟨e1,e2⟩:=CZ q1 q2 (ch:=ch) (by omega) (by omega)
 have hl:=nC q1;have hr:=Gw id;refine⟨rfl,by omega,?_,?_,by simp only;omega,?_,by simp only;omega,?_⟩
 .unfold UY;rw[if_neg (by rw[e1];omega),e2]
 .unfold iL;rw[e1,if_neg (by omega),if_neg (by omega)]
 .unfold iL;rw[e1,if_neg (by omega)];omega
 .unfold iL;rw[if_neg (by omega)];omega
theorem top_len{rest:ID->TD} (hr:∀i,(rest i).2.2.2.1.length=t.2.2.2.1.length):(topS fs bound t rest).2.2.2.1.length=t.2.2.2.1.length:=by
 obtain⟨id,fn,pc,rg,st,ch,ph,su,fa,hd,u⟩:=t;unfold topS;simp only;split
 .rfl
 split
 .repeat' split
  all_goals rfl
 .exact hr _
theorem Vh(fs:List FD) (bound:Int):∀(k:Nat) (t:TD),(eG fs bound k t).2.2.2.1.length=t.2.2.2.1.length:=by
 intro k
 induction k with
 | zero=>
   intro t;rw[eG];exact top_len λi=>rfl
 | succ k ih=>
   intro t;rw[eG];refine top_len λi=>?_
   split
   .exact(ih _).trans (D8 t i)
   .exact D8 t i
theorem acB{fn r:Int} (h:(newS (aB vs ms cs fs ts).1 fs bound id fn r).2=0):bQ (aB vs ms cs fs ts).1 bound=0/\rD ms fs bound (newS (aB vs ms cs fs ts).1 fs bound id fn r).1/\(newS (aB vs ms cs fs ts).1 fs bound id fn r).1.2.2.2.1.length=8:=by
 unfold newS at h ⊢
 split at h
 .rename_i q;exact absurd h q
 split at h
 .cases h
 split at h
 .cases h
 split at h
 .cases h
 rename_i q1 q2 q3 q4;rw[if_neg q1,if_neg q2,if_neg q3,if_neg q4];have hs:=fO.1 (Hg.1 q1);exact⟨Hg.1 q1,U1 hs.1 hs.2.1 _ _ (yM ms hs.2.1 q2 q3 q4) rfl rfl,Vh _ _ _ _⟩
theorem ang{r:Int} (hl:t.2.2.2.1.length=8) (h:(ig (aB vs ms cs fs ts).1 ms fs bound t r).2=0):bQ (aB vs ms cs fs ts).1 bound=0/\rD ms fs bound (ig (aB vs ms cs fs ts).1 ms fs bound t r).1/\(ig (aB vs ms cs fs ts).1 ms fs bound t r).1.2.2.2.1.length=8 /\
 (ig (aB vs ms cs fs ts).1 ms fs bound t r).1.2.2.2.2.1=t.2.2.2.2.1+1/\(ig (aB vs ms cs fs ts).1 ms fs bound t r).1.1=t.1/\(ig (aB vs ms cs fs ts).1 ms fs bound t r).1.2.1=t.2.1/\(0<=t.2.2.2.2.1/\t.2.2.2.2.1 < 32):=by
 unfold ig at h ⊢
 split at h
 .rename_i q;exact absurd h q
 split at h
 .cases h
 split at h
 .cases h
 split at h
 .cases h
 rename_i q1 q2 q3 q4;rw[if_neg q1,if_neg q2,if_neg q3,if_neg q4];have hs:=fO.1 (Hg.1 q1);have hV:=Hg.1 q2;have h1:t.2.2.2.2.2.2.2.1=1:=Hg.1 q3;have hv:bY r=true:=by simpa using q4
 obtain⟨f0,s0,i,ha,vi,oi⟩:=yK hV h1;have ea:(atR fs t.2.1 t.2.2.1).1=i:=by unfold atR;rw[ha]
 rw[ea];have hf:=yL hs.1 hV h1 ha hv;have hk:=acd t i r;have hk2:=OM fs bound 256 (jU t i r);refine⟨Hg.1 q1,U1 hs.1 hs.2.1 _ _ hf (hk.2.2.2.1.trans h1) (hk.2.2.2.2.trans f0),((Vh _ _ _ _).trans (Lu _ _ _)).trans hl,hk2.2.2.1.trans hk.2.2.1,hk2.1.trans hk.1,hk2.2.1.trans hk.2.1,?_⟩;obtain⟨id,fn,pc,rg,st,ch,ph,su,fa,he,u⟩:=t;have:=hV.1.2.2.2.2.1;have s0:st < bound:=s0;show 0<=st/\st < 32;have:0<=st/\st<=bound:=this;omega
theorem qj(h:rD ms fs bound t):bH ms fs bound t:=by
 obtain⟨id,fn,pc,rg,st,ch,ph,su,fa,he,u⟩:=t;exact h.1
theorem BR(h:bH ms fs bound t):(0<=t.2.1/\t.2.1 < (fs.length:Int))/\0<=t.2.2.1:=by
 obtain⟨id,fn,pc,rg,st,ch,ph,su,fa,he,u⟩:=t;exact⟨h.2.1,h.2.2.1.1⟩
theorem acC{b c:Int} (hbc:b<=c) (h:rD ms fs b t):rD ms fs c t:=by
 obtain⟨id,fn,pc,rg,st,ch,ph,su,fa,he,u⟩:=t;obtain⟨⟨h1,h2,h3,h4,h5,h6⟩,q⟩:=h;refine⟨⟨h1,h2,h3,h4,⟨h5.1,Int.le_trans h5.2 hbc⟩,h6⟩,?_⟩;rcases q with⟨q1,q2⟩ | q
 .refine .inl ⟨?_,q2⟩;rcases q1 with⟨a,b'⟩ | q1
  .exact .inl ⟨a,Int.lt_of_lt_of_le b' hbc⟩
  .exact .inr q1
 .exact .inr q
theorem O6(hs:bQ (aB vs ms cs fs ts).1 bound=0) (h:rD ms fs bound t):t.2.2.2.2.2.2.2.2.2.1.length<=1000000/\t.1<=9223372036854775807:=by
 have hf:bH ms fs bound t:=by
  obtain⟨id,fn,pc,rg,st,ch,ph,su,fa,he,u⟩:=t;exact h.1
 exact⟨oh (mF hf (acw (nU (fO.1 hs).1).1)) (by omega),Jj hf⟩
end
end Go.Proofs.YtjhenjhcbcalpaaGreatDoor
