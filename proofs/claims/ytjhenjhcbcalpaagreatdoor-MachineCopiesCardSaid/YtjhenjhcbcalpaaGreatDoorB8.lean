/- Part 8 of the proof. Conditions: the rows'. -/
import Derived.Test.YtjhenjhcbcalpaaGreatDoorB7
set_option linter.unusedSimpArgs false
set_option linter.unusedVariables false
set_option maxRecDepth 1000000
set_option maxHeartbeats 8000000
namespace Go.Proofs.YtjhenjhcbcalpaaGreatDoor
open Go Go.lH
noncomputable section
variable {ms cs:List ByteArray}{fs:List FD}{bound id pc st ch ph su fa:Int}{t:TD}{vs:List VD}{ts:List SD}{rg he:List Int}{u:Unit}{i:ID}
theorem wrap32(n:Int):IntKind.i32.wrap (IntKind.u32.wrap n)=aX n:=by
 simp only[IntKind.wrap,IntKind.bits,IntKind.signed,aX];simp;split<;>omega
theorem akT{x y:Int} (hx:-2147483648<=x/\x<=2147483647) (hy:-2147483648<=y/\y<=2147483647):-9223372036854775808<=x * y/\x * y<=9223372036854775807:=by
 have h1:x.natAbs<=2147483648:=by omega
 have h2:y.natAbs<=2147483648:=by omega
 have h3:(x * y).natAbs<=2147483648 * 2147483648:=by rw[Int.natAbs_mul];exact Nat.mul_le_mul h1 h2
 omega
abbrev Eb:CT:={ ps:=[.int .i64],pre:=λd=>True,res:=λd=>([],.one (.c (.v (.int .i64 (aX d.1))))) }
theorem ahZ(n:Int):
 let z1:=IntKind.i32.wrap (IntKind.u32.wrap n);iR z1/\qI (aX n) z1:=by
 conv=>zeta
 delta qI iR;have:=uZ n;rw[wrap32];exact⟨aC.2 (by omega),rfl,rfl⟩
theorem Bz:aY aV.gd 77 Eb:=
 pz (cx:=aV) (n:=7) (cl:=[]) aB trivial Tryz.func77 λd hd=>by
  obtain⟨n,⟨⟩⟩:=d;exact aT (λ_=>none) (ahZ n) (by kernel_rfl)
abbrev afk:CT:={ ps:=[.bool],pre:=λd=>True,res:=λd=>([],.one (.c (.v (.int .i64 (if d.1=true then 1 else 0))))) }
theorem adn(b:Bool):
 let z1:=if b=true then(1:Int) else(0:Int);br b (qI z1 (1:Int)) (qI z1 (0:Int)):=by
 conv=>zeta
 delta qI;rw[ah];cases b<;>simp
theorem YU:aY aV.gd 161 afk:=
 pz (cx:=aV) (n:=4) (cl:=[]) aB trivial Tryz.func161 λd hd=>by
  obtain⟨b,⟨⟩⟩:=d;exact aT (λ_=>none) (adn b) (by kernel_rfl)
abbrev Qr:CT:={ ps:=[.int .i64,.int .i64,.int .i64],pre:=λd=>True,res:=λd=>([],.iO [.c (.v (.int .i64 (iF d.1 d.2.1 d.2.2.1).1)),.c (.v (.int .i64 (iF d.1 d.2.1 d.2.2.1).2))]) }
theorem ah0(f a b:Int):
 let z1:=[cI ((iF f a b).fst),cI ((iF f a b).snd)];True/\True/\br (decide (f=1)) (iR (aX a+aX b)/\True/\rT z1 [cI (aX (aX a+aX b)),cI 0]) (br (decide (f=2)) (iR (aX a - aX b)/\True/\rT z1 [cI (aX (aX a - aX b)),cI 0]) (br (decide (f=3)) (iR (aX a * aX b)/\True/\rT z1 [cI (aX (aX a * aX b)),cI 0]) (br (decide (f=4)) (True/\rT z1 [cI (aX (oK BinOp.and IntKind.i64 (aX a) (aX b))),cI 0]) (br (decide (f=5)) (True/\rT z1 [cI (aX (oK BinOp.or IntKind.i64 (aX a) (aX b))),cI 0]) (br (decide (f=6)) (True/\rT z1 [cI (aX (oK BinOp.xor IntKind.i64 (aX a) (aX b))),cI 0]) (br (decide (f=7)) (True/\rT z1 [cI (if decide (aX a=aX b)=true then(1:Int) else(0:Int)),cI 0]) (br (decide (f=8)) (True/\rT z1 [cI (if(!decide (aX a=aX b))=true then(1:Int) else(0:Int)),cI 0]) (br (decide (f=9)) (True/\rT z1 [cI (if decide (aX a < aX b)=true then(1:Int) else(0:Int)),cI 0]) (br (decide (f=10)) (True/\rT z1 [cI (if decide (aX a<=aX b)=true then(1:Int) else(0:Int)),cI 0]) (rT z1 [cI 0,cI 8])))))))))):=by
 conv=>zeta
 delta cI rT iR;have ha:=uZ a;have hb:=uZ b;have hm:=akT ha hb;unfold iF;simp only[ah,eH,iH]
 repeat' (first | (refine And.intro ?_ ?_) | (intro _))
 all_goals first | rfl | trivial | exact aC.2 (by omega) | (simp[*];done) | skip
theorem IE:aY aV.gd 97 Qr:=
 pz (cx:=aV) (n:=75) (cl:=[(77,Eb),(161,afk)]) aB ⟨Bz,YU,trivial⟩ Tryz.func97 λd hd=>by
  obtain⟨f,a,b,⟨⟩⟩:=d;exact aT (λ_=>none) (ah0 f a b) (by kernel_rfl)
abbrev YV:CT:={ ps:=[.int .i64],pre:=λd=>True,res:=λd=>([],vB (ni d.1)) }
theorem ado(op:Int):
 qB (ni op) (decide (8<=op) && decide (op<=22)):=by
 delta qB;refine⟨rfl,?_⟩;rw[show ni op=(decide (8<=op) && decide (op<=22)) by unfold ni;rw[OX];simp]
theorem KR:aY aV.gd 149 YV:=
 pz (cx:=aV) (n:=9) (cl:=[]) aB trivial Tryz.func149 λd hd=>by
  obtain⟨op,⟨⟩⟩:=d;exact aT (λ_=>none) (ado op) (by kernel_rfl)
abbrev afl:CT:={ ps:=[oV],pre:=λd=>True,res:=λd=>([],.iO [.c (.v (.int .i64 (lV d.1).1)),.c (.v (.bool (lV d.1).2))]) }
theorem adp(op a b c obj n fo ord:Int):
 let z4:=wU op a b c obj n fo ord=0;let z2:=!!decide z4;let z3:=lV (op,a,b,c,obj,n,fo,ord,());let z1:=[cI (z3.fst),cB (z3.snd)];True/\(z2=true->iR (op - 1))/\(z2=true->0<=op - 1/\op - 1 < (22:Int))/\∀(d:ByteArray×((Sh.arr 7 Sh.bool).pair Sh.unit).den),(z2=true->Kz[(op - 1).toNat]?=some d)->(z2=true->(0:Int)<=(0:Int)/\0 < ((List.length d.snd.fst):Int))/\∀(dR:Bool),(z2=true->d.snd.fst[0]?=some dR)->br (!decide z4 || !dR) (rT z1 [cI 0,cB false]) (rT z1 [cI a,cB true]):=by
 conv=>zeta
 delta cI cB rT iR
 by_cases h:wU op a b c obj n fo ord=0
 .obtain⟨r1,r2,r3,r4⟩:=lD (i:=(op,a,b,c,obj,n,fo,ord,())) h;have r4:1<=op/\op<=22:=r4;refine⟨trivial,λ_=>aC.2 (by omega),λ_=>by omega,λd hd=>?_⟩
  have hd:=hd (by simp[h])
  obtain⟨nm,us,u⟩:=d;have hu:=KA r4 hd;subst hu;refine⟨λ_=>by simp,λd1 hd1=>?_⟩
  have hd1:use op 0=d1:=by simpa[h]using hd1
  subst hd1;rw[ah];have hc:AB (op,a,b,c,obj,n,fo,ord,())=0:=h;refine⟨λq=>?_,λq=>?_⟩
  .have q:use op 0=false:=by simpa[h]using q
   have e:lV (op,a,b,c,obj,n,fo,ord,())=(0,false):=by unfold lV;rw[if_pos (.inr q)]
   rw[e];exact⟨rfl,rfl⟩
  .have q:use op 0=true:=by simpa[h]using q
   have e:lV (op,a,b,c,obj,n,fo,ord,())=(a,true):=by unfold lV;rw[if_neg (by rw[hc];simp[q])]
   rw[e];exact⟨rfl,rfl⟩
 .have hc:¬AB (op,a,b,c,obj,n,fo,ord,())=0:=h;have e:lV (op,a,b,c,obj,n,fo,ord,())=(0,false):=by unfold lV;rw[if_pos (.inl hc)]
  rw[e];refine⟨trivial,λq=>by simp[h]at q,λq=>by simp[h]at q,λd hd=>⟨λq=>by simp[h]at q,λd1 hd1=>?_⟩⟩
  rw[ah];exact⟨λ_=>⟨rfl,rfl⟩,λq=>by simp[h]at q⟩
theorem YW:aY aV.gd 109 afl:=
 pz (cx:=aV) (n:=19) (cl:=[(168,ahr)]) aB ⟨KC,trivial⟩ Tryz.func109 λd hd=>by
  obtain⟨⟨op,a,b,c,obj,n,fo,ord,⟨⟩⟩,⟨⟩⟩:=d;exact aT (λ_=>none) (adp op a b c obj n fo ord) (by kernel_rfl)
instance (l:List Int):Decidable (SS l):=inferInstanceAs (Decidable (l.Pairwise (· < ·)))
def pF(l:List Int):Bool:=decide (SS l)
theorem OA:∀{l:List Int},(∀j x y,l[j]?=some x->l[j+1]?=some y->x < y)->SS l
 | [],_=>List.Pairwise.nil
 | [a],_=>by simp[SS]
 | a :: b :: l,h=>by
   have ih:SS (b :: l):=OA λj x y h1 h2=>h (j+1) x y (by simpa using h1) (by simpa using h2)
   refine A85.2 ⟨λz hz=>?_,ih⟩
   have hab:=h 0 a b rfl rfl;rcases mF.1 hz with rfl | hz
   .exact hab
   .have:=(A85.1 ih).1 z hz;omega
theorem YX{l:List Int} (h:SS l){j:Nat}{x y:Int} (h1:l[j]?=some x) (h2:l[j+1]?=some y):x < y:=by
 obtain⟨a1,a2⟩:=fH.1 h1;obtain⟨b1,b2⟩:=fH.1 h2;have:=afv.1 h j (j+1) a1 b1 (by omega)
 omega
abbrev ctV:CT:={ ps:=[.sl (.int .i64)],pre:=λd=>d.1.length<=1000000,res:=λd=>([],vB (pF d.1)) }
abbrev ah1(l:List Int):Nat->Option (St->kD):=λk=>match k with
 | 2=>some λ_=>.inv { α:=Nat,slots:=λk=>[(3,.c (.v (.int .i64 k)))],res:=λ_=>[],inv:=λk=>(1<=k/\(k<=l.length\/k=1))/\∀j,j+1 < k->∀x y,l[j]?=some x->l[j+1]?=some y->x < y,meas:=λk=>l.length - k }
 | _=>none
theorem adq(l:List Int) (aF:ctV.pre (l,())):
 (∃x,((1<=x/\(x<=l.length\/x=1))/\∀(j:Nat),j+1 < x->∀(x y:Int),l[j]?=some x->l[j+1]?=some y->x < y)/\(cI 1=cI (x:Int)/\True)/\([]:List fV)=[])/\∀(x:Nat),((1<=x/\(x<=l.length\/x=1))/\∀(j:Nat),j+1 < x->∀(x y:Int),l[j]?=some x->l[j+1]?=some y->x < y)->br (decide ((x:Int) < (l.length:Int))) (iR ((x:Int) - (1:Int))/\(0<=(x:Int) - (1:Int)/\(x:Int) - 1 < (l.length:Int))/\∀(d:Int),l[((x:Int) - (1:Int)).toNat]?=some d->(0<=(x:Int)/\(x:Int) < (l.length:Int))/\∀(dR:Int),l[(x:Int).toNat]?=some dR->br (decide (dR<=d)) (qB (pF l) false) (iR ((x:Int)+(1:Int))/\∃x',((1<=x'/\(x'<=l.length\/x'=1))/\∀(j:Nat),j+1 < x'->∀(x y:Int),l[j]?=some x->l[j+1]?=some y->x < y)/\(cI ((x:Int)+(1:Int))=cI (x':Int)/\True)/\([]:List fV)=[]/\l.length - x' < l.length - x)) (qB (pF l) true):=by
 delta fV cI qB iR;have hp:l.length<=1000000:=aF;refine⟨⟨1,⟨⟨by omega,.inr rfl⟩,λj hj=>by omega⟩,⟨rfl,trivial⟩,rfl⟩,λk hk=>ah.2 ⟨λh=>?_,λh=>?_⟩⟩
 .simp only[eH]at h;have hk1:=hk.1.1;refine⟨aC.2 (by omega),by omega,λd hd=>⟨by omega,λe he=>?_⟩⟩
  have hd:l[k - 1]?=some d:=by rw[<-hd];congr 1;omega
  have he:l[k]?=some e:=by simpa using he
  have he':l[k - 1+1]?=some e:=by rw[show k - 1+1=k by omega];exact he
  refine ah.2 ⟨λh2=>?_,λh2=>⟨aC.2 (by omega),k+1,⟨⟨by omega,.inl (by omega)⟩,λj hj x y hx hy=>?_⟩,⟨by simp,trivial⟩,rfl,by omega⟩⟩
  .simp only[eH]at h2;have:pF l=false:=UJ λhs=>by have:=YX hs hd he';omega
   rw[this];exact⟨rfl,rfl⟩
  .simp only[iH]at h2
   by_cases jh:j+1=k
   .have hj':j=k - 1:=by omega
    subst hj';rw[hd]at hx;rw[he']at hy;cases hx;cases hy;omega
   .exact hk.2 j (by omega) x y hx hy
 .simp only[iH]at h;have:pF l=true:=Jg (OA λj x y hx hy=>hk.2 j (by have:=(fH.1 hy).1;omega) x y hx hy)
  rw[this];exact⟨rfl,rfl⟩
theorem KT:aY aV.gd 192 ctV:=
 pz (cx:=aV) (n:=20) (cl:=[]) aB trivial Tryz.func192 λd hd=>by
  obtain⟨l,⟨⟩⟩:=d;exact aT (ah1 l) (adq l hd) (by kernel_rfl)
abbrev Ec:CT:={ ps:=[.sl (.int .i64),.sl (.int .i64),.bool],pre:=λd=>d.1.length<=1000000/\d.2.1.length<=1000000,res:=λd=>([.row 3 (.int .i64) (oC (bY d.1) d.2.1 d.2.2.1)],.one (.c (.row 0))) }
abbrev ah2(l o:List Int) (b:Bool):Nat->Option (St->kD):=λk=>match k with
 | 3=>some λ_=>.inv { α:=Nat,slots:=λk=>[(13,.c (.v (.int .i64 k))),(7,.c (.row 1))],res:=λk=>[(1,.row 3 (.int .i64) (oC ((bY l).take k) o b))],inv:=λk=>k<=(bY l).length,meas:=λk=>(bY l).length - k,nil:=[(7,3,.int .i64)] }
 | _=>none
theorem adr(l o:List Int) (b:Bool) (aF:Ec.pre (l,o,b,())):
 let z3:=λ(x:Nat)=>oC (List.take x (bY l)) o b;let z2:=λ(x:Nat)=>[g0 (ak.row 3 I6 (bY l)),g0 (ak.row 3 I6 (z3 x))];let z1:=λ(x x':Nat)=>cI ((x:Int)+(1:Int))=cI (x':Int)/\SV.c (SC.row 1)=SV.c (SC.row 1)/\True;l.length<=1000000/\(∃x,x<=(bY l).length/\(cI 0=cI (x:Int)/\SV.c (SC.row (Nat.succ 0))=SV.c (SC.row 1)/\True)/\[g0 (ak.row 3 I6 (bY l)),g0 (ak.row 3 I6 [])]=(z2 x))/\∀(x:Nat),x<=(bY l).length->br (decide ((x:Int) < (↑(bY l).length:Int))) ((0<=(x:Int)/\(x:Int) < (↑(bY l).length:Int))/\(x:Int).toNat < (bY l).length/\∀(d:Int),(bY l)[(x:Int).toNat]?=some d->o.length<=4611686018427387904/\br (gQ o d == b) (mY (List.length (z3 x)+List.length ([d])) 8/\iR ((x:Int)+(1:Int))/\∃x',x'<=(bY l).length/\(z1 x x')/\[g0 (ak.row 3 I6 (bY l)),g0 (ak.row 3 I6 (oC (List.take x (bY l)) o b++[d]))]=(z2 x')/\(bY l).length - x' < (bY l).length - x) (iR ((x:Int)+(1:Int))/\∃x',x'<=(bY l).length/\(z1 x x')/\(z2 x)=(z2 x')/\(bY l).length - x' < (bY l).length - x)) ([ak.row 3 I6 (oC (bY l) o b)]=[ak.row 3 I6 (z3 x)]/\bF.one (SV.c (SC.row 0))=bF.one (SV.c (SC.row 0))):=by
 conv=>zeta
 delta cI g0 I6 iR;have hp:l.length<=1000000/\o.length<=1000000:=aF;have hm:=Ym l;have hf:∀k,(oC ((bY l).take k) o b).length<=1000000:=λk=>by
  refine pI (aaL _ _) ?_;rw[jY];omega
 refine⟨hp.1,⟨0,by omega,⟨rfl,rfl,trivial⟩,by simp[oC]⟩,λk hk=>ah.2 ⟨λh=>?_,λh=>?_⟩⟩
 .simp only[eH]at h;refine⟨⟨by omega,h⟩,by omega,λd hd=>?_⟩
  have hd:(bY l)[k]?=some d:=by simpa using hd
  have e:oC ((bY l).take (k+1)) o b=oC ((bY l).take k) o b++(if gQ o d == b then[d] else[]):=by
   unfold oC;rw[OW,hd,afD,List.filter_append]
   congr 1
   simp only[List.filter_cons,List.filter_nil]
  refine⟨by omega,ah.2 ⟨λh2=>⟨?_,aC.2 (by omega),k+1,by omega,⟨by simp,rfl,trivial⟩,?_,by omega⟩,λh2=>⟨aC.2 (by omega),k+1,by omega,⟨by simp,rfl,trivial⟩,?_,by omega⟩⟩⟩
  .have:=hf k;rw[dJ];simp;omega
  .rw[e,h2];rfl
  .rw[e,h2];simp
 .simp only[iH]at h;rw[wo (by omega)];exact⟨rfl,rfl⟩
theorem YZ:aY aV.gd 170 Ec:=
 pz (cx:=aV) (n:=28) (cl:=[(169,yP),(98,DR)]) aB ⟨KI,yO,trivial⟩ Tryz.func170 λd hd=>by
  obtain⟨l,o,b,⟨⟩⟩:=d;exact aT (ah2 l o b) (adr l o b hd) (by kernel_rfl)
abbrev KU:CT:={ ps:=[.sl (.int .i64),.int .i64],pre:=λd=>d.1.length<=1000000,res:=λd=>([.row 3 (.int .i64) (oC (bY d.1) [d.2.1] false)],.one (.c (.row 0))) }
theorem ads(l:List Int) (x:Int) (aF:KU.pre (l,x,())):
 let z1:=[ak.row (3:TypeId) uh (oC (bY l) [x] false)];(l.length<=(1000000:Nat)/\[x].length<=(1000000:Nat))/\z1=z1/\bF.one qC=bF.one qC:=by
 conv=>zeta
 delta uh qC;have hp:l.length<=1000000:=aF;exact⟨⟨hp,by simp⟩,rfl,rfl⟩
theorem Ed:aY aV.gd 112 KU:=
 pz (cx:=aV) (n:=9) (cl:=[(170,Ec)]) aB ⟨YZ,trivial⟩ Tryz.func112 λd hd=>by
  obtain⟨l,x,⟨⟩⟩:=d;exact aT (λ_=>none) (ads l x hd) (by kernel_rfl)
abbrev Y0:CT:={ ps:=[.int .i64],pre:=λd=>0<=d.1/\d.1<=9223372036854775807,res:=λd=>([],.iO [.c (.v (.int .i64 (d.1.tdiv 8 - 1))),.c (.v (.int .i64 (d.1.tmod 8)))]) }
theorem adt(id:Int) (aF:Y0.pre (id,())):
 let z2:=id.tdiv (8:Int) - (1:Int);let z1:=[cI z2,cI (id.tmod (8:Int))];(8:Int)≠(0:Int)/\iR (id.tdiv (8:Int))/\iR z2/\(8:Int)≠(0:Int)/\rT z1 z1:=by
 conv=>zeta
 delta cI rT iR;have hp:0<=id/\id<=9223372036854775807:=aF;have e:id.tdiv 8=id / 8:=aaG hp.1;exact⟨by decide,aC.2 (by omega),aC.2 (by omega),by decide,rfl,rfl⟩
theorem Y1:aY aV.gd 147 Y0:=
 pz (cx:=aV) (n:=9) (cl:=[]) aB trivial Tryz.func147 λd hd=>by
  obtain⟨id,⟨⟩⟩:=d;exact aT (λ_=>none) (adt id hd) (by kernel_rfl)
abbrev KW:CT:={ ps:=[.int .i64],pre:=λd=>d.1<=9223372036854775807,res:=λd=>([],.one (.c (.v (.int .i64 (bM d.1))))) }
abbrev akU(id:Int):Nat->Option (St->kD):=λk=>match k with
 | 4=>some λ_=>.inv { α:=Nat×Int,slots:=λx=>[(8,.c (.v (.int .i64 x.1))),(0,.c (.v (.int .i64 x.2)))],res:=λ_=>[],inv:=λx=>x.1<=5/\0<=x.2/\x.2<=9223372036854775807/\gU (5 - x.1) x.1 x.2=bM id,meas:=λx=>5 - x.1 }
 | _=>none
theorem ah3(id:Int) (aF:KW.pre (id,())):
 let z2:=qI (bM id) (-1:Int);let z1:=λ(x:Nat×Int)=>x.fst<=5/\0<=x.snd/\x.snd<=9223372036854775807/\gU (5 - x.fst) (x.fst:Int) x.snd=bM id;br (decide (id < 0)) z2 ((∃(x:Nat×Int),(z1 x)/\(cI 0=cI (x.fst:Int)/\cI id=cI x.snd/\True)/\([]:List fV)=[])/\∀(x:Nat×Int),x.fst<=5/\0<=x.snd/\x.snd<=9223372036854775807/\gU (5 - x.fst) (x.fst:Int) x.snd=bM id->br (decide ((x.fst:Int) < (5:Int))) (br (decide (x.snd < 8)) (qI (bM id) (x.fst:Int)) ((0<=x.snd/\x.snd<=9223372036854775807)/\br (decide (7<=x.snd.tmod (8:Int))) z2 (iR ((x.fst:Int)+(1:Int))/\∃(x':Nat×Int),(z1 x')/\(cI ((x.fst:Int)+(1:Int))=cI (x'.fst:Int)/\cI (x.snd.tdiv (8:Int) - (1:Int))=cI x'.snd/\True)/\([]:List fV)=[]/\5 - x'.fst < 5 - x.fst))) z2):=by
 conv=>zeta
 delta fV cI qI iR;have hp:id<=9223372036854775807:=aF;refine ah.2 ⟨λh=>?_,λh=>?_⟩
 .simp only[eH]at h;have e:bM id = -1:=by unfold bM;rw[if_pos h]
  rw[e];exact⟨rfl,rfl⟩
 simp only[iH]at h;refine⟨⟨(0,id),⟨by omega,by simp only;omega,hp,by unfold bM;rw[if_neg h];rfl⟩,⟨rfl,rfl,trivial⟩,rfl⟩,λx hx=>ah.2 ⟨λh2=>?_,λh2=>?_⟩⟩
 .obtain⟨x1,x2,x3,x4⟩:=hx;simp only[eH]at h2;obtain⟨m,hm⟩:∃m,5 - x.1=m+1:=⟨4 - x.1,by omega⟩
  rw[hm,gU]at x4;refine ah.2 ⟨λh3=>?_,λh3=>⟨⟨x2,x3⟩,ah.2 ⟨λh4=>?_,λh4=>?_⟩⟩⟩
  .simp only[eH]at h3;rw[if_pos h3]at x4;rw[<-x4];exact⟨rfl,rfl⟩
  .simp only[eH,iH]at h3 h4;rw[if_neg h3,if_pos h4]at x4;rw[<-x4];exact⟨rfl,rfl⟩
  .simp only[iH]at h3 h4;rw[if_neg h3,if_neg h4]at x4;have e:x.2.tdiv 8=x.2 / 8:=aaG x2;refine⟨aC.2 (by omega),(x.1+1,x.2.tdiv 8 - 1),⟨by simp only;omega,by simp only;omega,by simp only;omega,?_⟩,⟨rfl,rfl,trivial⟩,rfl,by simp only;omega⟩
   rw[<-x4,show 5 - (x.1+1)=m by omega];rfl
 .obtain⟨x1,x2,x3,x4⟩:=hx;simp only[iH]at h2;rw[show 5 - x.1=0 by omega]at x4
  rw[<-x4];exact⟨rfl,rfl⟩
theorem IG:aY aV.gd 76 KW:=
 pz (cx:=aV) (n:=23) (cl:=[(147,Y0)]) aB ⟨Y1,trivial⟩ Tryz.func76 λd hd=>by
  obtain⟨id,⟨⟩⟩:=d;exact aT (akU id) (ah3 id hd) (by kernel_rfl)
abbrev Qs:CT:={ ps:=[bQ],pre:=λd=>d.1.1<=9223372036854775807,res:=λd=>([],.iO [.c (.v (.int .i64 (dG d.1.1 d.1.2.2.2.2.2.1).1)),.c (.v (.bool (dG d.1.1 d.1.2.2.2.2.2.1).2))]) }
theorem ah4(id fn pc:Int) (rg:List Int) (st ch ph su fa:Int) (he:List Int) (aF:Qs.pre ((id,fn,pc,rg,st,ch,ph,su,fa,he,()),())):
 let z1:=[cI ((dG id ch).fst),cB ((dG id ch).snd)];id<=9223372036854775807/\br (decide (bM id < 0) || decide (bM id=4) || decide (ch < 0) || decide (7<=ch)) (rT z1 [cI 0,cB false]) (iR (id+1)/\iR ((8:Int) * (id+1))/\iR ((8:Int) * (id+1)+ch)/\rT z1 [cI ((8:Int) * (id+1)+ch),cB true]):=by
 conv=>zeta
 delta cI cB rT iR;refine⟨aF,ah.2 ⟨λh=>?_,λh=>?_⟩⟩
 .have e:dG id ch=(0,false):=by
   unfold dG;rw[if_pos (by simpa[or_assoc]using h)]
  rw[e];exact⟨rfl,rfl⟩
 .simp only[rM,iH]at h;have e:dG id ch=(8 * (id+1)+ch,true):=by
   unfold dG;rw[if_neg (by omega)]
  have:=qG (id:=id) (by omega)
  rw[e];exact⟨aC.2 (by omega),aC.2 (by omega),aC.2 (by omega),rfl,rfl⟩
theorem Qu:aY aV.gd 89 Qs:=
 pz (cx:=aV) (n:=31) (cl:=[(76,KW)]) aB ⟨IG,trivial⟩ Tryz.func89 λd hd=>by
  obtain⟨⟨id,fn,pc,rg,st,ch,ph,su,fa,he,⟨⟩⟩,⟨⟩⟩:=d;exact aT (λ_=>none) (ah4 id fn pc rg st ch ph su fa he hd) (by kernel_rfl)
abbrev OB:CT:={ ps:=[vF,bQ],pre:=λd=>0<=d.2.1.2.1/\d.2.1.2.1 < d.1.2.2.2.1.length/\0<=d.2.1.2.2.1,res:=λd=>([],.iO [.agg [.v (.int .i64 ((atR d.1.2.2.2.1 d.2.1.2.1 d.2.1.2.2.1).1).1),.v (.int .i64 ((atR d.1.2.2.2.1 d.2.1.2.1 d.2.1.2.2.1).1).2.1),.v (.int .i64 ((atR d.1.2.2.2.1 d.2.1.2.1 d.2.1.2.2.1).1).2.2.1),.v (.int .i64 ((atR d.1.2.2.2.1 d.2.1.2.1 d.2.1.2.2.1).1).2.2.2.1),.v (.int .i64 ((atR d.1.2.2.2.1 d.2.1.2.1 d.2.1.2.2.1).1).2.2.2.2.1),.v (.int .i64 ((atR d.1.2.2.2.1 d.2.1.2.1 d.2.1.2.2.1).1).2.2.2.2.2.1),.v (.int .i64 ((atR d.1.2.2.2.1 d.2.1.2.1 d.2.1.2.2.1).1).2.2.2.2.2.2.1),.v (.int .i64 ((atR d.1.2.2.2.1 d.2.1.2.1 d.2.1.2.2.1).1).2.2.2.2.2.2.2.1)],.c (.v (.bool (atR d.1.2.2.2.1 d.2.1.2.1 d.2.1.2.2.1).2))]) }
theorem ah5(vs:List VD) (ms cs:List ByteArray) (fs:List FD) (ts:List SD) (id fn pc:Int) (rg:List Int) (st ch ph su fa:Int) (he:List Int) (aF:OB.pre ((vs,ms,cs,fs,ts,()),(id,fn,pc,rg,st,ch,ph,su,fa,he,()),())):
 let z1:=[SV.agg [v6 ((atR fs fn pc).fst.fst),v6 ((atR fs fn pc).fst.snd.fst),v6 ((atR fs fn pc).fst.snd.snd.fst),v6 ((atR fs fn pc).fst.snd.snd.snd.fst),v6 ((atR fs fn pc).fst.snd.snd.snd.snd.fst),v6 ((atR fs fn pc).fst.snd.snd.snd.snd.snd.fst),v6 ((atR fs fn pc).fst.snd.snd.snd.snd.snd.snd.fst),v6 ((atR fs fn pc).fst.snd.snd.snd.snd.snd.snd.snd.fst)],cB ((atR fs fn pc).snd)];(0<=fn/\fn < (fs.length:Int))/\∀(d:ByteArray×(oV.sl.pair Sh.unit).den),fs[fn.toNat]?=some d->br (decide (((List.length d.snd.fst):Int)<=pc)) (rT z1 [SV.agg [v6 0,v6 0,v6 0,v6 0,v6 0,v6 0,v6 0,v6 0],cB false]) ((0<=pc/\pc < ((List.length d.snd.fst):Int))/\∀(dR:ID),d.snd.fst[pc.toNat]?=some dR->rT z1 [SV.agg [v6 dR.fst,v6 dR.snd.fst,v6 dR.snd.snd.fst,v6 dR.snd.snd.snd.fst,v6 dR.snd.snd.snd.snd.fst,v6 dR.snd.snd.snd.snd.snd.fst,v6 dR.snd.snd.snd.snd.snd.snd.fst,v6 dR.snd.snd.snd.snd.snd.snd.snd.fst],cB true]):=by
 conv=>zeta
 delta v6 cB rT I6;obtain⟨h1,h2,h3⟩:0<=fn/\fn < (fs.length:Int)/\0<=pc:=aF;refine⟨⟨h1,h2⟩,λx hx=>?_⟩
 obtain⟨y,hy,ey⟩:=qH ⟨h1,h2⟩;rw[hx]at hy;cases hy;refine ah.2 ⟨λh=>?_,λh=>?_⟩
 .simp only[eH]at h;have e:atR fs fn pc=((0,0,0,0,0,0,0,0,()),false):=by
   unfold atR sH;rw[ey,uG (by omega)]
  rw[e];exact⟨rfl,rfl⟩
 .simp only[iH]at h;refine⟨⟨h3,by omega⟩,λi hi=>?_⟩
  have e:atR fs fn pc=(i,true):=by
   unfold atR sH;rw[ey,hi]
  rw[e];exact⟨rfl,rfl⟩
theorem yU:aY aV.gd 95 OB:=
 dO (cx:=aV) (n:=25) (cl:=[]) (rc:=[]) aB trivial Tryz.func95 λd hd=>by
  obtain⟨⟨vs,ms,cs,fs,ts,⟨⟩⟩,⟨id,fn,pc,rg,st,ch,ph,su,fa,he,⟨⟩⟩,⟨⟩⟩:=d;exact aT (λ_=>none) (ah5 vs ms cs fs ts id fn pc rg st ch ph su fa he hd) (by kernel_rfl)
abbrev Y2:CT:={ ps:=[bQ,.int .i64,.int .i64],pre:=λd=>True,res:=λd=>([],.one (.dat bQ (IB d.1 d.2.1 d.2.2.1))) }
theorem adu(id fn pc:Int) (rg:List Int) (st ch ph su fa:Int) (he:List Int) (s f:Int):
 rE (bF.one (SV.dat bQ (IB (id,fn,pc,rg,st,ch,ph,su,fa,he,()) s f))) (bF.one (SV.dat bQ ((id,fn,pc,rg,st,ch,ph,s,f,he,())))):=by
 delta rE I6;exact⟨rfl,rfl⟩
theorem KX:aY aV.gd 148 Y2:=
 dO (cx:=aV) (n:=12) (cl:=[]) (rc:=[.data bQ]) aB trivial Tryz.func148 λd hd=>by
  obtain⟨⟨id,fn,pc,rg,st,ch,ph,su,fa,he,⟨⟩⟩,s,f,⟨⟩⟩:=d;exact aT (λ_=>none) (adu id fn pc rg st ch ph su fa he s f) (by kernel_rfl)
abbrev Qv:CT:={ ps:=[bQ,oV],pre:=λd=>d.1.2.2.2.2.2.2.2.2.2.1.length<=1000000/\d.1.1<=9223372036854775807,res:=λd=>([],.one (.c (.v (.int .i64 (kX d.1.1 d.1.2.2.2.2.2.1 d.1.2.2.2.2.2.2.1 d.1.2.2.2.2.2.2.2.2.2.1 d.2.1))))) }
theorem adv(id fn pc:Int) (rg:List Int) (st ch ph su fa:Int) (he:List Int) (op a b c obj n fo ord:Int) (aF:Qv.pre ((id,fn,pc,rg,st,ch,ph,su,fa,he,()),(op,a,b,c,obj,n,fo,ord,()),())):
 let z3:=kX id ch ph he (op,a,b,c,obj,n,fo,ord,());let z2:=qI z3 (0:Int);let z1:=qI z3 (27:Int);br (!decide (ph=0)) z2 (br (decide (op=18)) (he.length<=1000000/\br (!gQ he n) z1 z2) (br (decide (op=16)) (he.length<=1000000/\br (!gQ he obj) z1 z2) (br (decide (op=21)) (id<=9223372036854775807/\br (!(dG id ch).snd) (qI z3 (28:Int)) z2) z2))):=by
 conv=>zeta
 delta qI;obtain⟨h1,h2⟩:he.length<=1000000/\id<=9223372036854775807:=aF;unfold kX;simp only[ah]
 repeat' (first | exact h1 | exact h2 | (refine And.intro ?_ ?_) | (intro _))
 all_goals first | rfl | (simp_all;done)
theorem KY:aY aV.gd 150 Qv:=
 pz (cx:=aV) (n:=35) (cl:=[(165,F9),(89,Qs)]) aB ⟨yQ,Qu,trivial⟩ Tryz.func150 λd hd=>by
  obtain⟨⟨id,fn,pc,rg,st,ch,ph,su,fa,he,⟨⟩⟩,⟨op,a,b,c,obj,n,fo,ord,⟨⟩⟩,⟨⟩⟩:=d;exact aT (λ_=>none) (adv id fn pc rg st ch ph su fa he op a b c obj n fo ord hd) (by kernel_rfl)
theorem bV{c:Prop} [Decidable c] {A B:Prop}:br (decide c) A B↔(c->A)/\(¬c->B):=by
 rw[ah,eH,iH]
abbrev Y3:CT:={ ps:=[bQ,oV],pre:=λd=>(0<=d.2.1.2.1/\d.2.1.2.1 < 8)/\(0<=d.2.1.2.2.1/\d.2.1.2.2.1 < 8)/\(0<=d.2.1.2.2.2.1/\d.2.1.2.2.2.1 < 8)/\0<=d.1.2.2.1/\d.1.2.2.1<=1000000,res:=λd=>([],.iO [.dat bQ (fE d.1 d.2.1).1,.c (.v (.bool (fE d.1 d.2.1).2))]) }
theorem adw(id fn pc:Int) (rg:List Int) (st ch ph su fa:Int) (he:List Int) (op a b c obj n fo ord:Int) (aF:Y3.pre ((id,fn,pc,rg,st,ch,ph,su,fa,he,()),(op,a,b,c,obj,n,fo,ord,()),())):
 let z5:=(id,fn,pc,rg,st,ch,ph,su,fa,he,());let z4:=fE z5 (op,a,b,c,obj,n,fo,ord,());let z3:=[SV.dat bQ z4.fst,cB (z4.snd)];let z1:=rT z3 [SV.dat bQ ((id,fn,pc+1,rg,st,ch,ph,su,fa,he,())),cB true];let z2:=rT z3 [SV.dat bQ ((id,fn,n,rg,st,ch,ph,su,fa,he,())),cB true];iR (pc+1)/\br (decide (op=1)) ((0<=a/\a < 8)/\a.toNat < 8/\rT z3 [SV.dat bQ ((id,fn,pc+1,rg.set a.toNat n,st,ch,ph,su,fa,he,())),cB true]) (br (decide (op=2)) ((0<=b/\b < 8)/\b.toNat < 8/\∀(d:Int),rg[b.toNat]?=some d->(0<=a/\a < 8)/\a.toNat < 8/\rT z3 [SV.dat bQ ((id,fn,pc+1,rg.set a.toNat d,st,ch,ph,su,fa,he,())),cB true]) (br (decide (op=3)) ((0<=b/\b < 8)/\b.toNat < 8/\∀(d:Int),rg[b.toNat]?=some d->(0<=c/\c < 8)/\c.toNat < 8/\∀(dR:Int),rg[c.toNat]?=some dR->True/\br (decide ((iF fo d dR).snd=0)) ((0<=a/\a < 8)/\a.toNat < 8/\rT z3 [SV.dat bQ ((id,fn,pc+1,rg.set a.toNat (iF fo d dR).fst,st,ch,ph,su,fa,he,())),cB true]) z1) (br (decide (op=5)) ((0<=b/\b < 8)/\b.toNat < 8/\∀(d:Int),rg[b.toNat]?=some d->br (decide (d=0)) z1 z2) (br (decide (op=4)) z2 (br (decide (op=6)) ((0<=b/\b < 8)/\b.toNat < 8/\∀(d:Int),rg[b.toNat]?=some d->br (decide (d=0)) (True/\rT z3 [SV.dat bQ (IB z5 (3:Int) (26:Int)),cB false]) z1) (br (decide (op=7)) (True/\rT z3 [SV.dat bQ (IB z5 (2:Int) (0:Int)),cB false]) z1)))))):=by
 conv=>zeta
 delta cB rT I6 iR;obtain⟨hA,hB,hC,hp0,hp1⟩:(0<=a/\a < 8)/\(0<=b/\b < 8)/\(0<=c/\c < 8)/\0<=pc/\pc<=1000000:=aF;have hA8:a.toNat < 8:=by omega
 have hB8:b.toNat < 8:=by omega
 have hC8:c.toNat < 8:=by omega
 have gd:∀{x d:Int},rg[x.toNat]?=some d->rg.getD x.toNat 0=d:=λhd=>by rw[A63,hd];rfl
 refine⟨aC.2 (by omega),bV.2 ⟨λh=>?_,λh=>bV.2 ⟨λh2=>?_,λh2=>bV.2 ⟨λh3=>?_,λh3=>bV.2 ⟨λh4=>?_,λh4=>bV.2 ⟨λh5=>?_,λh5=>bV.2 ⟨λh6=>?_,λh6=>bV.2 ⟨λh7=>?_,λh7=>?_⟩⟩⟩⟩⟩⟩⟩⟩
 .have e:fE (id,fn,pc,rg,st,ch,ph,su,fa,he,()) (op,a,b,c,obj,n,fo,ord,())=((id,fn,pc+1,rg.set a.toNat n,st,ch,ph,su,fa,he,()),true):=by simp only[fE,if_pos h]
  rw[e];exact⟨hA,hA8,rfl,rfl⟩
 .refine⟨hB,hB8,λd hd=>?_⟩
  have e:fE (id,fn,pc,rg,st,ch,ph,su,fa,he,()) (op,a,b,c,obj,n,fo,ord,())=((id,fn,pc+1,rg.set a.toNat d,st,ch,ph,su,fa,he,()),true):=by simp only[fE,if_neg h,if_pos h2,gd hd]
  rw[e];exact⟨hA,hA8,rfl,rfl⟩
 .refine⟨hB,hB8,λd hd=>⟨hC,hC8,λd1 hd1=>⟨trivial,bV.2 ⟨λh8=>?_,λh8=>?_⟩⟩⟩⟩
  .have e:fE (id,fn,pc,rg,st,ch,ph,su,fa,he,()) (op,a,b,c,obj,n,fo,ord,())=((id,fn,pc+1,rg.set a.toNat (iF fo d d1).1,st,ch,ph,su,fa,he,()),true):=by simp only[fE,if_neg h,if_neg h2,if_pos h3,gd hd,gd hd1,if_pos h8]
   rw[e];exact⟨hA,hA8,rfl,rfl⟩
  .have e:fE (id,fn,pc,rg,st,ch,ph,su,fa,he,()) (op,a,b,c,obj,n,fo,ord,())=((id,fn,pc+1,rg,st,ch,ph,su,fa,he,()),true):=by simp only[fE,if_neg h,if_neg h2,if_pos h3,gd hd,gd hd1,if_neg h8]
   rw[e];exact⟨rfl,rfl⟩
 .have h45:¬op=4:=by omega
  refine⟨hB,hB8,λd hd=>bV.2 ⟨λh8=>?_,λh8=>?_⟩⟩
  .have e:fE (id,fn,pc,rg,st,ch,ph,su,fa,he,()) (op,a,b,c,obj,n,fo,ord,())=((id,fn,pc+1,rg,st,ch,ph,su,fa,he,()),true):=by simp only[fE,if_neg h,if_neg h2,if_neg h3,if_neg h45,if_pos h4,gd hd,if_pos h8]
   rw[e];exact⟨rfl,rfl⟩
  .have e:fE (id,fn,pc,rg,st,ch,ph,su,fa,he,()) (op,a,b,c,obj,n,fo,ord,())=((id,fn,n,rg,st,ch,ph,su,fa,he,()),true):=by simp only[fE,if_neg h,if_neg h2,if_neg h3,if_neg h45,if_pos h4,gd hd,if_neg h8]
   rw[e];exact⟨rfl,rfl⟩
 .have e:fE (id,fn,pc,rg,st,ch,ph,su,fa,he,()) (op,a,b,c,obj,n,fo,ord,())=((id,fn,n,rg,st,ch,ph,su,fa,he,()),true):=by simp only[fE,if_neg h,if_neg h2,if_neg h3,if_pos h5]
  rw[e];exact⟨rfl,rfl⟩
 .refine⟨hB,hB8,λd hd=>bV.2 ⟨λh8=>?_,λh8=>?_⟩⟩
  .have e:fE (id,fn,pc,rg,st,ch,ph,su,fa,he,()) (op,a,b,c,obj,n,fo,ord,())=((id,fn,pc,rg,st,ch,ph,3,26,he,()),false):=by simp only[fE,if_neg h,if_neg h2,if_neg h3,if_neg h5,if_neg h4,gd hd];rw[if_pos ⟨h6,h8⟩]
   rw[e];exact⟨trivial,rfl,rfl⟩
  .have h67:¬op=7:=by omega
   have e:fE (id,fn,pc,rg,st,ch,ph,su,fa,he,()) (op,a,b,c,obj,n,fo,ord,())=((id,fn,pc+1,rg,st,ch,ph,su,fa,he,()),true):=by simp only[fE,if_neg h,if_neg h2,if_neg h3,if_neg h5,if_neg h4,gd hd,if_neg h67];rw[if_neg λq=>h8 q.2]
   rw[e];exact⟨rfl,rfl⟩
 .have e:fE (id,fn,pc,rg,st,ch,ph,su,fa,he,()) (op,a,b,c,obj,n,fo,ord,())=((id,fn,pc,rg,st,ch,ph,2,0,he,()),false):=by simp only[fE,if_neg h,if_neg h2,if_neg h3,if_neg h5,if_neg h4,if_pos h7];rw[if_neg λq=>h6 q.1]
  rw[e];exact⟨trivial,rfl,rfl⟩
 .have e:fE (id,fn,pc,rg,st,ch,ph,su,fa,he,()) (op,a,b,c,obj,n,fo,ord,())=((id,fn,pc+1,rg,st,ch,ph,su,fa,he,()),true):=by simp only[fE,if_neg h,if_neg h2,if_neg h3,if_neg h5,if_neg h4,if_neg h7];rw[if_neg λq=>h6 q.1]
  rw[e];exact⟨rfl,rfl⟩
theorem Y4:aY aV.gd 151 Y3:=
 dO (cx:=aV) (n:=87) (cl:=[(97,Qr),(148,Y2)]) (rc:=[.data bQ,.keep]) aB ⟨IE,KX,trivial⟩ Tryz.func151 λd hd=>by
  obtain⟨⟨id,fn,pc,rg,st,ch,ph,su,fa,he,⟨⟩⟩,⟨op,a,b,c,obj,n,fo,ord,⟨⟩⟩,⟨⟩⟩:=d;exact aT (λ_=>none) (adw id fn pc rg st ch ph su fa he op a b c obj n fo ord hd) (by kernel_rfl)
abbrev yV:CT:={ ps:=[vF,.int .i64],pre:=λd=>bnd (d.1,()),res:=λd=>([],.one (.c (.v (.int .i64 (dM (aG d.1.1 d.1.2.1 d.1.2.2.1 d.1.2.2.2.1 d.1.2.2.2.2.1).1 d.2.1))))) }
theorem ah6(vs:List VD) (ms cs:List ByteArray) (fs:List FD) (ts:List SD) (bound:Int) (aF:yV.pre ((vs,ms,cs,fs,ts,()),bound,())):
 let z2:=aG vs ms cs fs ts;let z1:=dM z2.fst bound;(vs.length<=1000000/\ms.length<=1000000/\cs.length<=1000000/\fs.length<=1000000/\ts.length<=1000000/\(∀(x:ByteArray×(oV.sl.pair Sh.unit).den),x∈fs->List.length x.snd.fst<=1000000)/\(dL fs).length<=1000000)/\br (!decide (z2.fst=0)) (qI z1 (z2.fst)) (br (decide (bound < 1) || decide (32 < bound)) (qI z1 (2:Int)) (qI z1 (0:Int))):=by
 conv=>zeta
 delta qI I6;have hb:bnd ((vs,ms,cs,fs,ts,()),()):=aF;refine⟨hb,ah.2 ⟨λh=>?_,λh=>ah.2 ⟨λh2=>?_,λh2=>?_⟩⟩⟩
 .have h:(aG vs ms cs fs ts).1≠0:=by simpa using h
  unfold dM;rw[if_pos h];exact⟨rfl,rfl⟩
 .have h:¬(aG vs ms cs fs ts).1≠0:=by simpa using h
  have h2:bound < 1\/32 < bound:=by simpa using h2
  unfold dM;rw[if_neg h,if_pos h2];exact⟨rfl,rfl⟩
 .have h:¬(aG vs ms cs fs ts).1≠0:=by simpa using h
  have h2:¬(bound < 1\/32 < bound):=by simp only[rM,iH]at h2;omega
  unfold dM;rw[if_neg h,if_neg h2];exact⟨rfl,rfl⟩
theorem II:aY aV.gd 75 yV:=
 pz (cx:=aV) (n:=23) (cl:=[(74,Gj)]) aB ⟨Bv,trivial⟩ Tryz.func75 λd hd=>by
  obtain⟨⟨vs,ms,cs,fs,ts,⟨⟩⟩,bound,⟨⟩⟩:=d;exact aT (λ_=>none) (ah6 vs ms cs fs ts bound hd) (by kernel_rfl)
open Classical in
theorem oW:lI ms fs bound t=true↔dB ms fs bound t:=by
 unfold lI;rw[UE]
theorem EU(h:¬dB ms fs bound t):lI ms fs bound t=false:=UG.2 λq=>h (oW.1 q)
open Classical in
theorem nX:uo ms fs bound t=true↔xq ms fs bound t:=by
 unfold uo;rw[UE]
theorem OC(h:¬xq ms fs bound t):uo ms fs bound t=false:=UG.2 λq=>h (nX.1 q)
abbrev Y5:CT:={ ps:=[vF,.int .i64,bQ],pre:=λd=>True/\d.2.2.1.2.2.2.2.2.2.2.2.2.1.length<=1000000/\d.2.2.1.1<=9223372036854775807/\d.2.2.1.2.2.2.1.length=8,res:=λd=>([],vB (lI d.1.2.1 d.1.2.2.2.1 d.2.1 d.2.2.1)) }
abbrev ah7(vs:List VD) (ms cs:List ByteArray) (fs:List FD) (ts:List SD) (bound id fn pc:Int) (rg:List Int) (st ch ph su fa:Int) (he:List Int):Nat->Option (St->kD):=λk=>match k with
 | 5=>some λ_=>.inv { α:=Nat,slots:=λk=>[(52,.c (.v (.int .i64 k)))],res:=λ_=>[],inv:=λk=>k<=8/\∀j < k,∀r,rg[j]?=some r->dK r=true,meas:=λk=>8 - k }
 | 13=>some λ_=>.inv { α:=Nat,slots:=λk=>[(97,.c (.v (.int .i64 k)))],res:=λ_=>[],inv:=λk=>k<=he.length/\∀j < k,∀m,he[j]?=some m->0<=m/\m < ms.length,meas:=λk=>he.length - k }
 | _=>none
theorem adx(vs:List VD) (ms cs:List ByteArray) (fs:List FD) (ts:List SD) (bound id fn pc:Int) (rg:List Int) (st ch ph su fa:Int) (he:List Int) (aF:Y5.pre ((vs,ms,cs,fs,ts,()),bound,(id,fn,pc,rg,st,ch,ph,su,fa,he,()),())):
 let z3:=!(decide (bM id < 0) || decide (fn < 0) || decide ((fs.length:Int)<=fn) || decide (pc < 0));let z7:=(id,fn,pc,rg,st,ch,ph,su,fa,he,());let z6:=lI ms fs bound z7;let z5:=qB z6 false;let z4:=λ(x:Nat)=>(x<=8/\∀(j:Nat),j < x->∀(r:Int),rg[j]?=some r->dK r=true);let z1:=[g0 (ak.blk 27 [SC.sl Qk vs,SC.sl Sh.str ms,SC.sl Sh.str cs,SC.sl LU fs,SC.sl ji ts]),g0 (ak.obj 56 bQ z7)];let z10:=λ(x:Nat)=>(x:Int)+(1:Int);let z2:=λ(x:Nat)=>(x<=he.length/\∀(j:Nat),j < x->∀(m:Int),he[j]?=some m->0<=m/\m < (ms.length:Int));let z8:=decide (ph=1) || decide (ph=2);let z9:=(atR fs fn pc).fst.fst=18;id<=9223372036854775807/\(z3=true->0<=fn/\fn < (fs.length:Int))/\∀(d:ByteArray×(oV.sl.pair Sh.unit).den),(z3=true->fs[fn.toNat]?=some d)->br (decide (bM id < 0) || decide (fn < 0) || decide ((fs.length:Int)<=fn) || decide (pc < 0) || decide (((List.length d.snd.fst):Int) < pc)) z5 ((∃x,(z4 x)/\(cI 0=cI (x:Int)/\True)/\sm z1)/\∀(x:Nat),(z4 x)->br (decide ((x:Int) < (8:Int))) ((0<=(x:Int)/\(x:Int) < (rg.length:Int))/\∀(d:Int),rg[(x:Int).toNat]?=some d->True/\br (!decide (aX d=d)) z5 (iR (z10 x)/\∃x',(z4 x')/\(cI (z10 x)=cI (x':Int)/\True)/\sm z1/\8 - x' < 8 - x)) (((!(decide (st < 0) || decide (bound < st) || decide (ch < 0) || decide (7 < ch) || decide (bM id=4) && !decide (ch=0)))=true->he.length<=1000000)/\br (decide (st < 0) || decide (bound < st) || decide (ch < 0) || decide (7 < ch) || decide (bM id=4) && !decide (ch=0) || !pF he) z5 ((∃x,(z2 x)/\(cI 0=cI (x:Int)/\True)/\sm z1)/\∀(x:Nat),(z2 x)->br (decide ((x:Int) < (he.length:Int))) ((0<=(x:Int)/\(x:Int) < (he.length:Int))/\∀(d:Int),he[(x:Int).toNat]?=some d->br (decide (d < 0) || decide ((ms.length:Int)<=d)) z5 (iR (z10 x)/\∃x',(z2 x')/\(cI (z10 x)=cI (x':Int)/\True)/\sm z1/\he.length - x' < he.length - x)) (br (decide (ph=0)) (qB z6 true) ((0<=fn/\fn < (fs.length:Int)/\0<=pc)/\((z8 && (atR fs fn pc).snd && decide z9)=true->he.length<=1000000)/\qB z6 (z8 && (atR fs fn pc).snd && decide z9 && !gQ he (atR fs fn pc).fst.snd.snd.snd.snd.snd.fst)))))):=by
 conv=>zeta
 delta cI g0 qB sm I6 iR;obtain⟨_,EW,hid,hrg⟩:True/\he.length<=1000000/\id<=9223372036854775807/\rg.length=8:=aF;have fF:¬dB ms fs bound (id,fn,pc,rg,st,ch,ph,su,fa,he,())->([]:List Go.lH.ak)=[]/\bF.one (SV.c (SC.v (Value.bool (lI ms fs bound (id,fn,pc,rg,st,ch,ph,su,fa,he,())))))=bF.one (SV.c (SC.v (Value.bool false))):=λq=>⟨rfl,by rw[EU q]⟩
 refine⟨hid,λg=>by simp at g;omega,λx hx=>ah.2 ⟨λh=>?_,λh=>?_⟩⟩
 .refine fF λq=>?_
  obtain⟨q1,q2,q3,_⟩:=q;obtain⟨y,hy,ey⟩:=qH q2;have hx:=hx (by simp;omega)
  rw[hx]at hy;cases hy;rw[ey]at q3;simp at h;omega
 simp only[rM,iH]at h;obtain⟨⟨⟨⟨h1,h2⟩,h3⟩,h4⟩,h5⟩:=h;have hx:=hx (by simp;omega)
 have hfn:0<=fn/\fn < (fs.length:Int):=by omega
 obtain⟨y,hy,ey⟩:=qH hfn;rw[hx]at hy;cases hy;have hpc:0<=pc/\pc<=((codeF fs fn).length:Int):=by rw[ey];omega
 refine⟨⟨0,⟨by omega,λj hj=>by omega⟩,⟨rfl,trivial⟩,rfl⟩,λk hk=>ah.2 ⟨λh=>?_,λh=>?_⟩⟩
 .simp only[eH]at h;refine⟨by omega,λd hd=>⟨trivial,ah.2 ⟨λh6=>?_,λh6=>⟨aC.2 (by omega),k+1,⟨by omega,λj hj r hr=>?_⟩,⟨rfl,trivial⟩,rfl,by omega⟩⟩⟩⟩
  .refine fF λq=>?_
   have:=q.2.2.2.1 k (by omega) d hd
   unfold dK at this;have h6:¬aX d=d:=by simpa using h6
   exact h6 (DY.2 (by simpa using this))
  .have h6:aX d=d:=by simpa using h6
   by_cases jh:j=k
   .subst jh;have hd:rg[j]?=some d:=hd;rw[hd]at hr;cases hr;unfold dK;exact Jg (DY.1 h6)
   .exact hk.2 j (by omega) r hr
 simp only[iH]at h;have hr:∀k < 8,∀r,rg[k]?=some r->dK r=true:=λj hj r hr=>hk.2 j (by omega) r hr
 refine⟨λ_=>EW,ah.2 ⟨λh7=>?_,λh7=>?_⟩⟩
 .refine fF λq=>?_
  obtain⟨_,_,_,_,q5,q6,q7,_⟩:=q;have e:pF he=true:=Jg q7;rw[e]at h7;simp at h7;omega
 simp only[rM,Rt,BJ,iH,eH]at h7;obtain⟨⟨⟨⟨⟨a1,a2⟩,a3⟩,a4⟩,a5⟩,a6⟩:=h7;have hss:SS he:=GI a6;refine⟨⟨0,⟨by omega,λj hj=>by omega⟩,⟨rfl,trivial⟩,rfl⟩,λm hm=>ah.2 ⟨λh8=>?_,λh8=>?_⟩⟩
 .simp only[eH]at h8;refine⟨by omega,λd hd=>ah.2 ⟨λh9=>?_,λh9=>⟨aC.2 (by omega),m+1,⟨by omega,λj hj r hr=>?_⟩,⟨rfl,trivial⟩,rfl,by omega⟩⟩⟩
  .refine fF λq=>?_
   have:=q.2.2.2.2.2.2.2.1 d (iJ hd);simp at h9;omega
  .by_cases jh:j=m
   .subst jh;have hd:he[j]?=some d:=hd;rw[hd]at hr;cases hr;simp at h9;omega
   .exact hm.2 j (by omega) r hr
 simp only[iH]at h8;have hmm:∀m∈he,0<=m/\m < (ms.length:Int):=λy hy=>by
  obtain⟨j,hj⟩:=LK hy;exact hm.2 j (by have:=(fH.1 hj).1;omega) y hj
 have base:(ph=0\/((ph=1\/ph=2)/\∃i,sH fs fn pc=some i/\i.1=18/\gQ he i.2.2.2.2.2.1=false))↔dB ms fs bound (id,fn,pc,rg,st,ch,ph,su,fa,he,()):=
  ⟨λq=>⟨by omega,hfn,hpc,hr,by omega,⟨by omega,by omega,λe=>by omega⟩,hss,hmm,q⟩,λq=>q.2.2.2.2.2.2.2.2⟩
 have fB:∀b:Bool,(b=true↔(ph=0\/((ph=1\/ph=2)/\∃i,sH fs fn pc=some i/\i.1=18/\gQ he i.2.2.2.2.2.1=false)))->bF.one (SV.c (SC.v (Value.bool (lI ms fs bound (id,fn,pc,rg,st,ch,ph,su,fa,he,())))))=bF.one (SV.c (SC.v (Value.bool b))):=λb hb=>by
  have:lI ms fs bound (id,fn,pc,rg,st,ch,ph,su,fa,he,())=b:=by
   rw[OX,hb,base,oW]
  rw[this]
 refine ah.2 ⟨λh9=>⟨rfl,fB _ ?_⟩,λh9=>⟨⟨hfn.1,hfn.2,hpc.1⟩,λ_=>EW,rfl,fB _ ?_⟩⟩
 .simp at h9;simp[h9]
 .simp at h9;cases ha:sH fs fn pc with
  | none=>rw[show atR fs fn pc=((0,0,0,0,0,0,0,0,()),false) by unfold atR;rw[ha]];simp[h9]
  | some i=>rw[show atR fs fn pc=(i,true) by unfold atR;rw[ha]];simp[h9,and_assoc]
theorem Y6:aY aV.gd 167 Y5:=
 dO (cx:=aV) (n:=144) (cl:=[(76,KW),(77,Eb),(192,ctV),(95,OB),(165,F9)]) (rc:=[]) aB ⟨IG,Bz,KT,yU,yQ,trivial⟩ Tryz.func167 λd hd=>by
  obtain⟨⟨vs,ms,cs,fs,ts,⟨⟩⟩,bound,⟨id,fn,pc,rg,st,ch,ph,su,fa,he,⟨⟩⟩,⟨⟩⟩:=d;exact aT (ah7 vs ms cs fs ts bound id fn pc rg st ch ph su fa he) (adx vs ms cs fs ts bound id fn pc rg st ch ph su fa he hd) (by kernel_rfl)
abbrev IJ:CT:={ ps:=[vF,.int .i64,bQ],pre:=λd=>(aG d.1.1 d.1.2.1 d.1.2.2.1 d.1.2.2.2.1 d.1.2.2.2.2.1).1=0/\d.2.2.1.2.2.2.2.2.2.2.2.2.1.length<=1000000/\d.2.2.1.1<=9223372036854775807/\d.2.2.1.2.2.2.1.length=8,res:=λd=>([],vB (uo d.1.2.1 d.1.2.2.2.1 d.2.1 d.2.2.1)) }
theorem ady(vs:List VD) (ms cs:List ByteArray) (fs:List FD) (ts:List SD) (bound id fn pc:Int) (rg:List Int) (st ch ph su fa:Int) (he:List Int) (aF:IJ.pre ((vs,ms,cs,fs,ts,()),bound,(id,fn,pc,rg,st,ch,ph,su,fa,he,()),())):
 let z5:=(id,fn,pc,rg,st,ch,ph,su,fa,he,());let z4:=uo ms fs bound z5;let z3:=qB z4 false;let z2:=((!(!decide (fa=0) || !(atR fs fn pc).snd))=true->True)/\((!(!decide (fa=0) || !(atR fs fn pc).snd || !ni (atR fs fn pc).fst.fst))=true->he.length<=1000000/\id<=9223372036854775807)/\br (!decide (fa=0) || !(atR fs fn pc).snd || !ni (atR fs fn pc).fst.fst || !decide (kX id ch ph he (atR fs fn pc).fst=0)) z3 (qB z4 (decide (su=1) && decide (st < bound) || decide (su=4) && decide (1<=st)));let z6:=(atR fs fn pc).fst.fst=6;let z1:=br (decide (su=2)) (qB z4 (decide (fa=0) && decide (ph=0) && (!(atR fs fn pc).snd || decide ((atR fs fn pc).fst.fst=7)))) (br (decide (su=3)) (br (!decide (ph=0) || !(atR fs fn pc).snd) z3 (br (decide (fa=26)) ((decide z6=true->0<=(atR fs fn pc).fst.snd.snd.fst/\(atR fs fn pc).fst.snd.snd.fst < 8)/\(decide z6=true->(atR fs fn pc).fst.snd.snd.fst.toNat < 8)/\∀(d:Int),(decide z6=true->rg[(atR fs fn pc).fst.snd.snd.fst.toNat]?=some d)->qB z4 (decide z6 && decide (d=0))) (br (decide (fa=29)) (True/\qB z4 (!ni (atR fs fn pc).fst.fst)) (((!decide (fa=0))=true->he.length<=1000000/\id<=9223372036854775807)/\qB z4 (!decide (fa=0) && decide (kX id ch ph he (atR fs fn pc).fst=fa)))))) z3);(True/\he.length<=1000000/\id<=9223372036854775807/\rg.length=8)/\br (!lI ms fs bound z5) z3 ((0<=fn/\fn < (fs.length:Int)/\0<=pc)/\br (decide (su=1)) (br (decide (su=1)) z2 z1) (br (decide (su=4)) z2 z1)):=by
 conv=>zeta
 delta qB;obtain⟨hc,EW,hid,hrg⟩:(aG vs ms cs fs ts).1=0/\he.length<=1000000/\id<=9223372036854775807/\rg.length=8:=aF;refine⟨⟨trivial,EW,hid,hrg⟩,ah.2 ⟨λh=>⟨rfl,?_⟩,λh=>?_⟩⟩
 .have:uo ms fs bound (id,fn,pc,rg,st,ch,ph,su,fa,he,())=false:=OC λq=>by
   have e:=oW.2 q.1;rw[e]at h;cases h
  rw[this]
 have hF:dB ms fs bound (id,fn,pc,rg,st,ch,ph,su,fa,he,()):=by
  have e:lI ms fs bound (id,fn,pc,rg,st,ch,ph,su,fa,he,())=true:=by simpa using h
  exact oW.1 e
 have hfn:=hF.2.1;refine⟨⟨hfn.1,hfn.2,hF.2.2.1.1⟩,?_⟩;have W:∀b:Bool,(b=true↔(((su=1/\st < bound\/su=4/\1<=st)/\fa=0/\∃i,sH fs fn pc=some i/\ni i.1=true/\kX id ch ph he i=0) \/
  (su=2/\fa=0/\ph=0/\∀i,sH fs fn pc=some i->i.1=7) \/
  (su=3/\ph=0/\∃i,sH fs fn pc=some i/\(fa=26/\i.1=6/\rg.getD i.2.2.1.toNat 0=0\/fa=29/\ni i.1=false\/fa≠26/\fa≠29/\fa≠0/\kX id ch ph he i=fa)))) ->
   bF.one (SV.c (SC.v (Value.bool (uo ms fs bound (id,fn,pc,rg,st,ch,ph,su,fa,he,())))))=bF.one (SV.c (SC.v (Value.bool b))):=λb hb=>by
  have:uo ms fs bound (id,fn,pc,rg,st,ch,ph,su,fa,he,())=b:=by
   rw[OX,hb,nX];exact⟨λq=>q.2,λq=>⟨hF,q⟩⟩
  rw[this]
 cases ha:sH fs fn pc with
 | none=>
   rw[show atR fs fn pc=((0,0,0,0,0,0,0,0,()),false) by unfold atR;rw[ha]]
   simp only[ah,ha]at W ⊢
   repeat' (first | exact EW | exact hid | (refine And.intro ?_ ?_) | (intro _))
   all_goals first | rfl | trivial | exact EW | exact hid | (refine W _ ?_;simp_all;done) | (simp_all;done)
 | some i=>
   rw[show atR fs fn pc=(i,true) by unfold atR;rw[ha]]
   obtain⟨r1,r2,r3,r4⟩:=lD (rF (D5 hc hfn ha)).1;have rb8:i.2.2.1.toNat < 8:=by omega
   have gd:∀{x d:Int},rg[x.toNat]?=some d->rg.getD x.toNat 0=d:=λhd=>by rw[A63,hd];rfl
   simp only[ah,ha]at W ⊢
   repeat' (first | exact EW | exact hid | exact r2.1 | exact r2.2 | exact rb8 | (refine And.intro ?_ ?_) | (intro _))
   all_goals first | rfl | trivial | exact EW | exact hid | exact r2.1 | exact r2.2 | exact rb8 | (refine W _ ?_;simp_all;done) | (refine W _ ?_;clear W;simp_all;grind) | skip
theorem KZ:aY aV.gd 108 IJ:=
 dO (cx:=aV) (n:=123) (cl:=[(167,Y5),(95,OB),(149,YV),(150,Qv)]) (rc:=[]) aB ⟨Y6,yU,KR,KY,trivial⟩ Tryz.func108 λd hd=>by
  obtain⟨⟨vs,ms,cs,fs,ts,⟨⟩⟩,bound,⟨id,fn,pc,rg,st,ch,ph,su,fa,he,⟨⟩⟩,⟨⟩⟩:=d;exact aT (λ_=>none) (ady vs ms cs fs ts bound id fn pc rg st ch ph su fa he hd) (by kernel_rfl)
theorem Y7(h:(LW vs ms cs fs).1=0):eF fs < 0:=by
 unfold LW at h;split at h
 .rename_i d hd;have hp:=UR hd;split at h
  .cases h
  .rename_i h1;simp only[Fb,eH]at hp;rcases hp with hp | hp
   .exact absurd hp h1
   .exact absurd h hp
 .split at h
  .cases h
  .omega
theorem Y8(h:eF fs < 0):∀f∈fs,f.2.1.length<=64:=by
 unfold eF at h;split at h
 .omega
 .rename_i hn;rw[A92]at hn;intro f hf;simpa using hn f hf
theorem Ee(h:(aG vs ms cs fs ts).1=0){fn:Int} (hf:0<=fn/\fn < fs.length):(codeF fs fn).length<=64:=by
 obtain⟨x,hx,ex⟩:=qH hf;rw[ex];exact Y8 (Y7 (nV h).2.1) x (iJ hx)
theorem Y9{fn:Int} (h:sH fs fn pc=none) (k:Nat):fJ fs bound k (id,fn,pc,rg,st,ch,ph,su,fa,he,u)=(id,fn,pc,rg,st,ch,ph,2,0,he,()):=by
 cases k<;>(rw[fJ];unfold topS;simp only[h])
theorem adz{fn:Int} (h:sH fs fn pc=some i) (hv:ni i.1=true) (k:Nat):fJ fs bound k (id,fn,pc,rg,st,ch,ph,su,fa,he,u) =
 if kX id ch ph he i≠0 then(id,fn,pc,rg,st,ch,ph,3,kX id ch ph he i,he,()) else if st=bound then(id,fn,pc,rg,st,ch,ph,4,0,he,()) else(id,fn,pc,rg,st,ch,ph,su,fa,he,()):=by
 cases k<;>(rw[fJ];unfold topS;simp only[h];rw[if_pos hv])
theorem Za{fn:Int} (h:sH fs fn pc=some i) (hv:ni i.1=false):fJ fs bound 0 (id,fn,pc,rg,st,ch,ph,su,fa,he,u)=(id,fn,pc,rg,st,ch,ph,3,29,he,()):=by
 rw[fJ];unfold topS;simp only[h];rw[if_neg (by rw[hv];simp)];rfl
theorem Zb{fn:Int} (h:sH fs fn pc=some i) (hv:ni i.1=false) (k:Nat):fJ fs bound (k+1) (id,fn,pc,rg,st,ch,ph,su,fa,he,u) =
 if(fE (id,fn,pc,rg,st,ch,ph,su,fa,he,u) i).2=true then fJ fs bound k (fE (id,fn,pc,rg,st,ch,ph,su,fa,he,u) i).1 else(fE (id,fn,pc,rg,st,ch,ph,su,fa,he,u) i).1:=by
 rw[fJ];unfold topS;simp only[h];rw[if_neg (by rw[hv];simp)]
theorem IK(t:TD) (i:ID):(fE t i).1.2.2.2.1.length=t.2.2.2.1.length:=by
 obtain⟨id,fn,pc,rg,st,ch,ph,su,fa,hd,u⟩:=t;obtain⟨op,a,b,c,obj,n,f,ord,u2⟩:=i;unfold fE;simp only
 repeat' split
 all_goals simp
abbrev Qw:CT:={ ps:=[vF,.int .i64,bQ],pre:=λd=>(aG d.1.1 d.1.2.1 d.1.2.2.1 d.1.2.2.2.1 d.1.2.2.2.2.1).1=0/\dB d.1.2.1 d.1.2.2.2.1 d.2.1 d.2.2.1/\d.2.2.1.2.2.2.2.2.2.2.2.2.1.length<=1000000/\d.2.2.1.1<=9223372036854775807/\d.2.2.1.2.2.2.1.length=8,res:=λd=>([],.one (.dat bQ (fJ d.1.2.2.2.1 d.2.1 256 d.2.2.1))) }
abbrev akV(vs:List VD) (ms cs:List ByteArray) (fs:List FD) (ts:List SD) (bound id fn pc:Int) (rg:List Int) (st ch ph su fa:Int) (he:List Int):Nat->Option (St->kD):=λk=>match k with
 | 4=>some λ_=>.inv { α:=Nat×TD,slots:=λx=>[(7,.c (.v (.int .i64 x.1)))],res:=λx=>[(1,.obj 56 bQ x.2)],inv:=λx=>x.1<=256/\dB ms fs bound x.2/\x.2.2.2.2.2.2.2.2.2.2.1=he/\x.2.1=id/\x.2.2.2.2.1.length=8/\fJ fs bound (256 - x.1) x.2=fJ fs bound 256 (id,fn,pc,rg,st,ch,ph,su,fa,he,()),meas:=λx=>257 - x.1 }
 | _=>none
theorem ah8(vs:List VD) (ms cs:List ByteArray) (fs:List FD) (ts:List SD) (bound id fn pc:Int) (rg:List Int) (st ch ph su fa:Int) (he:List Int) (aF:Qw.pre ((vs,ms,cs,fs,ts,()),bound,(id,fn,pc,rg,st,ch,ph,su,fa,he,()),())):
 let z7:=(id,fn,pc,rg,st,ch,ph,su,fa,he,());let z2:=λ(x:Nat×TD)=>x.fst<=256/\dB ms fs bound x.snd/\x.snd.snd.snd.snd.snd.snd.snd.snd.snd.snd.fst=he/\x.snd.fst=id/\x.snd.snd.snd.snd.fst.length=8/\fJ fs bound (256 - x.fst) x.snd=fJ fs bound 256 z7;let z3:=[SC.sl Qk vs,SC.sl Sh.str ms,SC.sl Sh.str cs,SC.sl LU fs,SC.sl ji ts];let z1:=λ(x:Nat×TD)=>[g0 (ak.blk 27 z3),g0 (ak.obj 56 bQ x.snd),g0 (ak.obj 56 bQ ((0:Int),(0:Int),(0:Int),List.replicate 8 (0:Int),(0:Int),(0:Int),(0:Int),(0:Int),(0:Int),[],())),g0 ak.gone];let z8:=λ(x:Nat×TD)=>atR fs x.snd.snd.fst x.snd.snd.snd.fst;let z5:=fJ fs bound 256 z7;let z9:=bF.one (SV.dat bQ z5);let z6:=λ(x:Nat×TD)=>fE x.snd (z8 x).fst;let z4:=λ(x:Nat×TD)=>(z6 x).fst;he.length<=1000000/\(∃(x:Nat×TD),(z2 x)/\(cI 0=cI (x.fst:Int)/\True)/\[g0 (ak.blk 27 z3),g0 (ak.obj 56 bQ z7),g0 (ak.obj 56 bQ ((0:Int),(0:Int),(0:Int),List.replicate 8 (0:Int),(0:Int),(0:Int),(0:Int),(0:Int),(0:Int),[],())),g0 ak.gone]=(z1 x))/\∀(x:Nat×TD),x.fst<=256/\dB ms fs bound x.snd/\x.snd.snd.snd.snd.snd.snd.snd.snd.snd.snd.fst=he/\x.snd.fst=id/\x.snd.snd.snd.snd.fst.length=8/\fJ fs bound (256 - x.fst) x.snd=fJ fs bound 256 z7->(0<=x.snd.snd.fst/\x.snd.snd.fst < (fs.length:Int)/\0<=x.snd.snd.snd.fst)/\br (!(z8 x).snd) (True/\rE z9 (bF.one (SV.dat bQ (IB x.snd (2:Int) (0:Int))))) (True/\br (ni (z8 x).fst.fst) ((List.length x.snd.snd.snd.snd.snd.snd.snd.snd.snd.snd.fst<=1000000/\x.snd.fst<=9223372036854775807)/\br (!decide (kX x.snd.fst x.snd.snd.snd.snd.snd.snd.fst x.snd.snd.snd.snd.snd.snd.snd.fst x.snd.snd.snd.snd.snd.snd.snd.snd.snd.snd.fst (z8 x).fst=0)) (True/\rE z9 (bF.one (SV.dat bQ (IB x.snd (3:Int) (kX x.snd.fst x.snd.snd.snd.snd.snd.snd.fst x.snd.snd.snd.snd.snd.snd.snd.fst x.snd.snd.snd.snd.snd.snd.snd.snd.snd.snd.fst (z8 x).fst))))) (br (decide (x.snd.snd.snd.snd.snd.fst=bound)) (True/\rE z9 (bF.one (SV.dat bQ (IB x.snd (4:Int) (0:Int))))) (rE z9 (bF.one (SV.dat bQ (x.snd)))))) (br (decide ((x.fst:Int)=(256:Int))) (True/\rE z9 (bF.one (SV.dat bQ (IB x.snd (3:Int) (29:Int))))) (((0<=(z8 x).fst.snd.fst/\(z8 x).fst.snd.fst < 8)/\(0<=(z8 x).fst.snd.snd.fst/\(z8 x).fst.snd.snd.fst < 8)/\(0<=(z8 x).fst.snd.snd.snd.fst/\(z8 x).fst.snd.snd.snd.fst < 8)/\0<=x.snd.snd.snd.fst/\x.snd.snd.snd.fst<=1000000)/\br (!(z6 x).snd) (rE z9 (bF.one (SV.dat bQ (z4 x)))) (iR ((x.fst:Int)+(1:Int))/\∃(x':Nat×TD),(z2 x')/\(cI ((x.fst:Int)+(1:Int))=cI (x'.fst:Int)/\True)/\[g0 (ak.blk 27 z3),g0 (ak.obj 56 bQ (z4 x)),g0 (ak.obj 56 bQ ((0:Int),(0:Int),(0:Int),List.replicate 8 (0:Int),(0:Int),(0:Int),(0:Int),(0:Int),(0:Int),[],())),g0 ak.gone]=(z1 x')/\257 - x'.fst < 257 - x.fst)))):=by
 conv=>zeta
 delta cI g0 rE I6 iR;obtain⟨hc,hF,EW,hid,hrg⟩:(aG vs ms cs fs ts).1=0/\dB ms fs bound (id,fn,pc,rg,st,ch,ph,su,fa,he,())/\he.length<=1000000/\id<=9223372036854775807/\rg.length=8:=aF;refine⟨EW,⟨(0,(id,fn,pc,rg,st,ch,ph,su,fa,he,())),⟨by omega,hF,rfl,rfl,hrg,rfl⟩,⟨rfl,trivial⟩,rfl⟩,λx hx=>?_⟩
 obtain⟨k,id',fn',pc',Ux,st',ch',ph',su',fa',he',⟨⟩⟩:=x;obtain⟨x1,x2,x3,x4,x5,x6⟩:=hx;have x1:k<=256:=x1;have x3:he'=he:=x3;have x4:id'=id:=x4;have x5:Ux.length=8:=x5;have x6:fJ fs bound (256 - k) (id',fn',pc',Ux,st',ch',ph',su',fa',he',())=fJ fs bound 256 (id,fn,pc,rg,st,ch,ph,su,fa,he,()):=x6;have x2:dB ms fs bound (id',fn',pc',Ux,st',ch',ph',su',fa',he',()):=x2;subst x3;subst x4;rw[<-x6];have hfn:=x2.2.1;have hpc:=x2.2.2.1;refine⟨⟨hfn.1,hfn.2,hpc.1⟩,?_⟩;show br (!(atR fs fn' pc').2) _ _;cases ha:sH fs fn' pc' with
 | none=>
   rw[show atR fs fn' pc'=((0,0,0,0,0,0,0,0,()),false) by unfold atR;rw[ha]]
   refine ah.2 ⟨λ_=>⟨trivial,rfl,?_⟩,λq=>by simp at q⟩
   rw[Y9 ha];rfl
 | some i=>
   rw[show atR fs fn' pc'=(i,true) by unfold atR;rw[ha]]
   obtain⟨r1,r2,r3,r4⟩:=lD (rF (D5 hc hfn ha)).1;have h64:=Ee hc hfn;refine ah.2 ⟨λq=>by simp at q,λ_=>⟨trivial,ah.2 ⟨λhv=>?_,λhv=>?_⟩⟩⟩
   .have hv:ni i.1=true:=hv;rw[adz ha hv];refine⟨⟨EW,hid⟩,ah.2 ⟨λh1=>?_,λh1=>ah.2 ⟨λh2=>?_,λh2=>?_⟩⟩⟩
    .have h1:kX id' ch' ph' he' i≠0:=by simpa using h1
     rw[if_pos h1];exact⟨trivial,rfl,rfl⟩
    .have h1:¬kX id' ch' ph' he' i≠0:=by simpa using h1
     have h2:st'=bound:=by simpa using h2
     rw[if_neg h1,if_pos h2];exact⟨trivial,rfl,rfl⟩
    .have h1:¬kX id' ch' ph' he' i≠0:=by simpa using h1
     have h2:¬st'=bound:=by simpa using h2
     rw[if_neg h1,if_neg h2];exact⟨rfl,rfl⟩
   .have hv:ni i.1=false:=hv;refine ah.2 ⟨λh1=>?_,λh1=>?_⟩
    .have h1:k=256:=by
      have:(k:Int)=256:=by simpa using h1
      omega
     rw[h1,show 256 - 256=0 from rfl,Za ha hv]
     exact⟨trivial,rfl,rfl⟩
    .have h1:¬k=256:=by
      have:¬(k:Int)=256:=by simpa using h1
      omega
     obtain⟨m,hm⟩:∃m,256 - k=m+1:=⟨255 - k,by omega⟩
     rw[hm,Zb ha hv];have hk:=D7 (id',fn',pc',Ux,st',ch',ph',su',fa',he',()) i;have hlen:=IK (id',fn',pc',Ux,st',ch',ph',su',fa',he',()) i;have hfo:=D6 hc x2 ha hv;refine⟨⟨r1,r2,r3,hpc.1,show pc'<=1000000 by omega⟩,ah.2 ⟨λh2=>?_,λh2=>⟨aC.2 (show(-9223372036854775808:Int)<=(k:Int)+1/\(k:Int)+1<=9223372036854775807 by omega),(k+1,(fE (id',fn',pc',Ux,st',ch',ph',su',fa',he',()) i).1),⟨show k+1<=256 by omega,hfo,hk.2.2.2.2.2.1,hk.1,hlen.trans x5,?_⟩,⟨rfl,trivial⟩,rfl,show 257 - (k+1) < 257 - k by omega⟩⟩⟩
     .have h2:¬(fE (id',fn',pc',Ux,st',ch',ph',su',fa',he',()) i).2=true:=by simpa using h2
      rw[if_neg h2];exact⟨rfl,rfl⟩
     .have h2:(fE (id',fn',pc',Ux,st',ch',ph',su',fa',he',()) i).2=true:=by simpa using h2
      show fJ fs bound (256 - (k+1)) _=_;rw[if_pos h2,show 256 - (k+1)=m by omega]
theorem Qx:aY aV.gd 78 Qw:=
 dO (cx:=aV) (n:=59) (cl:=[(58,rC),(95,OB),(148,Y2),(149,YV),(150,Qv),(151,Y3)]) (rc:=[.data bQ]) aB ⟨yN,yU,KX,KR,KY,Y4,trivial⟩ Tryz.func78 λd hd=>by
  obtain⟨⟨vs,ms,cs,fs,ts,⟨⟩⟩,bound,⟨id,fn,pc,rg,st,ch,ph,su,fa,he,⟨⟩⟩,⟨⟩⟩:=d;exact aT (akV vs ms cs fs ts bound id fn pc rg st ch ph su fa he) (ah8 vs ms cs fs ts bound id fn pc rg st ch ph su fa he hd) (by kernel_rfl)
theorem val_wrap(n:Int):dK n=decide (aX n=n):=by
 unfold dK;rw[OX,UE,UE,DY]
theorem afm(h:Jc vs ms cs fs=0):ms.length<=4:=by
 unfold Jc at h;split at h
 .cases h
 .omega
theorem rG(h:dB ms fs bound t) (hm:ms.length<=4):t.2.2.2.2.2.2.2.2.2.1.length<=4:=by
 obtain⟨id,fn,pc,rg,st,ch,ph,su,fa,he,u⟩:=t;exact pI (YP h.2.2.2.2.2.2.1 h.2.2.2.2.2.2.2.1) hm
theorem Gn(h:dB ms fs bound t):t.1<=9223372036854775807:=by
 obtain⟨id,fn,pc,rg,st,ch,ph,su,fa,he,u⟩:=t;have:=qG h.1;show id<=9223372036854775807;omega
theorem Qy(t:TD) (i:ID) (r:Int):(kR t i r).2.2.2.1.length=t.2.2.2.1.length:=by
 obtain⟨id,fn,pc,rg,st,ch,ph,su,fa,hd,u⟩:=t;have e:(if(lV i).2=true then rg.set (lV i).1.toNat r else rg).length=rg.length:=by split<;>simp
 unfold kR;simp only;split
 .split
  .exact e
  split
  .exact e
  .exact e
 .exact e
theorem Zc(h:AB i=0) (hd:(lV i).2=true):0<=(lV i).1/\(lV i).1 < 8:=by
 obtain⟨r1,_⟩:=lD h;unfold lV at hd ⊢;split at hd
 .cases hd
 .rename_i q;rw[if_neg q];exact r1
abbrev Qz:CT:={ ps:=[vF,.int .i64,.int .i64,.int .i64,.int .i64],pre:=λd=>bnd (d.1,())/\d.2.2.1<=9223372036854775807,res:=λd=>([],.iO [.dat bQ (newS (aG d.1.1 d.1.2.1 d.1.2.2.1 d.1.2.2.2.1 d.1.2.2.2.2.1).1 d.1.2.2.2.1 d.2.1 d.2.2.1 d.2.2.2.1 d.2.2.2.2.1).1,.c (.v (.int .i64 (newS (aG d.1.1 d.1.2.1 d.1.2.2.1 d.1.2.2.2.1 d.1.2.2.2.2.1).1 d.1.2.2.2.1 d.2.1 d.2.2.1 d.2.2.2.1 d.2.2.2.2.1).2))]) }
abbrev kq1:=[SV.dat bQ (((0:Int),(0:Int),(0:Int),[(0:Int),(0:Int),(0:Int),(0:Int),(0:Int),(0:Int),(0:Int),(0:Int)],(0:Int),(0:Int),(0:Int),(0:Int),(0:Int),[],())),cI 2]
abbrev Uy:=[(0:Int),(0:Int),(0:Int),(0:Int),(0:Int),(0:Int),(0:Int),(0:Int)]
theorem ah9(vs:List VD) (ms cs:List ByteArray) (fs:List FD) (ts:List SD) (bound id fn arg:Int) (aF:Qz.pre ((vs,ms,cs,fs,ts,()),bound,id,fn,arg,())):
 let z4:=aG vs ms cs fs ts;let z3:=newS z4.fst fs bound id fn arg;let z2:=[SV.dat bQ z3.fst,cI (z3.snd)];let z1:=rT z2 kq1;(vs.length<=1000000/\ms.length<=1000000/\cs.length<=1000000/\fs.length<=1000000/\ts.length<=1000000/\(∀(x:ByteArray×(oV.sl.pair Sh.unit).den),x∈fs->List.length x.snd.fst<=1000000)/\(dL fs).length<=1000000)/\br (!decide (dM z4.fst bound=0)) (rT z2 [SV.dat bQ (((0:Int),(0:Int),(0:Int),Uy,(0:Int),(0:Int),(0:Int),(0:Int),(0:Int),[],())),cI (dM z4.fst bound)]) (id<=9223372036854775807/\br (decide (bM id < 0)) z1 (br (decide (fn < 0) || decide ((fs.length:Int)<=fn)) (rT z2 [SV.dat bQ (((0:Int),(0:Int),(0:Int),Uy,(0:Int),(0:Int),(0:Int),(0:Int),(0:Int),[],())),cI 11]) (True/\br (!decide (aX arg=arg)) z1 (((0:Int)<=(0:Int)/\(0:Int) < (8:Int))/\0 < 8/\(z4.fst=0/\dB ms fs bound (id,fn,(0:Int),Uy.set 0 arg,(0:Int),(0:Int),(0:Int),(1:Int),(0:Int),[],())/\0<=1000000/\id<=9223372036854775807/\(Uy.set 0 arg).length=8)/\rT z2 [SV.dat bQ (fJ fs bound 256 (id,fn,(0:Int),Uy.set 0 arg,(0:Int),(0:Int),(0:Int),(1:Int),(0:Int),[],())),cI 0])))):=by
 conv=>zeta
 delta kq1 Uy cI rT I6;obtain⟨hb,hid⟩:bnd ((vs,ms,cs,fs,ts,()),())/\id<=9223372036854775807:=aF;refine⟨hb,ah.2 ⟨λh=>?_,λh=>⟨hid,ah.2 ⟨λh2=>?_,λh2=>ah.2 ⟨λh3=>?_,λh3=>⟨trivial,ah.2 ⟨λh4=>?_,λh4=>?_⟩⟩⟩⟩⟩⟩⟩
 .have h:dM (aG vs ms cs fs ts).1 bound≠0:=by simpa using h
  have e:newS (aG vs ms cs fs ts).1 fs bound id fn arg=(zT,dM (aG vs ms cs fs ts).1 bound):=by unfold newS;rw[if_pos h]
  rw[e];exact⟨rfl,rfl⟩
 all_goals have h:¬dM (aG vs ms cs fs ts).1 bound≠0:=by simpa using h
 .have h2:bM id < 0:=by simpa using h2
  have e:newS (aG vs ms cs fs ts).1 fs bound id fn arg=(zT,2):=by unfold newS;rw[if_neg h,if_pos h2]
  rw[e];exact⟨rfl,rfl⟩
 all_goals have h2:¬bM id < 0:=by simpa using h2
 .have h3:fn < 0\/(fs.length:Int)<=fn:=by simpa using h3
  have e:newS (aG vs ms cs fs ts).1 fs bound id fn arg=(zT,11):=by unfold newS;rw[if_neg h,if_neg h2,if_pos h3]
  rw[e];exact⟨rfl,rfl⟩
 all_goals have h3:¬(fn < 0\/(fs.length:Int)<=fn):=by simp only[rM,iH]at h3;omega
 .have h4:dK arg=false:=by rw[val_wrap];simpa using h4
  have e:newS (aG vs ms cs fs ts).1 fs bound id fn arg=(zT,2):=by unfold newS;rw[if_neg h,if_neg h2,if_neg h3,if_pos h4]
  rw[e];exact⟨rfl,rfl⟩
 .have h4:¬dK arg=false:=by rw[val_wrap];simpa using h4
  have e:newS (aG vs ms cs fs ts).1 fs bound id fn arg=(fJ fs bound 256 (id,fn,0,[arg,0,0,0,0,0,0,0],0,0,0,1,0,[],()),0):=by unfold newS;rw[if_neg h,if_neg h2,if_neg h3,if_neg h4]
  have hs:=iG.1 (L9.1 h);rw[e];exact⟨⟨by omega,by omega⟩,by omega,⟨hs.1,Ea ms hs.2.1 h2 h3 h4,by omega,hid,rfl⟩,rfl,rfl⟩
theorem QA:aY aV.gd 34 Qz:=
 dO (cx:=aV) (n:=50) (cl:=[(75,yV),(76,KW),(77,Eb),(78,Qw)]) (rc:=[.data bQ,.keep]) aB ⟨II,IG,Bz,Qx,trivial⟩ Tryz.func34 λd hd=>by
  obtain⟨⟨vs,ms,cs,fs,ts,⟨⟩⟩,bound,id,fn,arg,⟨⟩⟩:=d;exact aT (λ_=>none) (ah9 vs ms cs fs ts bound id fn arg hd) (by kernel_rfl)
abbrev adA:CT:={ ps:=[vF,.int .i64,bQ],pre:=λd=>bnd (d.1,())/\d.2.2.1.2.2.2.2.2.2.2.2.2.1.length<=1000000/\d.2.2.1.1<=9223372036854775807/\d.2.2.1.2.2.2.1.length=8,res:=λd=>([],vB (decide (dM (aG d.1.1 d.1.2.1 d.1.2.2.1 d.1.2.2.2.1 d.1.2.2.2.2.1).1 d.2.1=0) && uo d.1.2.1 d.1.2.2.2.1 d.2.1 d.2.2.1)) }
theorem aia(vs:List VD) (ms cs:List ByteArray) (fs:List FD) (ts:List SD) (bound id fn pc:Int) (rg:List Int) (st ch ph su fa:Int) (he:List Int) (aF:adA.pre ((vs,ms,cs,fs,ts,()),bound,(id,fn,pc,rg,st,ch,ph,su,fa,he,()),())):
 let z2:=dM (aG vs ms cs fs ts).fst bound=0;let z1:=decide z2 && uo ms fs bound (id,fn,pc,rg,st,ch,ph,su,fa,he,());(vs.length<=1000000/\ms.length<=1000000/\cs.length<=1000000/\fs.length<=1000000/\ts.length<=1000000/\(∀(x:ByteArray×(oV.sl.pair Sh.unit).den),x∈fs->List.length x.snd.fst<=1000000)/\(dL fs).length<=1000000)/\(decide z2=true->(aG vs ms cs fs ts).fst=0/\he.length<=1000000/\id<=9223372036854775807/\rg.length=8)/\qB z1 z1:=by
 conv=>zeta
 delta qB I6;obtain⟨hb,EW,hid,hrg⟩:bnd ((vs,ms,cs,fs,ts,()),())/\he.length<=1000000/\id<=9223372036854775807/\rg.length=8:=aF;exact⟨hb,λh=>⟨(iG.1 (GI h)).1,EW,hid,hrg⟩,rfl,rfl⟩
theorem QB:aY aV.gd 85 adA:=
 dO (cx:=aV) (n:=17) (cl:=[(75,yV),(108,IJ)]) (rc:=[]) aB ⟨II,KZ,trivial⟩ Tryz.func85 λd hd=>by
  obtain⟨⟨vs,ms,cs,fs,ts,⟨⟩⟩,bound,⟨id,fn,pc,rg,st,ch,ph,su,fa,he,⟨⟩⟩,⟨⟩⟩:=d;exact aT (λ_=>none) (aia vs ms cs fs ts bound id fn pc rg st ch ph su fa he hd) (by kernel_rfl)
abbrev QC:CT:={ ps:=[vF,bQ],pre:=λd=>bnd (d.1,())/\d.2.1.2.2.2.2.2.2.2.2.2.1.length<=1000000/\d.2.1.1<=9223372036854775807/\d.2.1.2.2.2.1.length=8,res:=λd=>([],.iO [.agg [.v (.int .i64 ((iU (aG d.1.1 d.1.2.1 d.1.2.2.1 d.1.2.2.2.1 d.1.2.2.2.2.1).1 d.1.2.1 d.1.2.2.2.1 d.2.1).1).1),.v (.int .i64 ((iU (aG d.1.1 d.1.2.1 d.1.2.2.1 d.1.2.2.2.1 d.1.2.2.2.2.1).1 d.1.2.1 d.1.2.2.2.1 d.2.1).1).2.1),.v (.int .i64 ((iU (aG d.1.1 d.1.2.1 d.1.2.2.1 d.1.2.2.2.1 d.1.2.2.2.2.1).1 d.1.2.1 d.1.2.2.2.1 d.2.1).1).2.2.1),.v (.int .i64 ((iU (aG d.1.1 d.1.2.1 d.1.2.2.1 d.1.2.2.2.1 d.1.2.2.2.2.1).1 d.1.2.1 d.1.2.2.2.1 d.2.1).1).2.2.2.1),.v (.int .i64 ((iU (aG d.1.1 d.1.2.1 d.1.2.2.1 d.1.2.2.2.1 d.1.2.2.2.2.1).1 d.1.2.1 d.1.2.2.2.1 d.2.1).1).2.2.2.2.1),.v (.int .i64 ((iU (aG d.1.1 d.1.2.1 d.1.2.2.1 d.1.2.2.2.1 d.1.2.2.2.2.1).1 d.1.2.1 d.1.2.2.2.1 d.2.1).1).2.2.2.2.2.1),.v (.int .i64 ((iU (aG d.1.1 d.1.2.1 d.1.2.2.1 d.1.2.2.2.1 d.1.2.2.2.2.1).1 d.1.2.1 d.1.2.2.2.1 d.2.1).1).2.2.2.2.2.2.1),.v (.int .i64 ((iU (aG d.1.1 d.1.2.1 d.1.2.2.1 d.1.2.2.2.1 d.1.2.2.2.2.1).1 d.1.2.1 d.1.2.2.2.1 d.2.1).1).2.2.2.2.2.2.2.1)],.c (.v (.bool (iU (aG d.1.1 d.1.2.1 d.1.2.2.1 d.1.2.2.2.1 d.1.2.2.2.2.1).1 d.1.2.1 d.1.2.2.2.1 d.2.1).2))]) }
theorem aib(vs:List VD) (ms cs:List ByteArray) (fs:List FD) (ts:List SD) (id fn pc:Int) (rg:List Int) (st ch ph su fa:Int) (he:List Int) (aF:QC.pre ((vs,ms,cs,fs,ts,()),(id,fn,pc,rg,st,ch,ph,su,fa,he,()),())):
 let z3:=(id,fn,pc,rg,st,ch,ph,su,fa,he,());let z2:=iU (aG vs ms cs fs ts).fst ms fs z3;let z1:=[SV.agg [v6 (z2.fst.fst),v6 (z2.fst.snd.fst),v6 (z2.fst.snd.snd.fst),v6 (z2.fst.snd.snd.snd.fst),v6 (z2.fst.snd.snd.snd.snd.fst),v6 (z2.fst.snd.snd.snd.snd.snd.fst),v6 (z2.fst.snd.snd.snd.snd.snd.snd.fst),v6 (z2.fst.snd.snd.snd.snd.snd.snd.snd.fst)],cB (z2.snd)];((!!decide (su=1))=true->(vs.length<=1000000/\ms.length<=1000000/\cs.length<=1000000/\fs.length<=1000000/\ts.length<=1000000/\(∀(x:ByteArray×(oV.sl.pair Sh.unit).den),x∈fs->List.length x.snd.fst<=1000000)/\(dL fs).length<=1000000)/\he.length<=1000000/\id<=9223372036854775807/\rg.length=8)/\br (!decide (su=1) || !(decide (dM (aG vs ms cs fs ts).fst (32:Int)=(0:Int)) && uo ms fs (32:Int) z3)) (rT z1 [SV.agg [v6 0,v6 0,v6 0,v6 0,v6 0,v6 0,v6 0,v6 0],cB false]) ((0<=fn/\fn < (fs.length:Int)/\0<=pc)/\rT z1 [SV.agg [v6 ((atR fs fn pc).fst.fst),v6 ((atR fs fn pc).fst.snd.fst),v6 ((atR fs fn pc).fst.snd.snd.fst),v6 ((atR fs fn pc).fst.snd.snd.snd.fst),v6 ((atR fs fn pc).fst.snd.snd.snd.snd.fst),v6 ((atR fs fn pc).fst.snd.snd.snd.snd.snd.fst),v6 ((atR fs fn pc).fst.snd.snd.snd.snd.snd.snd.fst),v6 ((atR fs fn pc).fst.snd.snd.snd.snd.snd.snd.snd.fst)],cB ((atR fs fn pc).snd)]):=by
 conv=>zeta
 delta v6 cB rT I6;obtain⟨hb,EW,hid,hrg⟩:bnd ((vs,ms,cs,fs,ts,()),())/\he.length<=1000000/\id<=9223372036854775807/\rg.length=8:=aF;have key:((aG vs ms cs fs ts).1=0/\su=1/\xq ms fs 32 (id,fn,pc,rg,st,ch,ph,su,fa,he,()))↔(!decide (su=1) || !(decide (dM (aG vs ms cs fs ts).1 32=0) && uo ms fs 32 (id,fn,pc,rg,st,ch,ph,su,fa,he,())))=false:=by
  rw[rM,BJ,BJ,A8,UE,UE,iG,nX];constructor
  .rintro⟨q1,q2,q3⟩;exact⟨q2,⟨q1,by omega,by omega⟩,q3⟩
  .rintro⟨q2,⟨q1,_⟩,q3⟩;exact⟨q1,q2,q3⟩
 refine⟨λ_=>⟨hb,EW,hid,hrg⟩,ah.2 ⟨λh=>?_,λh=>?_⟩⟩
 .have e:iU (aG vs ms cs fs ts).1 ms fs (id,fn,pc,rg,st,ch,ph,su,fa,he,())=((0,0,0,0,0,0,0,0,()),false):=by
   unfold iU;rw[if_neg];intro q;rw[key.1 q]at h;cases h
  rw[e];exact⟨rfl,rfl⟩
 .have q:=key.2 h;have e:iU (aG vs ms cs fs ts).1 ms fs (id,fn,pc,rg,st,ch,ph,su,fa,he,())=atR fs fn pc:=by
   unfold iU;rw[if_pos q]
  have hF:=q.2.2.1;rw[e];exact⟨⟨hF.2.1.1,hF.2.1.2,hF.2.2.1.1⟩,rfl,rfl⟩
theorem QD:aY aV.gd 45 QC:=
 dO (cx:=aV) (n:=21) (cl:=[(85,adA),(95,OB)]) (rc:=[]) aB ⟨QB,yU,trivial⟩ Tryz.func45 λd hd=>by
  obtain⟨⟨vs,ms,cs,fs,ts,⟨⟩⟩,⟨id,fn,pc,rg,st,ch,ph,su,fa,he,⟨⟩⟩,⟨⟩⟩:=d;exact aT (λ_=>none) (aib vs ms cs fs ts id fn pc rg st ch ph su fa he hd) (by kernel_rfl)
def rX:TD->Int->TD
 | (id,fn,pc,rg,st,ch,ph,su,fa,he,_),m=>if ph=0 then(id,fn,pc,rg,st,ch,1,su,fa,AL he m,()) else if ph=1 then(id,fn,pc,rg,st,ch,2,su,fa,he,()) else(id,fn,pc+1,rg,st,ch,0,su,fa,AO he m,())
abbrev Zd:CT:={ ps:=[bQ,.int .i64],pre:=λd=>d.1.2.2.2.2.2.2.2.2.2.1.length<=999999/\0<=d.1.2.2.1/\d.1.2.2.1<=1000000,res:=λd=>([],.one (.dat bQ (rX d.1 d.2.1))) }
theorem adB(id fn pc:Int) (rg:List Int) (st ch ph su fa:Int) (he:List Int) (m:Int) (aF:Zd.pre ((id,fn,pc,rg,st,ch,ph,su,fa,he,()),m,())):
 let z1:=bF.one (SV.dat bQ (rX (id,fn,pc,rg,st,ch,ph,su,fa,he,()) m));br (decide (ph=0)) (he.length<=1000000/\rE z1 (bF.one (SV.dat bQ ((id,fn,pc,rg,st,ch,(1:Int),su,fa,oC (bY he) [m] false,()))))) (br (decide (ph=1)) (rE z1 (bF.one (SV.dat bQ ((id,fn,pc,rg,st,ch,(2:Int),su,fa,he,()))))) (he.length<=999999/\iR (pc+1)/\rE z1 (bF.one (SV.dat bQ ((id,fn,pc+1,rg,st,ch,(0:Int),su,fa,bY (he++[m]),())))))):=by
 conv=>zeta
 delta rE I6 iR;obtain⟨EW,hp0,hp1⟩:he.length<=999999/\0<=pc/\pc<=1000000:=aF;refine ah.2 ⟨λh=>?_,λh=>ah.2 ⟨λh2=>?_,λh2=>?_⟩⟩
 .have h:ph=0:=by simpa using h
  have e:rX (id,fn,pc,rg,st,ch,ph,su,fa,he,()) m=(id,fn,pc,rg,st,ch,1,su,fa,AL he m,()):=by simp only[rX];rw[if_pos h]
  rw[e];exact⟨by omega,rfl,rfl⟩
 .have h:¬ph=0:=by simpa using h
  have h2:ph=1:=by simpa using h2
  have e:rX (id,fn,pc,rg,st,ch,ph,su,fa,he,()) m=(id,fn,pc,rg,st,ch,2,su,fa,he,()):=by simp only[rX];rw[if_neg h,if_pos h2]
  rw[e];exact⟨rfl,rfl⟩
 .have h:¬ph=0:=by simpa using h
  have h2:¬ph=1:=by simpa using h2
  have e:rX (id,fn,pc,rg,st,ch,ph,su,fa,he,()) m=(id,fn,pc+1,rg,st,ch,0,su,fa,AO he m,()):=by simp only[rX];rw[if_neg h,if_neg h2]
  rw[e];exact⟨EW,aC.2 (by omega),rfl,rfl⟩
theorem Ze:aY aV.gd 110 Zd:=
 dO (cx:=aV) (n:=29) (cl:=[(112,KU),(111,KJ)]) (rc:=[.data bQ]) aB ⟨Ed,DU,trivial⟩ Tryz.func110 λd hd=>by
  obtain⟨⟨id,fn,pc,rg,st,ch,ph,su,fa,he,⟨⟩⟩,m,⟨⟩⟩:=d;exact aT (λ_=>none) (adB id fn pc rg st ch ph su fa he m hd) (by kernel_rfl)
abbrev Zf:CT:={ ps:=[vF,.int .i64,bQ,.int .i64],pre:=λd=>bnd (d.1,())/\d.2.2.1.2.2.2.2.2.2.2.2.2.1.length<=1000000/\d.2.2.1.1<=9223372036854775807/\d.2.2.1.2.2.2.1.length=8,res:=λd=>([],.iO [.dat bQ (kC (aG d.1.1 d.1.2.1 d.1.2.2.1 d.1.2.2.2.1 d.1.2.2.2.2.1).1 d.1.2.1 d.1.2.2.2.1 d.2.1 d.2.2.1 d.2.2.2.1).1,.c (.v (.int .i64 (kC (aG d.1.1 d.1.2.1 d.1.2.2.1 d.1.2.2.2.1 d.1.2.2.2.2.1).1 d.1.2.1 d.1.2.2.2.1 d.2.1 d.2.2.1 d.2.2.2.1).2))]) }
theorem aic(vs:List VD) (ms cs:List ByteArray) (fs:List FD) (ts:List SD) (bound id fn pc:Int) (rg:List Int) (st ch ph su fa:Int) (he:List Int) (r:Int) (aF:Zf.pre ((vs,ms,cs,fs,ts,()),bound,(id,fn,pc,rg,st,ch,ph,su,fa,he,()),r,())):
 let z30:=aG vs ms cs fs ts;let z21:=(id,fn,pc,rg,st,ch,ph,su,fa,he,());let Ef:=kC z30.fst ms fs bound z21 r;let z5:=[SV.dat bQ Ef.fst,cI (Ef.snd)];let z29:=lV (atR fs fn pc).fst;let z24:=decide ((atR fs fn pc).fst.fst=18);let z22:=he.length<=999999/\0<=pc/\pc<=1000000;let z8:=rX (id,fn,pc,rg.set z29.fst.toNat r,st+1,ch,ph,su,fa,he,()) (atR fs fn pc).fst.snd.snd.snd.snd.snd.fst;let z25:=decide ((atR fs fn pc).fst.fst=17);let z13:=(id,fn,pc+1,rg.set z29.fst.toNat r,st+1,ch,ph,su,fa,he,());let z20:=rg.set z29.fst.toNat r;let z3:=iR (pc+1)/\(z30.fst=0/\dB ms fs bound z13/\he.length<=1000000/\id<=9223372036854775807/\z20.length=8)/\rT z5 [SV.dat bQ (fJ fs bound 256 z13),cI 0];let z23:=[(atR fs fn pc).fst.snd.snd.snd.snd.fst];let Jd:=he++z23;let z7:=(id,fn,pc+1,rg.set z29.fst.toNat r,st+1,ch,ph,su,fa,bY Jd,());let z17:=bY Jd;let z1:=he.length<=999999/\iR (pc+1)/\(z30.fst=0/\dB ms fs bound z7/\z17.length<=1000000/\id<=9223372036854775807/\z20.length=8)/\rT z5 [SV.dat bQ (fJ fs bound 256 z7),cI 0];let z26:=decide ((atR fs fn pc).fst.fst=15);let z27:=decide ((atR fs fn pc).fst.fst=16);let z6:=(id,fn,pc+1,rg.set z29.fst.toNat r,st+1,ch,ph,su,fa,oC (bY he) z23 false,());let pJ:=oC (bY he) z23 false;let z28:=decide ((atR fs fn pc).fst.fst=21);let z12:=(id,fn,pc+1,rg.set z29.fst.toNat r,st+1,ch+1,ph,su,fa,he,());let z11:=rX (id,fn,pc,rg,st+1,ch,ph,su,fa,he,()) (atR fs fn pc).fst.snd.snd.snd.snd.snd.fst;let Uz:=(id,fn,pc+1,rg,st+1,ch,ph,su,fa,he,());let z4:=iR (pc+1)/\(z30.fst=0/\dB ms fs bound Uz/\he.length<=1000000/\id<=9223372036854775807/\rg.length=8)/\rT z5 [SV.dat bQ (fJ fs bound 256 Uz),cI 0];let z10:=(id,fn,pc+1,rg,st+1,ch,ph,su,fa,bY Jd,());let z2:=he.length<=999999/\iR (pc+1)/\(z30.fst=0/\dB ms fs bound z10/\z17.length<=1000000/\id<=9223372036854775807/\rg.length=8)/\rT z5 [SV.dat bQ (fJ fs bound 256 z10),cI 0];let z9:=(id,fn,pc+1,rg,st+1,ch,ph,su,fa,oC (bY he) z23 false,());let IL:=(id,fn,pc+1,rg,st+1,ch+1,ph,su,fa,he,());(vs.length<=1000000/\ms.length<=1000000/\cs.length<=1000000/\fs.length<=1000000/\ts.length<=1000000/\(∀(x:ByteArray×(oV.sl.pair Sh.unit).den),x∈fs->List.length x.snd.fst<=1000000)/\(dL fs).length<=1000000)/\br (!decide (dM z30.fst bound=0)) (rT z5 [SV.dat bQ (((0:Int),(0:Int),(0:Int),Uy,(0:Int),(0:Int),(0:Int),(0:Int),(0:Int),[],())),cI (dM z30.fst bound)]) ((z30.fst=0/\he.length<=1000000/\id<=9223372036854775807/\rg.length=8)/\br (!uo ms fs bound z21) (rT z5 [SV.dat bQ (((0:Int),(0:Int),(0:Int),Uy,(0:Int),(0:Int),(0:Int),(0:Int),(0:Int),[],())),cI 1]) (br (!decide (su=1)) (rT z5 [SV.dat bQ (((0:Int),(0:Int),(0:Int),Uy,(0:Int),(0:Int),(0:Int),(0:Int),(0:Int),[],())),cI 30]) (True/\br (!decide (aX r=r)) (rT z5 kq1) ((0<=fn/\fn < (fs.length:Int)/\0<=pc)/\iR (st+1)/\True/\br z29.snd ((0<=z29.fst/\z29.fst < 8)/\z29.fst.toNat < 8/\br z24 (z22/\(z30.fst=0/\dB ms fs bound z8/\List.length z8.snd.snd.snd.snd.snd.snd.snd.snd.snd.fst<=1000000/\z8.fst<=9223372036854775807/\List.length z8.snd.snd.snd.fst=8)/\rT z5 [SV.dat bQ (fJ fs bound 256 z8),cI 0]) (br z25 (br (decide (r=0)) z3 z1) (br z26 z1 (br z27 (he.length<=1000000/\iR (pc+1)/\(z30.fst=0/\dB ms fs bound z6/\pJ.length<=1000000/\id<=9223372036854775807/\z20.length=8)/\rT z5 [SV.dat bQ (fJ fs bound 256 z6),cI 0]) (br z28 (iR (ch+1)/\iR (pc+1)/\(z30.fst=0/\dB ms fs bound z12/\he.length<=1000000/\id<=9223372036854775807/\z20.length=8)/\rT z5 [SV.dat bQ (fJ fs bound 256 z12),cI 0]) z3))))) (br z24 (z22/\(z30.fst=0/\dB ms fs bound z11/\List.length z11.snd.snd.snd.snd.snd.snd.snd.snd.snd.fst<=1000000/\z11.fst<=9223372036854775807/\List.length z11.snd.snd.snd.fst=8)/\rT z5 [SV.dat bQ (fJ fs bound 256 z11),cI 0]) (br z25 (br (decide (r=0)) z4 z2) (br z26 z2 (br z27 (he.length<=1000000/\iR (pc+1)/\(z30.fst=0/\dB ms fs bound z9/\pJ.length<=1000000/\id<=9223372036854775807/\rg.length=8)/\rT z5 [SV.dat bQ (fJ fs bound 256 z9),cI 0]) (br z28 (iR (ch+1)/\iR (pc+1)/\(z30.fst=0/\dB ms fs bound IL/\he.length<=1000000/\id<=9223372036854775807/\rg.length=8)/\rT z5 [SV.dat bQ (fJ fs bound 256 IL),cI 0]) z4))))))))):=by
 conv=>zeta
 delta Uy kq1 cI rT I6 iR;obtain⟨hb,EW,hid,hrg⟩:bnd ((vs,ms,cs,fs,ts,()),())/\he.length<=1000000/\id<=9223372036854775807/\rg.length=8:=aF;refine⟨hb,ah.2 ⟨λh=>?_,λh=>?_⟩⟩
 .have h:dM (aG vs ms cs fs ts).1 bound≠0:=by simpa using h
  have e:kC (aG vs ms cs fs ts).1 ms fs bound (id,fn,pc,rg,st,ch,ph,su,fa,he,()) r=(zT,dM (aG vs ms cs fs ts).1 bound):=by unfold kC;rw[if_pos h]
  rw[e];exact⟨rfl,rfl⟩
 have h:¬dM (aG vs ms cs fs ts).1 bound≠0:=by simpa using h
 have hs:=iG.1 (L9.1 h);refine⟨⟨hs.1,EW,hid,hrg⟩,ah.2 ⟨λh2=>?_,λh2=>?_⟩⟩
 .have h2:¬xq ms fs bound (id,fn,pc,rg,st,ch,ph,su,fa,he,()):=λq=>by rw[nX.2 q]at h2;cases h2
  have e:kC (aG vs ms cs fs ts).1 ms fs bound (id,fn,pc,rg,st,ch,ph,su,fa,he,()) r=(zT,1):=by unfold kC;rw[if_neg h,if_pos h2]
  rw[e];exact⟨rfl,rfl⟩
 have hV:xq ms fs bound (id,fn,pc,rg,st,ch,ph,su,fa,he,()):=nX.1 (by simpa using h2)
 have h2:¬¬xq ms fs bound (id,fn,pc,rg,st,ch,ph,su,fa,he,()):=λq=>q hV
 refine ah.2 ⟨λh3=>?_,λh3=>⟨trivial,ah.2 ⟨λh4=>?_,λh4=>?_⟩⟩⟩
 .have h3:su≠1:=by simpa using h3
  have e:kC (aG vs ms cs fs ts).1 ms fs bound (id,fn,pc,rg,st,ch,ph,su,fa,he,()) r=(zT,30):=by unfold kC;rw[if_neg h,if_neg h2,if_pos h3]
  rw[e];exact⟨rfl,rfl⟩
 all_goals
  have h1:su=1:=by simpa using h3
  have h3:¬su≠1:=λq=>q h1
 .have h4:dK r=false:=by rw[val_wrap];simpa using h4
  have e:kC (aG vs ms cs fs ts).1 ms fs bound (id,fn,pc,rg,st,ch,ph,su,fa,he,()) r=(zT,2):=by unfold kC;rw[if_neg h,if_neg h2,if_neg h3,if_pos h4]
  rw[e];exact⟨rfl,rfl⟩
 have hvr:dK r=true:=by rw[val_wrap];simpa using h4
 have h4:¬dK r=false:=by rw[hvr];simp
 obtain⟨f0,s0,i,ha,vi,oi⟩:=D8 hV h1;have ha:sH fs fn pc=some i:=ha;have s0:st < bound:=s0;have hF:dB ms fs bound (id,fn,pc,rg,st,ch,ph,su,fa,he,()):=hV.1;have hfn:=hF.2.1;have hpc:=hF.2.2.1;have hst:=hF.2.2.2.2.1;have hch:=hF.2.2.2.2.2.1;have h64:=Ee hs.1 hfn;have hci:=(rF (D5 hs.1 hfn ha)).1;have hm4:=afm (nV hs.1).1;have h4e:he.length<=4:=rG hF hm4;have leaf:∀t':TD,t'=kR (id,fn,pc,rg,st,ch,ph,su,fa,he,()) i r->(((aG vs ms cs fs ts).1=0/\dB ms fs bound t'/\t'.2.2.2.2.2.2.2.2.2.1.length<=1000000/\t'.1<=9223372036854775807/\t'.2.2.2.1.length=8)/\([]:List Go.lH.ak)=[] /\
  bF.iO [SV.dat bQ (kC (aG vs ms cs fs ts).1 ms fs bound (id,fn,pc,rg,st,ch,ph,su,fa,he,()) r).1,SV.c (SC.v (Value.int .i64 (kC (aG vs ms cs fs ts).1 ms fs bound (id,fn,pc,rg,st,ch,ph,su,fa,he,()) r).2))]=bF.iO [SV.dat bQ (fJ fs bound 256 t'),SV.c (SC.v (Value.int .i64 0))]):=by
  intro t' et;subst et;have hf:=D9 hs.1 hV h1 ha hvr;have e:kC (aG vs ms cs fs ts).1 ms fs bound (id,fn,pc,rg,st,ch,ph,su,fa,he,()) r=(fJ fs bound 256 (kR (id,fn,pc,rg,st,ch,ph,su,fa,he,()) i r),0):=by
   unfold kC;rw[if_neg h,if_neg h2,if_neg h3,if_neg h4];show(fJ fs bound 256 (kR (id,fn,pc,rg,st,ch,ph,su,fa,he,()) (atR fs fn pc).1 r),(0:Int))=_;rw[show atR fs fn pc=(i,true) by unfold atR;rw[ha]]
  rw[e];exact⟨⟨hs.1,hf,pI (rG hf hm4) (by omega),Gn hf,(Qy _ _ _).trans hrg⟩,rfl,rfl⟩
 rw[show atR fs fn pc=(i,true) by unfold atR;rw[ha]]
 dsimp only;have e9:he.length<=999999:=by omega
 have ep:InR .i64 (pc+1):=aC.2 (by omega)
 have ec:InR .i64 (ch+1):=aC.2 (by omega)
 refine⟨⟨hfn.1,hfn.2,hpc.1⟩,aC.2 (by omega),trivial,ah.2 ⟨λhd=>?_,λhd=>?_⟩⟩
 .have hr:=Zc hci hd;refine⟨hr,by omega,?_⟩
  refine bV.2 ⟨λq=>⟨⟨e9,hpc.1,show pc<=1000000 by omega⟩,leaf _ (by simp only[rX,kR,if_pos q,if_pos hd])⟩,λn18=>bV.2 ⟨λn17=>bV.2 ⟨λq=>⟨ep,leaf _ (by simp[kR,n17,hd,q])⟩,λq=>⟨e9,ep,leaf _ (by simp[kR,n17,hd,q,AO])⟩⟩,
   λn17=>bV.2 ⟨λq=>⟨e9,ep,leaf _ (by simp[kR,q,hd,AO])⟩,λn15=>bV.2 ⟨λq=>⟨EW,ep,leaf _ (by simp[kR,q,hd,AL])⟩,λn16=>bV.2 ⟨λq=>⟨ec,ep,leaf _ (by simp[kR,q,hd])⟩,λn21=>⟨ep,leaf _ (by simp[kR,n18,n17,n15,n16,n21,hd])⟩⟩⟩⟩⟩⟩
 .refine bV.2 ⟨λq=>⟨⟨e9,hpc.1,show pc<=1000000 by omega⟩,leaf _ (by simp only[rX,kR,if_pos q,hd];simp)⟩,λn18=>bV.2 ⟨λn17=>bV.2 ⟨λq=>⟨ep,leaf _ (by simp[kR,n17,hd,q])⟩,λq=>⟨e9,ep,leaf _ (by simp[kR,n17,hd,q,AO])⟩⟩,
   λn17=>bV.2 ⟨λq=>⟨e9,ep,leaf _ (by simp[kR,q,hd,AO])⟩,λn15=>bV.2 ⟨λq=>⟨EW,ep,leaf _ (by simp[kR,q,hd,AL])⟩,λn16=>bV.2 ⟨λq=>⟨ec,ep,leaf _ (by simp[kR,q,hd])⟩,λn21=>⟨ep,leaf _ (by simp[kR,n18,n17,n15,n16,n21,hd])⟩⟩⟩⟩⟩⟩
theorem adC:aY aV.gd 51 Zf:=
 dO (cx:=aV) (n:=103) (cl:=[(75,yV),(108,IJ),(77,Eb),(95,OB),(109,afl),(78,Qw),(110,Zd),(111,KJ),(112,KU)]) (rc:=[.data bQ,.keep]) aB ⟨II,KZ,Bz,yU,YW,Qx,Ze,DU,Ed,trivial⟩ Tryz.func51 λd hd=>by
  obtain⟨⟨vs,ms,cs,fs,ts,⟨⟩⟩,bound,⟨id,fn,pc,rg,st,ch,ph,su,fa,he,⟨⟩⟩,r,⟨⟩⟩:=d;exact aT (λ_=>none) (aic vs ms cs fs ts bound id fn pc rg st ch ph su fa he r hd) (by kernel_rfl)
open Classical in
def Am(a b:TD):Bool:=decide (a=b)
open Classical in
theorem vg{a b:TD}:Am a b=true↔a=b:=by
 unfold Am;rw[UE]
abbrev OD:CT:={ ps:=[bQ,bQ],pre:=λd=>d.1.2.2.2.2.2.2.2.2.2.1.length<=1000000,res:=λd=>([],vB (Am d.1 d.2.1)) }
abbrev akW(id fn pc:Int) (rg:List Int) (st ch ph su fa:Int) (he:List Int) (id2 LX pc2:Int) (LY:List Int) (st2 Je IQ IU fa2:Int) (he2:List Int):Nat->Option (St->kD):=λk=>match k with
 | 4=>some λ_=>.inv { α:=Nat,slots:=λk=>[(5,.c (.v (.int .i64 k)))],res:=λ_=>[],inv:=λk=>k<=he.length/\∀j < k,he[j]?=he2[j]?,meas:=λk=>he.length - k }
 | _=>none
theorem aie(id fn pc:Int) (rg:List Int) (st ch ph su fa:Int) (he:List Int) (id2 LX pc2:Int) (LY:List Int) (st2 Je IQ IU fa2:Int) (he2:List Int) (aF:OD.pre ((id,fn,pc,rg,st,ch,ph,su,fa,he,()),(id2,LX,pc2,LY,st2,Je,IQ,IU,fa2,he2,()),())):
 let z6:=(id,fn,pc,rg,st,ch,ph,su,fa,he,());let z5:=(id2,LX,pc2,LY,st2,Je,IQ,IU,fa2,he2,());let z3:=Am z6 z5;let z2:=qB z3 false;let z4:=λ(x:Nat)=>(x<=he.length/\∀(j:Nat),j < x->he[j]?=he2[j]?);let z1:=[g0 (ak.obj 56 bQ z6),g0 (ak.obj 56 bQ z5)];br (!decide ((he.length:Int)=(he2.length:Int))) z2 ((∃x,(z4 x)/\(cI 0=cI (x:Int)/\True)/\sm z1)/\∀(x:Nat),(z4 x)->br (decide ((x:Int) < (he.length:Int))) ((0<=(x:Int)/\(x:Int) < (he.length:Int))/\∀(d:Int),he[(x:Int).toNat]?=some d->(0<=(x:Int)/\(x:Int) < (he2.length:Int))/\∀(dR:Int),he2[(x:Int).toNat]?=some dR->br (!decide (d=dR)) z2 (iR ((x:Int)+(1:Int))/\∃x',(z4 x')/\(cI ((x:Int)+(1:Int))=cI (x':Int)/\True)/\sm z1/\he.length - x' < he.length - x)) (br (!decide (id=id2) || !decide (fn=LX) || !decide (pc=pc2) || !decide (rg=LY) || !decide (st=st2)) z2 (qB z3 (decide (ch=Je) && decide (ph=IQ) && decide (su=IU) && decide (fa=fa2))))):=by
 conv=>zeta
 delta cI g0 qB sm I6 iR;have hp:he.length<=1000000:=aF;have sF:¬(id,fn,pc,rg,st,ch,ph,su,fa,he,())=(id2,LX,pc2,LY,st2,Je,IQ,IU,fa2,he2,())->([]:List Go.lH.ak)=[]/\bF.one (SV.c (SC.v (Value.bool (Am (id,fn,pc,rg,st,ch,ph,su,fa,he,()) (id2,LX,pc2,LY,st2,Je,IQ,IU,fa2,he2,())))))=bF.one (SV.c (SC.v (Value.bool false))):=λq=>⟨rfl,by rw[show Am (id,fn,pc,rg,st,ch,ph,su,fa,he,()) (id2,LX,pc2,LY,st2,Je,IQ,IU,fa2,he2,())=false from UG.2 λh=>q (vg.1 h)]⟩
 refine ah.2 ⟨λh=>sF λq=>?_,λh=>?_⟩
 .have:=oh (λt:TD=>t.2.2.2.2.2.2.2.2.2.1.length) q
  simp at h;simp at this;omega
 have h:he.length=he2.length:=by simp at h;omega
 refine⟨⟨0,⟨by omega,λj hj=>by omega⟩,⟨rfl,trivial⟩,rfl⟩,λk hk=>ah.2 ⟨λh2=>?_,λh2=>?_⟩⟩
 .simp only[eH]at h2;refine⟨by omega,λd hd=>⟨by omega,λd1 hd1=>ah.2 ⟨λh3=>sF λq=>?_,λh3=>⟨aC.2 (by omega),k+1,⟨by omega,λj hj=>?_⟩,⟨rfl,trivial⟩,rfl,by omega⟩⟩⟩⟩
  .have:he=he2:=oh (λt:TD=>t.2.2.2.2.2.2.2.2.2.1) q
   rw[this,hd1]at hd;cases hd;simp at h3
  .have h3:d=d1:=by simpa using h3
   by_cases jh:j=k
   .subst jh;have a:he[j]?=some d:=hd;have b:he2[j]?=some d1:=hd1;rw[a,b,h3]
   .exact hk.2 j (by omega)
 simp only[iH]at h2;have hh:he=he2:=Ar λj=>by
  by_cases hj:j < k
  .exact hk.2 j hj
  .rw[uG (by omega),uG (by omega)]
 subst hh;refine ah.2 ⟨λh3=>sF λq=>?_,λh3=>⟨rfl,?_⟩⟩
 .simp only[Uw]at q;obtain⟨q1,q2,q3,q4,q5,_⟩:=q;subst q1;subst q2;subst q3;subst q4;subst q5;simp at h3
 .simp only[rM,BJ,eH]at h3;obtain⟨⟨⟨⟨e1,e2⟩,e3⟩,e4⟩,e5⟩:=h3;subst e1;subst e2;subst e3;subst e4;subst e5;have:Am (id,fn,pc,rg,st,ch,ph,su,fa,he,()) (id,fn,pc,rg,st,Je,IQ,IU,fa2,he,())=(decide (ch=Je) && decide (ph=IQ) && decide (su=IU) && decide (fa=fa2)):=by
   rw[OX,vg];simp[and_assoc]
  rw[this]
theorem adD:aY aV.gd 38 OD:=
 dO (cx:=aV) (n:=90) (cl:=[]) (rc:=[]) aB trivial Tryz.func38 λd hd=>by
  obtain⟨⟨id,fn,pc,rg,st,ch,ph,su,fa,he,⟨⟩⟩,⟨id2,LX,pc2,LY,st2,Je,IQ,IU,fa2,he2,⟨⟩⟩,⟨⟩⟩:=d;exact aT (akW id fn pc rg st ch ph su fa he id2 LX pc2 LY st2 Je IQ IU fa2 he2) (aie id fn pc rg st ch ph su fa he id2 LX pc2 LY st2 Je IQ IU fa2 he2 hd) (by kernel_rfl)
theorem La(h:(dG id ch).2=true):(dG id ch).1=8 * (id+1)+ch/\(0<=ch/\ch < 7)/\Qo (dG id ch).1=(id,true)/\uj (dG id ch).1=uj id+1/\8<=(dG id ch).1/\uj (dG id ch).1<=4/\(dG id ch).1<=1000000/\(0<=uj id/\uj id<=4):=by
 unfold dG at h ⊢
 split at h
 .cases h
 rename_i q;rw[if_neg q];have q1:0<=bM id:=by omega
 have q2:bM id≠4:=by omega
 obtain⟨e1,e2⟩:=Ak q1 q2 (ch:=ch) (by omega) (by omega)
 have hl:=qG q1;have hr:=DZ id;refine⟨rfl,by omega,?_,?_,by simp only;omega,?_,by simp only;omega,?_⟩
 .unfold Qo;rw[if_neg (by rw[e1];omega),e2]
 .unfold uj;rw[e1,if_neg (by omega),if_neg (by omega)]
 .unfold uj;rw[e1,if_neg (by omega)];omega
 .unfold uj;rw[if_neg (by omega)];omega
theorem top_len{rest:ID->TD} (hr:∀i,(rest i).2.2.2.1.length=t.2.2.2.1.length):(topS fs bound t rest).2.2.2.1.length=t.2.2.2.1.length:=by
 obtain⟨id,fn,pc,rg,st,ch,ph,su,fa,hd,u⟩:=t;unfold topS;simp only;split
 .rfl
 split
 .repeat' split
  all_goals rfl
 .exact hr _
theorem QE(fs:List FD) (bound:Int):∀(k:Nat) (t:TD),(fJ fs bound k t).2.2.2.1.length=t.2.2.2.1.length:=by
 intro k
 induction k with
 | zero=>
   intro t;rw[fJ];exact top_len λi=>rfl
 | succ k ih=>
   intro t;rw[fJ];refine top_len λi=>?_
   split
   .exact(ih _).trans (IK t i)
   .exact IK t i
theorem Zg{fn r:Int} (h:(newS (aG vs ms cs fs ts).1 fs bound id fn r).2=0):dM (aG vs ms cs fs ts).1 bound=0/\xq ms fs bound (newS (aG vs ms cs fs ts).1 fs bound id fn r).1/\(newS (aG vs ms cs fs ts).1 fs bound id fn r).1.2.2.2.1.length=8:=by
 unfold newS at h ⊢
 split at h
 .rename_i q;exact absurd h q
 split at h
 .cases h
 split at h
 .cases h
 split at h
 .cases h
 rename_i q1 q2 q3 q4;rw[if_neg q1,if_neg q2,if_neg q3,if_neg q4];have hs:=iG.1 (L9.1 q1);exact⟨L9.1 q1,Qq hs.1 hs.2.1 _ _ (Ea ms hs.2.1 q2 q3 q4) rfl rfl,QE _ _ _ _⟩
theorem aif{r:Int} (hl:t.2.2.2.1.length=8) (h:(kC (aG vs ms cs fs ts).1 ms fs bound t r).2=0):dM (aG vs ms cs fs ts).1 bound=0/\xq ms fs bound (kC (aG vs ms cs fs ts).1 ms fs bound t r).1/\(kC (aG vs ms cs fs ts).1 ms fs bound t r).1.2.2.2.1.length=8 /\
 (kC (aG vs ms cs fs ts).1 ms fs bound t r).1.2.2.2.2.1=t.2.2.2.2.1+1/\(kC (aG vs ms cs fs ts).1 ms fs bound t r).1.1=t.1/\(kC (aG vs ms cs fs ts).1 ms fs bound t r).1.2.1=t.2.1/\(0<=t.2.2.2.2.1/\t.2.2.2.2.1 < 32):=by
 unfold kC at h ⊢
 split at h
 .rename_i q;exact absurd h q
 split at h
 .cases h
 split at h
 .cases h
 split at h
 .cases h
 rename_i q1 q2 q3 q4;rw[if_neg q1,if_neg q2,if_neg q3,if_neg q4];have hs:=iG.1 (L9.1 q1);have hV:=L9.1 q2;have h1:t.2.2.2.2.2.2.2.1=1:=L9.1 q3;have hv:dK r=true:=by simpa using q4
 obtain⟨f0,s0,i,ha,vi,oi⟩:=D8 hV h1;have ea:(atR fs t.2.1 t.2.2.1).1=i:=by unfold atR;rw[ha]
 rw[ea];have hf:=D9 hs.1 hV h1 ha hv;have hk:=YT t i r;have hk2:=KQ fs bound 256 (kR t i r);refine⟨L9.1 q1,Qq hs.1 hs.2.1 _ _ hf (hk.2.2.2.1.trans h1) (hk.2.2.2.2.trans f0),((QE _ _ _ _).trans (Qy _ _ _)).trans hl,hk2.2.2.1.trans hk.2.2.1,hk2.1.trans hk.1,hk2.2.1.trans hk.2.1,?_⟩;obtain⟨id,fn,pc,rg,st,ch,ph,su,fa,he,u⟩:=t;have:=hV.1.2.2.2.2.1;have s0:st < bound:=s0;show 0<=st/\st < 32;have:0<=st/\st<=bound:=this;omega
theorem wW(h:xq ms fs bound t):dB ms fs bound t:=by
 obtain⟨id,fn,pc,rg,st,ch,ph,su,fa,he,u⟩:=t;exact h.1
theorem Gp(h:dB ms fs bound t):(0<=t.2.1/\t.2.1 < (fs.length:Int))/\0<=t.2.2.1:=by
 obtain⟨id,fn,pc,rg,st,ch,ph,su,fa,he,u⟩:=t;exact⟨h.2.1,h.2.2.1.1⟩
theorem Lc(hs:dM (aG vs ms cs fs ts).1 bound=0) (h:xq ms fs bound t):t.2.2.2.2.2.2.2.2.2.1.length<=1000000/\t.1<=9223372036854775807:=by
 have hf:dB ms fs bound t:=by
  obtain⟨id,fn,pc,rg,st,ch,ph,su,fa,he,u⟩:=t;exact h.1
 exact⟨pI (rG hf (afm (nV (iG.1 hs).1).1)) (by omega),Gn hf⟩
end
end Go.Proofs.YtjhenjhcbcalpaaGreatDoor
