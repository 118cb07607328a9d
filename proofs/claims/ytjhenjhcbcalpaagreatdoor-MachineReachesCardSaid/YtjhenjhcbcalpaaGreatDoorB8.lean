/- Part 8 of the proof. Conditions: the rows'. -/
import Derived.Test.YtjhenjhcbcalpaaGreatDoorB7
set_option linter.unusedSimpArgs false
set_option linter.unusedVariables false
set_option maxRecDepth 1000000
set_option maxHeartbeats 8000000
namespace Go.Proofs.YtjhenjhcbcalpaaGreatDoor
open Go Go.l9
noncomputable section
variable {ms cs:List ByteArray}{fs:List FD}{bound id pc st ch ph su fa:Int}{t:TD}{vs:List VD}{ts:List SD}{rg he:List Int}{u:Unit}{i:ID}
theorem wrap32(n:Int):IntKind.i32.wrap (IntKind.u32.wrap n)=bD n:=by
 simp only[IntKind.wrap,IntKind.bits,IntKind.signed,bD];simp;split<;>omega
theorem aoo{x y:Int} (hx:-2147483648<=x/\x<=2147483647) (hy:-2147483648<=y/\y<=2147483647):-9223372036854775808<=x * y/\x * y<=9223372036854775807:=by
 have h1:x.natAbs<=2147483648:=by omega
 have h2:y.natAbs<=2147483648:=by omega
 have h3:(x * y).natAbs<=2147483648 * 2147483648:=by rw[Int.natAbs_mul];exact Nat.mul_le_mul h1 h2
 omega
abbrev FZ:CT:={ ps:=[.int .i64],pre:=λd=>True,res:=λd=>([],.one (.c (.v (.int .i64 (bD d.1))))) }
theorem ak7(n:Int):
 let z1:=IntKind.i32.wrap (IntKind.u32.wrap n);iR z1/\qI (bD n) z1:=by
 conv=>zeta
 delta qI iR;have:=wo n;rw[wrap32];exact⟨ay.2 (by omega),rfl,rfl⟩
theorem DF:aU aS.gd 77 FZ:=
 jW (cx:=aS) (n:=7) (cl:=[]) au trivial Tryz.func77 λd hd=>by
  obtain⟨n,⟨⟩⟩:=d;exact aP (λ_=>none) (ak7 n) (by kernel_rfl)
abbrev aic:CT:={ ps:=[.bool],pre:=λd=>True,res:=λd=>([],.one (.c (.v (.int .i64 (if d.1=true then 1 else 0))))) }
theorem af0(b:Bool):
 let z1:=if b=true then(1:Int) else(0:Int);br b (qI z1 (1:Int)) (qI z1 (0:Int)):=by
 conv=>zeta
 delta qI;rw[ah];cases b<;>simp
theorem aa0:aU aS.gd 161 aic:=
 jW (cx:=aS) (n:=4) (cl:=[]) au trivial Tryz.func161 λd hd=>by
  obtain⟨b,⟨⟩⟩:=d;exact aP (λ_=>none) (af0 b) (by kernel_rfl)
abbrev TB:CT:={ ps:=[.int .i64,.int .i64,.int .i64],pre:=λd=>True,res:=λd=>([],.iJ [.c (.v (.int .i64 (jd d.1 d.2.1 d.2.2.1).1)),.c (.v (.int .i64 (jd d.1 d.2.1 d.2.2.1).2))]) }
theorem ak8(f a b:Int):
 let z1:=[cI ((jd f a b).fst),cI ((jd f a b).snd)];True/\True/\br (decide (f=1)) (iR (bD a+bD b)/\True/\rT z1 [cI (bD (bD a+bD b)),cI 0]) (br (decide (f=2)) (iR (bD a - bD b)/\True/\rT z1 [cI (bD (bD a - bD b)),cI 0]) (br (decide (f=3)) (iR (bD a * bD b)/\True/\rT z1 [cI (bD (bD a * bD b)),cI 0]) (br (decide (f=4)) (True/\rT z1 [cI (bD (pU BinOp.and IntKind.i64 (bD a) (bD b))),cI 0]) (br (decide (f=5)) (True/\rT z1 [cI (bD (pU BinOp.or IntKind.i64 (bD a) (bD b))),cI 0]) (br (decide (f=6)) (True/\rT z1 [cI (bD (pU BinOp.xor IntKind.i64 (bD a) (bD b))),cI 0]) (br (decide (f=7)) (True/\rT z1 [cI (if decide (bD a=bD b)=true then(1:Int) else(0:Int)),cI 0]) (br (decide (f=8)) (True/\rT z1 [cI (if(!decide (bD a=bD b))=true then(1:Int) else(0:Int)),cI 0]) (br (decide (f=9)) (True/\rT z1 [cI (if decide (bD a < bD b)=true then(1:Int) else(0:Int)),cI 0]) (br (decide (f=10)) (True/\rT z1 [cI (if decide (bD a<=bD b)=true then(1:Int) else(0:Int)),cI 0]) (rT z1 [cI 0,cI 8])))))))))):=by
 conv=>zeta
 delta cI rT iR;have ha:=wo a;have hb:=wo b;have hm:=aoo ha hb;unfold jd;simp only[ah,dN,eH]
 repeat' (first | (refine And.intro ?_ ?_) | (intro _))
 all_goals first | rfl | trivial | exact ay.2 (by omega) | (simp[*];done) | skip
theorem KF:aU aS.gd 97 TB:=
 jW (cx:=aS) (n:=75) (cl:=[(77,FZ),(161,aic)]) au ⟨DF,aa0,trivial⟩ Tryz.func97 λd hd=>by
  obtain⟨f,a,b,⟨⟩⟩:=d;exact aP (λ_=>none) (ak8 f a b) (by kernel_rfl)
abbrev aa1:CT:={ ps:=[.int .i64],pre:=λd=>True,res:=λd=>([],vB (je d.1)) }
theorem af2(op:Int):
 qB (je op) (decide (8<=op) && decide (op<=22)):=by
 delta qB;refine⟨rfl,?_⟩;rw[show je op=(decide (8<=op) && decide (op<=22)) by unfold je;rw[Gy];simp]
theorem NV:aU aS.gd 149 aa1:=
 jW (cx:=aS) (n:=9) (cl:=[]) au trivial Tryz.func149 λd hd=>by
  obtain⟨op,⟨⟩⟩:=d;exact aP (λ_=>none) (af2 op) (by kernel_rfl)
abbrev aie:CT:={ ps:=[lY],pre:=λd=>True,res:=λd=>([],.iJ [.c (.v (.int .i64 (ni d.1).1)),.c (.v (.bool (ni d.1).2))]) }
theorem af4(op a b c obj n fo ord:Int):
 let z4:=qC op a b c obj n fo ord=0;let z2:=!!decide z4;let z3:=ni (op,a,b,c,obj,n,fo,ord,());let z1:=[cI (z3.fst),cB (z3.snd)];True/\(z2=true->iR (op - 1))/\(z2=true->0<=op - 1/\op - 1 < (22:Int))/\∀(d:ByteArray×((Sh.arr 7 Sh.bool).pair Sh.unit).den),(z2=true->Nz[(op - 1).toNat]?=some d)->(z2=true->(0:Int)<=(0:Int)/\0 < ((List.length d.snd.fst):Int))/\∀(bJ:Bool),(z2=true->d.snd.fst[0]?=some bJ)->br (!decide z4 || !bJ) (rT z1 [cI 0,cB false]) (rT z1 [cI a,cB true]):=by
 conv=>zeta
 delta cI cB rT iR
 by_cases h:qC op a b c obj n fo ord=0
 .obtain⟨r1,r2,r3,r4⟩:=kX (i:=(op,a,b,c,obj,n,fo,ord,())) h;have r4:1<=op/\op<=22:=r4;refine⟨trivial,λ_=>ay.2 (by omega),λ_=>by omega,λd hd=>?_⟩
  have hd:=hd (by simp[h])
  obtain⟨nm,us,u⟩:=d;have hu:=NC r4 hd;subst hu;refine⟨λ_=>by simp,λd1 hd1=>?_⟩
  have hd1:use op 0=d1:=by simpa[h]using hd1
  subst hd1;rw[ah];have hc:uo (op,a,b,c,obj,n,fo,ord,())=0:=h;refine⟨λq=>?_,λq=>?_⟩
  .have q:use op 0=false:=by simpa[h]using q
   have e:ni (op,a,b,c,obj,n,fo,ord,())=(0,false):=by unfold ni;rw[if_pos (.inr q)]
   rw[e];exact⟨rfl,rfl⟩
  .have q:use op 0=true:=by simpa[h]using q
   have e:ni (op,a,b,c,obj,n,fo,ord,())=(a,true):=by unfold ni;rw[if_neg (by rw[hc];simp[q])]
   rw[e];exact⟨rfl,rfl⟩
 .have hc:¬uo (op,a,b,c,obj,n,fo,ord,())=0:=h;have e:ni (op,a,b,c,obj,n,fo,ord,())=(0,false):=by unfold ni;rw[if_pos (.inl hc)]
  rw[e];refine⟨trivial,λq=>by simp[h]at q,λq=>by simp[h]at q,λd hd=>⟨λq=>by simp[h]at q,λd1 hd1=>?_⟩⟩
  rw[ah];exact⟨λ_=>⟨rfl,rfl⟩,λq=>by simp[h]at q⟩
theorem aa2:aU aS.gd 109 aie:=
 jW (cx:=aS) (n:=19) (cl:=[(168,akl)]) au ⟨ND,trivial⟩ Tryz.func109 λd hd=>by
  obtain⟨⟨op,a,b,c,obj,n,fo,ord,⟨⟩⟩,⟨⟩⟩:=d;exact aP (λ_=>none) (af4 op a b c obj n fo ord) (by kernel_rfl)
instance (l:List Int):Decidable (SS l):=inferInstanceAs (Decidable (l.Pairwise (· < ·)))
def kF(l:List Int):Bool:=decide (SS l)
theorem F5:∀{l:List Int},(∀j x y,l[j]?=some x->l[j+1]?=some y->x < y)->SS l
 | [],_=>List.Pairwise.nil
 | [a],_=>by simp[SS]
 | a :: b :: l,h=>by
   have ih:SS (b :: l):=F5 λj x y h1 h2=>h (j+1) x y (by simpa using h1) (by simpa using h2)
   refine WL.2 ⟨λz hz=>?_,ih⟩
   have hab:=h 0 a b rfl rfl;rcases lU.1 hz with rfl | hz
   .exact hab
   .have:=(WL.1 ih).1 z hz;omega
theorem KG{l:List Int} (h:SS l){j:Nat}{x y:Int} (h1:l[j]?=some x) (h2:l[j+1]?=some y):x < y:=by
 obtain⟨a1,a2⟩:=A8.1 h1;obtain⟨b1,b2⟩:=A8.1 h2;have:=Xb.1 h j (j+1) a1 b1 (by omega)
 omega
abbrev ctV:CT:={ ps:=[.sl (.int .i64)],pre:=λd=>d.1.length<=1000000,res:=λd=>([],vB (kF d.1)) }
abbrev ak9(l:List Int):Nat->Option (St->jK):=λk=>match k with
 | 2=>some λ_=>.inv { α:=Nat,slots:=λk=>[(3,.c (.v (.int .i64 k)))],res:=λ_=>[],inv:=λk=>(1<=k/\(k<=l.length\/k=1))/\∀j,j+1 < k->∀x y,l[j]?=some x->l[j+1]?=some y->x < y,meas:=λk=>l.length - k }
 | _=>none
theorem af5(l:List Int) (aG:ctV.pre (l,())):
 (∃x,((1<=x/\(x<=l.length\/x=1))/\∀(j:Nat),j+1 < x->∀(x y:Int),l[j]?=some x->l[j+1]?=some y->x < y)/\(cI 1=cI (x:Int)/\True)/\([]:List dP)=[])/\∀(x:Nat),((1<=x/\(x<=l.length\/x=1))/\∀(j:Nat),j+1 < x->∀(x y:Int),l[j]?=some x->l[j+1]?=some y->x < y)->br (decide ((x:Int) < (l.length:Int))) (iR ((x:Int) - (1:Int))/\(0<=(x:Int) - (1:Int)/\(x:Int) - 1 < (l.length:Int))/\∀(d:Int),l[((x:Int) - (1:Int)).toNat]?=some d->(0<=(x:Int)/\(x:Int) < (l.length:Int))/\∀(bJ:Int),l[(x:Int).toNat]?=some bJ->br (decide (bJ<=d)) (qB (kF l) false) (iR ((x:Int)+(1:Int))/\∃x',((1<=x'/\(x'<=l.length\/x'=1))/\∀(j:Nat),j+1 < x'->∀(x y:Int),l[j]?=some x->l[j+1]?=some y->x < y)/\(cI ((x:Int)+(1:Int))=cI (x':Int)/\True)/\([]:List dP)=[]/\l.length - x' < l.length - x)) (qB (kF l) true):=by
 delta dP cI qB iR;have hp:l.length<=1000000:=aG;refine⟨⟨1,⟨⟨by omega,.inr rfl⟩,λj hj=>by omega⟩,⟨rfl,trivial⟩,rfl⟩,λk hk=>ah.2 ⟨λh=>?_,λh=>?_⟩⟩
 .simp only[dN]at h;have hk1:=hk.1.1;refine⟨ay.2 (by omega),by omega,λd hd=>⟨by omega,λe he=>?_⟩⟩
  have hd:l[k - 1]?=some d:=by rw[<-hd];congr 1;omega
  have he:l[k]?=some e:=by simpa using he
  have he':l[k - 1+1]?=some e:=by rw[show k - 1+1=k by omega];exact he
  refine ah.2 ⟨λh2=>?_,λh2=>⟨ay.2 (by omega),k+1,⟨⟨by omega,.inl (by omega)⟩,λj hj x y hx hy=>?_⟩,⟨by simp,trivial⟩,rfl,by omega⟩⟩
  .simp only[dN]at h2;have:kF l=false:=Aw λhs=>by have:=KG hs hd he';omega
   rw[this];exact⟨rfl,rfl⟩
  .simp only[eH]at h2
   by_cases iY:j+1=k
   .have hj':j=k - 1:=by omega
    subst hj';rw[hd]at hx;rw[he']at hy;cases hx;cases hy;omega
   .exact hk.2 j (by omega) x y hx hy
 .simp only[eH]at h;have:kF l=true:=xq (F5 λj x y hx hy=>hk.2 j (by have:=(A8.1 hy).1;omega) x y hx hy)
  rw[this];exact⟨rfl,rfl⟩
theorem NW:aU aS.gd 192 ctV:=
 jW (cx:=aS) (n:=20) (cl:=[]) au trivial Tryz.func192 λd hd=>by
  obtain⟨l,⟨⟩⟩:=d;exact aP (ak9 l) (af5 l hd) (by kernel_rfl)
abbrev F6:CT:={ ps:=[.sl (.int .i64),.sl (.int .i64),.bool],pre:=λd=>d.1.length<=1000000/\d.2.1.length<=1000000,res:=λd=>([.row 3 (.int .i64) (nM (aY d.1) d.2.1 d.2.2.1)],.one (.c (.row 0))) }
abbrev ala(l o:List Int) (b:Bool):Nat->Option (St->jK):=λk=>match k with
 | 3=>some λ_=>.inv { α:=Nat,slots:=λk=>[(13,.c (.v (.int .i64 k))),(7,.c (.row 1))],res:=λk=>[(1,.row 3 (.int .i64) (nM ((aY l).take k) o b))],inv:=λk=>k<=(aY l).length,meas:=λk=>(aY l).length - k,nil:=[(7,3,.int .i64)] }
 | _=>none
theorem af6(l o:List Int) (b:Bool) (aG:F6.pre (l,o,b,())):
 let z3:=λ(x:Nat)=>nM (List.take x (aY l)) o b;let z2:=λ(x:Nat)=>[g0 (ak.row 3 I6 (aY l)),g0 (ak.row 3 I6 (z3 x))];let z1:=λ(x x':Nat)=>cI ((x:Int)+(1:Int))=cI (x':Int)/\SV.c (SC.row 1)=SV.c (SC.row 1)/\True;l.length<=1000000/\(∃x,x<=(aY l).length/\(cI 0=cI (x:Int)/\SV.c (SC.row (Nat.succ 0))=SV.c (SC.row 1)/\True)/\[g0 (ak.row 3 I6 (aY l)),g0 (ak.row 3 I6 [])]=(z2 x))/\∀(x:Nat),x<=(aY l).length->br (decide ((x:Int) < (↑(aY l).length:Int))) ((0<=(x:Int)/\(x:Int) < (↑(aY l).length:Int))/\(x:Int).toNat < (aY l).length/\∀(d:Int),(aY l)[(x:Int).toNat]?=some d->o.length<=4611686018427387904/\br (dO o d == b) (oz (List.length (z3 x)+List.length ([d])) 8/\iR ((x:Int)+(1:Int))/\∃x',x'<=(aY l).length/\(z1 x x')/\[g0 (ak.row 3 I6 (aY l)),g0 (ak.row 3 I6 (nM (List.take x (aY l)) o b++[d]))]=(z2 x')/\(aY l).length - x' < (aY l).length - x) (iR ((x:Int)+(1:Int))/\∃x',x'<=(aY l).length/\(z1 x x')/\(z2 x)=(z2 x')/\(aY l).length - x' < (aY l).length - x)) ([ak.row 3 I6 (nM (aY l) o b)]=[ak.row 3 I6 (z3 x)]/\bg.one (SV.c (SC.row 0))=bg.one (SV.c (SC.row 0))):=by
 conv=>zeta
 delta cI g0 I6 iR;have hp:l.length<=1000000/\o.length<=1000000:=aG;have hm:=aap l;have hf:∀k,(nM ((aY l).take k) o b).length<=1000000:=λk=>by
  refine pI (Xd _ _) ?_;rw[lu];omega
 refine⟨hp.1,⟨0,by omega,⟨rfl,rfl,trivial⟩,by simp[nM]⟩,λk hk=>ah.2 ⟨λh=>?_,λh=>?_⟩⟩
 .simp only[dN]at h;refine⟨⟨by omega,h⟩,by omega,λd hd=>?_⟩
  have hd:(aY l)[k]?=some d:=by simpa using hd
  have e:nM ((aY l).take (k+1)) o b=nM ((aY l).take k) o b++(if dO o d == b then[d] else[]):=by
   unfold nM;rw[OJ,hd,adu,List.filter_append]
   congr 1
   simp only[List.filter_cons,List.filter_nil]
  refine⟨by omega,ah.2 ⟨λh2=>⟨?_,ay.2 (by omega),k+1,by omega,⟨by simp,rfl,trivial⟩,?_,by omega⟩,λh2=>⟨ay.2 (by omega),k+1,by omega,⟨by simp,rfl,trivial⟩,?_,by omega⟩⟩⟩
  .have:=hf k;rw[dZ];simp;omega
  .rw[e,h2];rfl
  .rw[e,h2];simp
 .simp only[eH]at h;rw[xg (by omega)];exact⟨rfl,rfl⟩
theorem aa3:aU aS.gd 170 F6:=
 jW (cx:=aS) (n:=28) (cl:=[(169,zy),(98,FK)]) au ⟨NK,zx,trivial⟩ Tryz.func170 λd hd=>by
  obtain⟨l,o,b,⟨⟩⟩:=d;exact aP (ala l o b) (af6 l o b hd) (by kernel_rfl)
abbrev NY:CT:={ ps:=[.sl (.int .i64),.int .i64],pre:=λd=>d.1.length<=1000000,res:=λd=>([.row 3 (.int .i64) (nM (aY d.1) [d.2.1] false)],.one (.c (.row 0))) }
theorem af7(l:List Int) (x:Int) (aG:NY.pre (l,x,())):
 let z1:=[ak.row (3:TypeId) zu (nM (aY l) [x] false)];(l.length<=(1000000:Nat)/\[x].length<=(1000000:Nat))/\z1=z1/\bg.one IE=bg.one IE:=by
 conv=>zeta
 delta zu IE;have hp:l.length<=1000000:=aG;exact⟨⟨hp,by simp⟩,rfl,rfl⟩
theorem F7:aU aS.gd 112 NY:=
 jW (cx:=aS) (n:=9) (cl:=[(170,F6)]) au ⟨aa3,trivial⟩ Tryz.func112 λd hd=>by
  obtain⟨l,x,⟨⟩⟩:=d;exact aP (λ_=>none) (af7 l x hd) (by kernel_rfl)
abbrev aa4:CT:={ ps:=[.int .i64],pre:=λd=>0<=d.1/\d.1<=9223372036854775807,res:=λd=>([],.iJ [.c (.v (.int .i64 (d.1.tdiv 8 - 1))),.c (.v (.int .i64 (d.1.tmod 8)))]) }
theorem af8(id:Int) (aG:aa4.pre (id,())):
 let z2:=id.tdiv (8:Int) - (1:Int);let z1:=[cI z2,cI (id.tmod (8:Int))];(8:Int)≠(0:Int)/\iR (id.tdiv (8:Int))/\iR z2/\(8:Int)≠(0:Int)/\rT z1 z1:=by
 conv=>zeta
 delta cI rT iR;have hp:0<=id/\id<=9223372036854775807:=aG;have e:id.tdiv 8=id / 8:=A94 hp.1;exact⟨by decide,ay.2 (by omega),ay.2 (by omega),by decide,rfl,rfl⟩
theorem aa5:aU aS.gd 147 aa4:=
 jW (cx:=aS) (n:=9) (cl:=[]) au trivial Tryz.func147 λd hd=>by
  obtain⟨id,⟨⟩⟩:=d;exact aP (λ_=>none) (af8 id hd) (by kernel_rfl)
abbrev NZ:CT:={ ps:=[.int .i64],pre:=λd=>d.1<=9223372036854775807,res:=λd=>([],.one (.c (.v (.int .i64 (aQ d.1))))) }
abbrev aop(id:Int):Nat->Option (St->jK):=λk=>match k with
 | 4=>some λ_=>.inv { α:=Nat×Int,slots:=λx=>[(8,.c (.v (.int .i64 x.1))),(0,.c (.v (.int .i64 x.2)))],res:=λ_=>[],inv:=λx=>x.1<=5/\0<=x.2/\x.2<=9223372036854775807/\dQ (5 - x.1) x.1 x.2=aQ id,meas:=λx=>5 - x.1 }
 | _=>none
theorem alb(id:Int) (aG:NZ.pre (id,())):
 let z2:=qI (aQ id) (-1:Int);let z1:=λ(x:Nat×Int)=>x.fst<=5/\0<=x.snd/\x.snd<=9223372036854775807/\dQ (5 - x.fst) (x.fst:Int) x.snd=aQ id;br (decide (id < 0)) z2 ((∃(x:Nat×Int),(z1 x)/\(cI 0=cI (x.fst:Int)/\cI id=cI x.snd/\True)/\([]:List dP)=[])/\∀(x:Nat×Int),x.fst<=5/\0<=x.snd/\x.snd<=9223372036854775807/\dQ (5 - x.fst) (x.fst:Int) x.snd=aQ id->br (decide ((x.fst:Int) < (5:Int))) (br (decide (x.snd < 8)) (qI (aQ id) (x.fst:Int)) ((0<=x.snd/\x.snd<=9223372036854775807)/\br (decide (7<=x.snd.tmod (8:Int))) z2 (iR ((x.fst:Int)+(1:Int))/\∃(x':Nat×Int),(z1 x')/\(cI ((x.fst:Int)+(1:Int))=cI (x'.fst:Int)/\cI (x.snd.tdiv (8:Int) - (1:Int))=cI x'.snd/\True)/\([]:List dP)=[]/\5 - x'.fst < 5 - x.fst))) z2):=by
 conv=>zeta
 delta dP cI qI iR;have hp:id<=9223372036854775807:=aG;refine ah.2 ⟨λh=>?_,λh=>?_⟩
 .simp only[dN]at h;have e:aQ id = -1:=by unfold aQ;rw[if_pos h]
  rw[e];exact⟨rfl,rfl⟩
 simp only[eH]at h;refine⟨⟨(0,id),⟨by omega,by simp only;omega,hp,by unfold aQ;rw[if_neg h];rfl⟩,⟨rfl,rfl,trivial⟩,rfl⟩,λx hx=>ah.2 ⟨λh2=>?_,λh2=>?_⟩⟩
 .obtain⟨x1,x2,x3,x4⟩:=hx;simp only[dN]at h2;obtain⟨m,hm⟩:∃m,5 - x.1=m+1:=⟨4 - x.1,by omega⟩
  rw[hm,dQ]at x4;refine ah.2 ⟨λh3=>?_,λh3=>⟨⟨x2,x3⟩,ah.2 ⟨λh4=>?_,λh4=>?_⟩⟩⟩
  .simp only[dN]at h3;rw[if_pos h3]at x4;rw[<-x4];exact⟨rfl,rfl⟩
  .simp only[dN,eH]at h3 h4;rw[if_neg h3,if_pos h4]at x4;rw[<-x4];exact⟨rfl,rfl⟩
  .simp only[eH]at h3 h4;rw[if_neg h3,if_neg h4]at x4;have e:x.2.tdiv 8=x.2 / 8:=A94 x2;refine⟨ay.2 (by omega),(x.1+1,x.2.tdiv 8 - 1),⟨by simp only;omega,by simp only;omega,by simp only;omega,?_⟩,⟨rfl,rfl,trivial⟩,rfl,by simp only;omega⟩
   rw[<-x4,show 5 - (x.1+1)=m by omega];rfl
 .obtain⟨x1,x2,x3,x4⟩:=hx;simp only[eH]at h2;rw[show 5 - x.1=0 by omega]at x4
  rw[<-x4];exact⟨rfl,rfl⟩
theorem KH:aU aS.gd 76 NZ:=
 jW (cx:=aS) (n:=23) (cl:=[(147,aa4)]) au ⟨aa5,trivial⟩ Tryz.func76 λd hd=>by
  obtain⟨id,⟨⟩⟩:=d;exact aP (aop id) (alb id hd) (by kernel_rfl)
abbrev TF:CT:={ ps:=[dS],pre:=λd=>d.1.1<=9223372036854775807,res:=λd=>([],.iJ [.c (.v (.int .i64 (bW d.1.1 d.1.2.2.2.2.2.1).1)),.c (.v (.bool (bW d.1.1 d.1.2.2.2.2.2.1).2))]) }
theorem alc(id fn pc:Int) (rg:List Int) (st ch ph su fa:Int) (he:List Int) (aG:TF.pre ((id,fn,pc,rg,st,ch,ph,su,fa,he,()),())):
 let z1:=[cI ((bW id ch).fst),cB ((bW id ch).snd)];id<=9223372036854775807/\br (decide (aQ id < 0) || decide (aQ id=4) || decide (ch < 0) || decide (7<=ch)) (rT z1 [cI 0,cB false]) (iR (id+1)/\iR ((8:Int) * (id+1))/\iR ((8:Int) * (id+1)+ch)/\rT z1 [cI ((8:Int) * (id+1)+ch),cB true]):=by
 conv=>zeta
 delta cI cB rT iR;refine⟨aG,ah.2 ⟨λh=>?_,λh=>?_⟩⟩
 .have e:bW id ch=(0,false):=by
   unfold bW;rw[if_pos (by simpa[or_assoc]using h)]
  rw[e];exact⟨rfl,rfl⟩
 .simp only[l7,eH]at h;have e:bW id ch=(8 * (id+1)+ch,true):=by
   unfold bW;rw[if_neg (by omega)]
  have:=jX (id:=id) (by omega)
  rw[e];exact⟨ay.2 (by omega),ay.2 (by omega),ay.2 (by omega),rfl,rfl⟩
theorem TG:aU aS.gd 89 TF:=
 jW (cx:=aS) (n:=31) (cl:=[(76,NZ)]) au ⟨KH,trivial⟩ Tryz.func89 λd hd=>by
  obtain⟨⟨id,fn,pc,rg,st,ch,ph,su,fa,he,⟨⟩⟩,⟨⟩⟩:=d;exact aP (λ_=>none) (alc id fn pc rg st ch ph su fa he hd) (by kernel_rfl)
abbrev QH:CT:={ ps:=[oW,dS],pre:=λd=>0<=d.2.1.2.1/\d.2.1.2.1 < d.1.2.2.2.1.length/\0<=d.2.1.2.2.1,res:=λd=>([],.iJ [.agg [.v (.int .i64 ((atR d.1.2.2.2.1 d.2.1.2.1 d.2.1.2.2.1).1).1),.v (.int .i64 ((atR d.1.2.2.2.1 d.2.1.2.1 d.2.1.2.2.1).1).2.1),.v (.int .i64 ((atR d.1.2.2.2.1 d.2.1.2.1 d.2.1.2.2.1).1).2.2.1),.v (.int .i64 ((atR d.1.2.2.2.1 d.2.1.2.1 d.2.1.2.2.1).1).2.2.2.1),.v (.int .i64 ((atR d.1.2.2.2.1 d.2.1.2.1 d.2.1.2.2.1).1).2.2.2.2.1),.v (.int .i64 ((atR d.1.2.2.2.1 d.2.1.2.1 d.2.1.2.2.1).1).2.2.2.2.2.1),.v (.int .i64 ((atR d.1.2.2.2.1 d.2.1.2.1 d.2.1.2.2.1).1).2.2.2.2.2.2.1),.v (.int .i64 ((atR d.1.2.2.2.1 d.2.1.2.1 d.2.1.2.2.1).1).2.2.2.2.2.2.2.1)],.c (.v (.bool (atR d.1.2.2.2.1 d.2.1.2.1 d.2.1.2.2.1).2))]) }
theorem ald(vs:List VD) (ms cs:List ByteArray) (fs:List FD) (ts:List SD) (id fn pc:Int) (rg:List Int) (st ch ph su fa:Int) (he:List Int) (aG:QH.pre ((vs,ms,cs,fs,ts,()),(id,fn,pc,rg,st,ch,ph,su,fa,he,()),())):
 let z1:=[SV.agg [v6 ((atR fs fn pc).fst.fst),v6 ((atR fs fn pc).fst.snd.fst),v6 ((atR fs fn pc).fst.snd.snd.fst),v6 ((atR fs fn pc).fst.snd.snd.snd.fst),v6 ((atR fs fn pc).fst.snd.snd.snd.snd.fst),v6 ((atR fs fn pc).fst.snd.snd.snd.snd.snd.fst),v6 ((atR fs fn pc).fst.snd.snd.snd.snd.snd.snd.fst),v6 ((atR fs fn pc).fst.snd.snd.snd.snd.snd.snd.snd.fst)],cB ((atR fs fn pc).snd)];(0<=fn/\fn < (fs.length:Int))/\∀(d:ByteArray×(lY.sl.pair Sh.unit).den),fs[fn.toNat]?=some d->br (decide (((List.length d.snd.fst):Int)<=pc)) (rT z1 [SV.agg [v6 0,v6 0,v6 0,v6 0,v6 0,v6 0,v6 0,v6 0],cB false]) ((0<=pc/\pc < ((List.length d.snd.fst):Int))/\∀(bJ:ID),d.snd.fst[pc.toNat]?=some bJ->rT z1 [SV.agg [v6 bJ.fst,v6 bJ.snd.fst,v6 bJ.snd.snd.fst,v6 bJ.snd.snd.snd.fst,v6 bJ.snd.snd.snd.snd.fst,v6 bJ.snd.snd.snd.snd.snd.fst,v6 bJ.snd.snd.snd.snd.snd.snd.fst,v6 bJ.snd.snd.snd.snd.snd.snd.snd.fst],cB true]):=by
 conv=>zeta
 delta v6 cB rT I6;obtain⟨h1,h2,h3⟩:0<=fn/\fn < (fs.length:Int)/\0<=pc:=aG;refine⟨⟨h1,h2⟩,λx hx=>?_⟩
 obtain⟨y,hy,ey⟩:=oD ⟨h1,h2⟩;rw[hx]at hy;cases hy;refine ah.2 ⟨λh=>?_,λh=>?_⟩
 .simp only[dN]at h;have e:atR fs fn pc=((0,0,0,0,0,0,0,0,()),false):=by
   unfold atR lZ;rw[ey,CJ (by omega)]
  rw[e];exact⟨rfl,rfl⟩
 .simp only[eH]at h;refine⟨⟨h3,by omega⟩,λi hi=>?_⟩
  have e:atR fs fn pc=(i,true):=by
   unfold atR lZ;rw[ey,hi]
  rw[e];exact⟨rfl,rfl⟩
theorem zN:aU aS.gd 95 QH:=
 dY (cx:=aS) (n:=25) (cl:=[]) (rc:=[]) au trivial Tryz.func95 λd hd=>by
  obtain⟨⟨vs,ms,cs,fs,ts,⟨⟩⟩,⟨id,fn,pc,rg,st,ch,ph,su,fa,he,⟨⟩⟩,⟨⟩⟩:=d;exact aP (λ_=>none) (ald vs ms cs fs ts id fn pc rg st ch ph su fa he hd) (by kernel_rfl)
abbrev aa6:CT:={ ps:=[dS,.int .i64,.int .i64],pre:=λd=>True,res:=λd=>([],.one (.dat dS (KE d.1 d.2.1 d.2.2.1))) }
theorem af9(id fn pc:Int) (rg:List Int) (st ch ph su fa:Int) (he:List Int) (s f:Int):
 rE (bg.one (SV.dat dS (KE (id,fn,pc,rg,st,ch,ph,su,fa,he,()) s f))) (bg.one (SV.dat dS ((id,fn,pc,rg,st,ch,ph,s,f,he,())))):=by
 delta rE I6;exact⟨rfl,rfl⟩
theorem N7:aU aS.gd 148 aa6:=
 dY (cx:=aS) (n:=12) (cl:=[]) (rc:=[.data dS]) au trivial Tryz.func148 λd hd=>by
  obtain⟨⟨id,fn,pc,rg,st,ch,ph,su,fa,he,⟨⟩⟩,s,f,⟨⟩⟩:=d;exact aP (λ_=>none) (af9 id fn pc rg st ch ph su fa he s f) (by kernel_rfl)
abbrev TJ:CT:={ ps:=[dS,lY],pre:=λd=>d.1.2.2.2.2.2.2.2.2.2.1.length<=1000000/\d.1.1<=9223372036854775807,res:=λd=>([],.one (.c (.v (.int .i64 (jm d.1.1 d.1.2.2.2.2.2.1 d.1.2.2.2.2.2.2.1 d.1.2.2.2.2.2.2.2.2.2.1 d.2.1))))) }
theorem aga(id fn pc:Int) (rg:List Int) (st ch ph su fa:Int) (he:List Int) (op a b c obj n fo ord:Int) (aG:TJ.pre ((id,fn,pc,rg,st,ch,ph,su,fa,he,()),(op,a,b,c,obj,n,fo,ord,()),())):
 let z3:=jm id ch ph he (op,a,b,c,obj,n,fo,ord,());let z2:=qI z3 (0:Int);let z1:=qI z3 (27:Int);br (!decide (ph=0)) z2 (br (decide (op=18)) (he.length<=1000000/\br (!dO he n) z1 z2) (br (decide (op=16)) (he.length<=1000000/\br (!dO he obj) z1 z2) (br (decide (op=21)) (id<=9223372036854775807/\br (!(bW id ch).snd) (qI z3 (28:Int)) z2) z2))):=by
 conv=>zeta
 delta qI;obtain⟨h1,h2⟩:he.length<=1000000/\id<=9223372036854775807:=aG;unfold jm;simp only[ah]
 repeat' (first | exact h1 | exact h2 | (refine And.intro ?_ ?_) | (intro _))
 all_goals first | rfl | (simp_all;done)
theorem N8:aU aS.gd 150 TJ:=
 jW (cx:=aS) (n:=35) (cl:=[(165,IJ),(89,TF)]) au ⟨zA,TG,trivial⟩ Tryz.func150 λd hd=>by
  obtain⟨⟨id,fn,pc,rg,st,ch,ph,su,fa,he,⟨⟩⟩,⟨op,a,b,c,obj,n,fo,ord,⟨⟩⟩,⟨⟩⟩:=d;exact aP (λ_=>none) (aga id fn pc rg st ch ph su fa he op a b c obj n fo ord hd) (by kernel_rfl)
theorem bC{c:Prop} [Decidable c] {A B:Prop}:br (decide c) A B↔(c->A)/\(¬c->B):=by
 rw[ah,dN,eH]
abbrev aa7:CT:={ ps:=[dS,lY],pre:=λd=>(0<=d.2.1.2.1/\d.2.1.2.1 < 8)/\(0<=d.2.1.2.2.1/\d.2.1.2.2.1 < 8)/\(0<=d.2.1.2.2.2.1/\d.2.1.2.2.2.1 < 8)/\0<=d.1.2.2.1/\d.1.2.2.1<=1000000,res:=λd=>([],.iJ [.dat dS (fQ d.1 d.2.1).1,.c (.v (.bool (fQ d.1 d.2.1).2))]) }
theorem agb(id fn pc:Int) (rg:List Int) (st ch ph su fa:Int) (he:List Int) (op a b c obj n fo ord:Int) (aG:aa7.pre ((id,fn,pc,rg,st,ch,ph,su,fa,he,()),(op,a,b,c,obj,n,fo,ord,()),())):
 let z5:=(id,fn,pc,rg,st,ch,ph,su,fa,he,());let z4:=fQ z5 (op,a,b,c,obj,n,fo,ord,());let z3:=[SV.dat dS z4.fst,cB (z4.snd)];let z1:=rT z3 [SV.dat dS ((id,fn,pc+1,rg,st,ch,ph,su,fa,he,())),cB true];let z2:=rT z3 [SV.dat dS ((id,fn,n,rg,st,ch,ph,su,fa,he,())),cB true];iR (pc+1)/\br (decide (op=1)) ((0<=a/\a < 8)/\a.toNat < 8/\rT z3 [SV.dat dS ((id,fn,pc+1,rg.set a.toNat n,st,ch,ph,su,fa,he,())),cB true]) (br (decide (op=2)) ((0<=b/\b < 8)/\b.toNat < 8/\∀(d:Int),rg[b.toNat]?=some d->(0<=a/\a < 8)/\a.toNat < 8/\rT z3 [SV.dat dS ((id,fn,pc+1,rg.set a.toNat d,st,ch,ph,su,fa,he,())),cB true]) (br (decide (op=3)) ((0<=b/\b < 8)/\b.toNat < 8/\∀(d:Int),rg[b.toNat]?=some d->(0<=c/\c < 8)/\c.toNat < 8/\∀(bJ:Int),rg[c.toNat]?=some bJ->True/\br (decide ((jd fo d bJ).snd=0)) ((0<=a/\a < 8)/\a.toNat < 8/\rT z3 [SV.dat dS ((id,fn,pc+1,rg.set a.toNat (jd fo d bJ).fst,st,ch,ph,su,fa,he,())),cB true]) z1) (br (decide (op=5)) ((0<=b/\b < 8)/\b.toNat < 8/\∀(d:Int),rg[b.toNat]?=some d->br (decide (d=0)) z1 z2) (br (decide (op=4)) z2 (br (decide (op=6)) ((0<=b/\b < 8)/\b.toNat < 8/\∀(d:Int),rg[b.toNat]?=some d->br (decide (d=0)) (True/\rT z3 [SV.dat dS (KE z5 (3:Int) (26:Int)),cB false]) z1) (br (decide (op=7)) (True/\rT z3 [SV.dat dS (KE z5 (2:Int) (0:Int)),cB false]) z1)))))):=by
 conv=>zeta
 delta cB rT I6 iR;obtain⟨hA,hB,hC,hp0,hp1⟩:(0<=a/\a < 8)/\(0<=b/\b < 8)/\(0<=c/\c < 8)/\0<=pc/\pc<=1000000:=aG;have hA8:a.toNat < 8:=by omega
 have hB8:b.toNat < 8:=by omega
 have hC8:c.toNat < 8:=by omega
 have gd:∀{x d:Int},rg[x.toNat]?=some d->rg.getD x.toNat 0=d:=λhd=>by rw[Jf,hd];rfl
 refine⟨ay.2 (by omega),bC.2 ⟨λh=>?_,λh=>bC.2 ⟨λh2=>?_,λh2=>bC.2 ⟨λh3=>?_,λh3=>bC.2 ⟨λh4=>?_,λh4=>bC.2 ⟨λh5=>?_,λh5=>bC.2 ⟨λh6=>?_,λh6=>bC.2 ⟨λh7=>?_,λh7=>?_⟩⟩⟩⟩⟩⟩⟩⟩
 .have e:fQ (id,fn,pc,rg,st,ch,ph,su,fa,he,()) (op,a,b,c,obj,n,fo,ord,())=((id,fn,pc+1,rg.set a.toNat n,st,ch,ph,su,fa,he,()),true):=by simp only[fQ,if_pos h]
  rw[e];exact⟨hA,hA8,rfl,rfl⟩
 .refine⟨hB,hB8,λd hd=>?_⟩
  have e:fQ (id,fn,pc,rg,st,ch,ph,su,fa,he,()) (op,a,b,c,obj,n,fo,ord,())=((id,fn,pc+1,rg.set a.toNat d,st,ch,ph,su,fa,he,()),true):=by simp only[fQ,if_neg h,if_pos h2,gd hd]
  rw[e];exact⟨hA,hA8,rfl,rfl⟩
 .refine⟨hB,hB8,λd hd=>⟨hC,hC8,λd1 hd1=>⟨trivial,bC.2 ⟨λh8=>?_,λh8=>?_⟩⟩⟩⟩
  .have e:fQ (id,fn,pc,rg,st,ch,ph,su,fa,he,()) (op,a,b,c,obj,n,fo,ord,())=((id,fn,pc+1,rg.set a.toNat (jd fo d d1).1,st,ch,ph,su,fa,he,()),true):=by simp only[fQ,if_neg h,if_neg h2,if_pos h3,gd hd,gd hd1,if_pos h8]
   rw[e];exact⟨hA,hA8,rfl,rfl⟩
  .have e:fQ (id,fn,pc,rg,st,ch,ph,su,fa,he,()) (op,a,b,c,obj,n,fo,ord,())=((id,fn,pc+1,rg,st,ch,ph,su,fa,he,()),true):=by simp only[fQ,if_neg h,if_neg h2,if_pos h3,gd hd,gd hd1,if_neg h8]
   rw[e];exact⟨rfl,rfl⟩
 .have h45:¬op=4:=by omega
  refine⟨hB,hB8,λd hd=>bC.2 ⟨λh8=>?_,λh8=>?_⟩⟩
  .have e:fQ (id,fn,pc,rg,st,ch,ph,su,fa,he,()) (op,a,b,c,obj,n,fo,ord,())=((id,fn,pc+1,rg,st,ch,ph,su,fa,he,()),true):=by simp only[fQ,if_neg h,if_neg h2,if_neg h3,if_neg h45,if_pos h4,gd hd,if_pos h8]
   rw[e];exact⟨rfl,rfl⟩
  .have e:fQ (id,fn,pc,rg,st,ch,ph,su,fa,he,()) (op,a,b,c,obj,n,fo,ord,())=((id,fn,n,rg,st,ch,ph,su,fa,he,()),true):=by simp only[fQ,if_neg h,if_neg h2,if_neg h3,if_neg h45,if_pos h4,gd hd,if_neg h8]
   rw[e];exact⟨rfl,rfl⟩
 .have e:fQ (id,fn,pc,rg,st,ch,ph,su,fa,he,()) (op,a,b,c,obj,n,fo,ord,())=((id,fn,n,rg,st,ch,ph,su,fa,he,()),true):=by simp only[fQ,if_neg h,if_neg h2,if_neg h3,if_pos h5]
  rw[e];exact⟨rfl,rfl⟩
 .refine⟨hB,hB8,λd hd=>bC.2 ⟨λh8=>?_,λh8=>?_⟩⟩
  .have e:fQ (id,fn,pc,rg,st,ch,ph,su,fa,he,()) (op,a,b,c,obj,n,fo,ord,())=((id,fn,pc,rg,st,ch,ph,3,26,he,()),false):=by simp only[fQ,if_neg h,if_neg h2,if_neg h3,if_neg h5,if_neg h4,gd hd];rw[if_pos ⟨h6,h8⟩]
   rw[e];exact⟨trivial,rfl,rfl⟩
  .have h67:¬op=7:=by omega
   have e:fQ (id,fn,pc,rg,st,ch,ph,su,fa,he,()) (op,a,b,c,obj,n,fo,ord,())=((id,fn,pc+1,rg,st,ch,ph,su,fa,he,()),true):=by simp only[fQ,if_neg h,if_neg h2,if_neg h3,if_neg h5,if_neg h4,gd hd,if_neg h67];rw[if_neg λq=>h8 q.2]
   rw[e];exact⟨rfl,rfl⟩
 .have e:fQ (id,fn,pc,rg,st,ch,ph,su,fa,he,()) (op,a,b,c,obj,n,fo,ord,())=((id,fn,pc,rg,st,ch,ph,2,0,he,()),false):=by simp only[fQ,if_neg h,if_neg h2,if_neg h3,if_neg h5,if_neg h4,if_pos h7];rw[if_neg λq=>h6 q.1]
  rw[e];exact⟨trivial,rfl,rfl⟩
 .have e:fQ (id,fn,pc,rg,st,ch,ph,su,fa,he,()) (op,a,b,c,obj,n,fo,ord,())=((id,fn,pc+1,rg,st,ch,ph,su,fa,he,()),true):=by simp only[fQ,if_neg h,if_neg h2,if_neg h3,if_neg h5,if_neg h4,if_neg h7];rw[if_neg λq=>h6 q.1]
  rw[e];exact⟨rfl,rfl⟩
theorem aa8:aU aS.gd 151 aa7:=
 dY (cx:=aS) (n:=87) (cl:=[(97,TB),(148,aa6)]) (rc:=[.data dS,.keep]) au ⟨KF,N7,trivial⟩ Tryz.func151 λd hd=>by
  obtain⟨⟨id,fn,pc,rg,st,ch,ph,su,fa,he,⟨⟩⟩,⟨op,a,b,c,obj,n,fo,ord,⟨⟩⟩,⟨⟩⟩:=d;exact aP (λ_=>none) (agb id fn pc rg st ch ph su fa he op a b c obj n fo ord hd) (by kernel_rfl)
abbrev tN:CT:={ ps:=[oW,.int .i64],pre:=λd=>bnd (d.1,()),res:=λd=>([],.one (.c (.v (.int .i64 (bQ (aC d.1.1 d.1.2.1 d.1.2.2.1 d.1.2.2.2.1 d.1.2.2.2.2.1).1 d.2.1))))) }
theorem ale(vs:List VD) (ms cs:List ByteArray) (fs:List FD) (ts:List SD) (bound:Int) (aG:tN.pre ((vs,ms,cs,fs,ts,()),bound,())):
 let z2:=aC vs ms cs fs ts;let z1:=bQ z2.fst bound;(vs.length<=1000000/\ms.length<=1000000/\cs.length<=1000000/\fs.length<=1000000/\ts.length<=1000000/\(∀(x:ByteArray×(lY.sl.pair Sh.unit).den),x∈fs->List.length x.snd.fst<=1000000)/\(dM fs).length<=1000000)/\br (!decide (z2.fst=0)) (qI z1 (z2.fst)) (br (decide (bound < 1) || decide (32 < bound)) (qI z1 (2:Int)) (qI z1 (0:Int))):=by
 conv=>zeta
 delta qI I6;have hb:bnd ((vs,ms,cs,fs,ts,()),()):=aG;refine⟨hb,ah.2 ⟨λh=>?_,λh=>ah.2 ⟨λh2=>?_,λh2=>?_⟩⟩⟩
 .have h:(aC vs ms cs fs ts).1≠0:=by simpa using h
  unfold bQ;rw[if_pos h];exact⟨rfl,rfl⟩
 .have h:¬(aC vs ms cs fs ts).1≠0:=by simpa using h
  have h2:bound < 1\/32 < bound:=by simpa using h2
  unfold bQ;rw[if_neg h,if_pos h2];exact⟨rfl,rfl⟩
 .have h:¬(aC vs ms cs fs ts).1≠0:=by simpa using h
  have h2:¬(bound < 1\/32 < bound):=by simp only[l7,eH]at h2;omega
  unfold bQ;rw[if_neg h,if_neg h2];exact⟨rfl,rfl⟩
theorem KI:aU aS.gd 75 tN:=
 jW (cx:=aS) (n:=23) (cl:=[(74,IU)]) au ⟨Dz,trivial⟩ Tryz.func75 λd hd=>by
  obtain⟨⟨vs,ms,cs,fs,ts,⟨⟩⟩,bound,⟨⟩⟩:=d;exact aP (λ_=>none) (ale vs ms cs fs ts bound hd) (by kernel_rfl)
open Classical in
theorem jQ:iQ ms fs bound t=true↔dB ms fs bound t:=by
 unfold iQ;rw[WZ]
theorem wX(h:¬dB ms fs bound t):iQ ms fs bound t=false:=A97.2 λq=>h (jQ.1 q)
open Classical in
theorem kP:ny ms fs bound t=true↔rO ms fs bound t:=by
 unfold ny;rw[WZ]
theorem F8(h:¬rO ms fs bound t):ny ms fs bound t=false:=A97.2 λq=>h (kP.1 q)
abbrev aa9:CT:={ ps:=[oW,.int .i64,dS],pre:=λd=>True/\d.2.2.1.2.2.2.2.2.2.2.2.2.1.length<=1000000/\d.2.2.1.1<=9223372036854775807/\d.2.2.1.2.2.2.1.length=8,res:=λd=>([],vB (iQ d.1.2.1 d.1.2.2.2.1 d.2.1 d.2.2.1)) }
abbrev alf(vs:List VD) (ms cs:List ByteArray) (fs:List FD) (ts:List SD) (bound id fn pc:Int) (rg:List Int) (st ch ph su fa:Int) (he:List Int):Nat->Option (St->jK):=λk=>match k with
 | 5=>some λ_=>.inv { α:=Nat,slots:=λk=>[(52,.c (.v (.int .i64 k)))],res:=λ_=>[],inv:=λk=>k<=8/\∀j < k,∀r,rg[j]?=some r->bU r=true,meas:=λk=>8 - k }
 | 13=>some λ_=>.inv { α:=Nat,slots:=λk=>[(97,.c (.v (.int .i64 k)))],res:=λ_=>[],inv:=λk=>k<=he.length/\∀j < k,∀m,he[j]?=some m->0<=m/\m < ms.length,meas:=λk=>he.length - k }
 | _=>none
theorem agc(vs:List VD) (ms cs:List ByteArray) (fs:List FD) (ts:List SD) (bound id fn pc:Int) (rg:List Int) (st ch ph su fa:Int) (he:List Int) (aG:aa9.pre ((vs,ms,cs,fs,ts,()),bound,(id,fn,pc,rg,st,ch,ph,su,fa,he,()),())):
 let z3:=!(decide (aQ id < 0) || decide (fn < 0) || decide ((fs.length:Int)<=fn) || decide (pc < 0));let z7:=(id,fn,pc,rg,st,ch,ph,su,fa,he,());let z6:=iQ ms fs bound z7;let z5:=qB z6 false;let z4:=λ(x:Nat)=>(x<=8/\∀(j:Nat),j < x->∀(r:Int),rg[j]?=some r->bU r=true);let z1:=[g0 (ak.blk 27 [SC.sl Hg vs,SC.sl Sh.str ms,SC.sl Sh.str cs,SC.sl Dw fs,SC.sl mO ts]),g0 (ak.obj 56 dS z7)];let z10:=λ(x:Nat)=>(x:Int)+(1:Int);let z2:=λ(x:Nat)=>(x<=he.length/\∀(j:Nat),j < x->∀(m:Int),he[j]?=some m->0<=m/\m < (ms.length:Int));let z8:=decide (ph=1) || decide (ph=2);let z9:=(atR fs fn pc).fst.fst=18;id<=9223372036854775807/\(z3=true->0<=fn/\fn < (fs.length:Int))/\∀(d:ByteArray×(lY.sl.pair Sh.unit).den),(z3=true->fs[fn.toNat]?=some d)->br (decide (aQ id < 0) || decide (fn < 0) || decide ((fs.length:Int)<=fn) || decide (pc < 0) || decide (((List.length d.snd.fst):Int) < pc)) z5 ((∃x,(z4 x)/\(cI 0=cI (x:Int)/\True)/\sm z1)/\∀(x:Nat),(z4 x)->br (decide ((x:Int) < (8:Int))) ((0<=(x:Int)/\(x:Int) < (rg.length:Int))/\∀(d:Int),rg[(x:Int).toNat]?=some d->True/\br (!decide (bD d=d)) z5 (iR (z10 x)/\∃x',(z4 x')/\(cI (z10 x)=cI (x':Int)/\True)/\sm z1/\8 - x' < 8 - x)) (((!(decide (st < 0) || decide (bound < st) || decide (ch < 0) || decide (7 < ch) || decide (aQ id=4) && !decide (ch=0)))=true->he.length<=1000000)/\br (decide (st < 0) || decide (bound < st) || decide (ch < 0) || decide (7 < ch) || decide (aQ id=4) && !decide (ch=0) || !kF he) z5 ((∃x,(z2 x)/\(cI 0=cI (x:Int)/\True)/\sm z1)/\∀(x:Nat),(z2 x)->br (decide ((x:Int) < (he.length:Int))) ((0<=(x:Int)/\(x:Int) < (he.length:Int))/\∀(d:Int),he[(x:Int).toNat]?=some d->br (decide (d < 0) || decide ((ms.length:Int)<=d)) z5 (iR (z10 x)/\∃x',(z2 x')/\(cI (z10 x)=cI (x':Int)/\True)/\sm z1/\he.length - x' < he.length - x)) (br (decide (ph=0)) (qB z6 true) ((0<=fn/\fn < (fs.length:Int)/\0<=pc)/\((z8 && (atR fs fn pc).snd && decide z9)=true->he.length<=1000000)/\qB z6 (z8 && (atR fs fn pc).snd && decide z9 && !dO he (atR fs fn pc).fst.snd.snd.snd.snd.snd.fst)))))):=by
 conv=>zeta
 delta cI g0 qB sm I6 iR;obtain⟨_,BG,hid,hrg⟩:True/\he.length<=1000000/\id<=9223372036854775807/\rg.length=8:=aG;have fF:¬dB ms fs bound (id,fn,pc,rg,st,ch,ph,su,fa,he,())->([]:List Go.l9.ak)=[]/\bg.one (SV.c (SC.v (Value.bool (iQ ms fs bound (id,fn,pc,rg,st,ch,ph,su,fa,he,())))))=bg.one (SV.c (SC.v (Value.bool false))):=λq=>⟨rfl,by rw[wX q]⟩
 refine⟨hid,λg=>by simp at g;omega,λx hx=>ah.2 ⟨λh=>?_,λh=>?_⟩⟩
 .refine fF λq=>?_
  obtain⟨q1,q2,q3,_⟩:=q;obtain⟨y,hy,ey⟩:=oD q2;have hx:=hx (by simp;omega)
  rw[hx]at hy;cases hy;rw[ey]at q3;simp at h;omega
 simp only[l7,eH]at h;obtain⟨⟨⟨⟨h1,h2⟩,h3⟩,h4⟩,h5⟩:=h;have hx:=hx (by simp;omega)
 have hfn:0<=fn/\fn < (fs.length:Int):=by omega
 obtain⟨y,hy,ey⟩:=oD hfn;rw[hx]at hy;cases hy;have hpc:0<=pc/\pc<=((codeF fs fn).length:Int):=by rw[ey];omega
 refine⟨⟨0,⟨by omega,λj hj=>by omega⟩,⟨rfl,trivial⟩,rfl⟩,λk hk=>ah.2 ⟨λh=>?_,λh=>?_⟩⟩
 .simp only[dN]at h;refine⟨by omega,λd hd=>⟨trivial,ah.2 ⟨λh6=>?_,λh6=>⟨ay.2 (by omega),k+1,⟨by omega,λj hj r hr=>?_⟩,⟨rfl,trivial⟩,rfl,by omega⟩⟩⟩⟩
  .refine fF λq=>?_
   have:=q.2.2.2.1 k (by omega) d hd
   unfold bU at this;have h6:¬bD d=d:=by simpa using h6
   exact h6 (FT.2 (by simpa using this))
  .have h6:bD d=d:=by simpa using h6
   by_cases iY:j=k
   .subst iY;have hd:rg[j]?=some d:=hd;rw[hd]at hr;cases hr;unfold bU;exact xq (FT.1 h6)
   .exact hk.2 j (by omega) r hr
 simp only[eH]at h;have hr:∀k < 8,∀r,rg[k]?=some r->bU r=true:=λj hj r hr=>hk.2 j (by omega) r hr
 refine⟨λ_=>BG,ah.2 ⟨λh7=>?_,λh7=>?_⟩⟩
 .refine fF λq=>?_
  obtain⟨_,_,_,_,q5,q6,q7,_⟩:=q;have e:kF he=true:=xq q7;rw[e]at h7;simp at h7;omega
 simp only[l7,A72,wI,eH,dN]at h7;obtain⟨⟨⟨⟨⟨a1,a2⟩,a3⟩,a4⟩,a5⟩,a6⟩:=h7;have hss:SS he:=OL a6;refine⟨⟨0,⟨by omega,λj hj=>by omega⟩,⟨rfl,trivial⟩,rfl⟩,λm hm=>ah.2 ⟨λh8=>?_,λh8=>?_⟩⟩
 .simp only[dN]at h8;refine⟨by omega,λd hd=>ah.2 ⟨λh9=>?_,λh9=>⟨ay.2 (by omega),m+1,⟨by omega,λj hj r hr=>?_⟩,⟨rfl,trivial⟩,rfl,by omega⟩⟩⟩
  .refine fF λq=>?_
   have:=q.2.2.2.2.2.2.2.1 d (gZ hd);simp at h9;omega
  .by_cases iY:j=m
   .subst iY;have hd:he[j]?=some d:=hd;rw[hd]at hr;cases hr;simp at h9;omega
   .exact hm.2 j (by omega) r hr
 simp only[eH]at h8;have hmm:∀m∈he,0<=m/\m < (ms.length:Int):=λy hy=>by
  obtain⟨j,hj⟩:=Ai hy;exact hm.2 j (by have:=(A8.1 hj).1;omega) y hj
 have base:(ph=0\/((ph=1\/ph=2)/\∃i,lZ fs fn pc=some i/\i.1=18/\dO he i.2.2.2.2.2.1=false))↔dB ms fs bound (id,fn,pc,rg,st,ch,ph,su,fa,he,()):=
  ⟨λq=>⟨by omega,hfn,hpc,hr,by omega,⟨by omega,by omega,λe=>by omega⟩,hss,hmm,q⟩,λq=>q.2.2.2.2.2.2.2.2⟩
 have fB:∀b:Bool,(b=true↔(ph=0\/((ph=1\/ph=2)/\∃i,lZ fs fn pc=some i/\i.1=18/\dO he i.2.2.2.2.2.1=false)))->bg.one (SV.c (SC.v (Value.bool (iQ ms fs bound (id,fn,pc,rg,st,ch,ph,su,fa,he,())))))=bg.one (SV.c (SC.v (Value.bool b))):=λb hb=>by
  have:iQ ms fs bound (id,fn,pc,rg,st,ch,ph,su,fa,he,())=b:=by
   rw[Gy,hb,base,jQ]
  rw[this]
 refine ah.2 ⟨λh9=>⟨rfl,fB _ ?_⟩,λh9=>⟨⟨hfn.1,hfn.2,hpc.1⟩,λ_=>BG,rfl,fB _ ?_⟩⟩
 .simp at h9;simp[h9]
 .simp at h9;cases ha:lZ fs fn pc with
  | none=>rw[show atR fs fn pc=((0,0,0,0,0,0,0,0,()),false) by unfold atR;rw[ha]];simp[h9]
  | some i=>rw[show atR fs fn pc=(i,true) by unfold atR;rw[ha]];simp[h9,and_assoc]
theorem abb:aU aS.gd 167 aa9:=
 dY (cx:=aS) (n:=144) (cl:=[(76,NZ),(77,FZ),(192,ctV),(95,QH),(165,IJ)]) (rc:=[]) au ⟨KH,DF,NW,zN,zA,trivial⟩ Tryz.func167 λd hd=>by
  obtain⟨⟨vs,ms,cs,fs,ts,⟨⟩⟩,bound,⟨id,fn,pc,rg,st,ch,ph,su,fa,he,⟨⟩⟩,⟨⟩⟩:=d;exact aP (alf vs ms cs fs ts bound id fn pc rg st ch ph su fa he) (agc vs ms cs fs ts bound id fn pc rg st ch ph su fa he hd) (by kernel_rfl)
abbrev KJ:CT:={ ps:=[oW,.int .i64,dS],pre:=λd=>(aC d.1.1 d.1.2.1 d.1.2.2.1 d.1.2.2.2.1 d.1.2.2.2.2.1).1=0/\d.2.2.1.2.2.2.2.2.2.2.2.2.1.length<=1000000/\d.2.2.1.1<=9223372036854775807/\d.2.2.1.2.2.2.1.length=8,res:=λd=>([],vB (ny d.1.2.1 d.1.2.2.2.1 d.2.1 d.2.2.1)) }
theorem agd(vs:List VD) (ms cs:List ByteArray) (fs:List FD) (ts:List SD) (bound id fn pc:Int) (rg:List Int) (st ch ph su fa:Int) (he:List Int) (aG:KJ.pre ((vs,ms,cs,fs,ts,()),bound,(id,fn,pc,rg,st,ch,ph,su,fa,he,()),())):
 let z5:=(id,fn,pc,rg,st,ch,ph,su,fa,he,());let z4:=ny ms fs bound z5;let z3:=qB z4 false;let z2:=((!(!decide (fa=0) || !(atR fs fn pc).snd))=true->True)/\((!(!decide (fa=0) || !(atR fs fn pc).snd || !je (atR fs fn pc).fst.fst))=true->he.length<=1000000/\id<=9223372036854775807)/\br (!decide (fa=0) || !(atR fs fn pc).snd || !je (atR fs fn pc).fst.fst || !decide (jm id ch ph he (atR fs fn pc).fst=0)) z3 (qB z4 (decide (su=1) && decide (st < bound) || decide (su=4) && decide (1<=st)));let z6:=(atR fs fn pc).fst.fst=6;let z1:=br (decide (su=2)) (qB z4 (decide (fa=0) && decide (ph=0) && (!(atR fs fn pc).snd || decide ((atR fs fn pc).fst.fst=7)))) (br (decide (su=3)) (br (!decide (ph=0) || !(atR fs fn pc).snd) z3 (br (decide (fa=26)) ((decide z6=true->0<=(atR fs fn pc).fst.snd.snd.fst/\(atR fs fn pc).fst.snd.snd.fst < 8)/\(decide z6=true->(atR fs fn pc).fst.snd.snd.fst.toNat < 8)/\∀(d:Int),(decide z6=true->rg[(atR fs fn pc).fst.snd.snd.fst.toNat]?=some d)->qB z4 (decide z6 && decide (d=0))) (br (decide (fa=29)) (True/\qB z4 (!je (atR fs fn pc).fst.fst)) (((!decide (fa=0))=true->he.length<=1000000/\id<=9223372036854775807)/\qB z4 (!decide (fa=0) && decide (jm id ch ph he (atR fs fn pc).fst=fa)))))) z3);(True/\he.length<=1000000/\id<=9223372036854775807/\rg.length=8)/\br (!iQ ms fs bound z5) z3 ((0<=fn/\fn < (fs.length:Int)/\0<=pc)/\br (decide (su=1)) (br (decide (su=1)) z2 z1) (br (decide (su=4)) z2 z1)):=by
 conv=>zeta
 delta qB;obtain⟨hc,BG,hid,hrg⟩:(aC vs ms cs fs ts).1=0/\he.length<=1000000/\id<=9223372036854775807/\rg.length=8:=aG;refine⟨⟨trivial,BG,hid,hrg⟩,ah.2 ⟨λh=>⟨rfl,?_⟩,λh=>?_⟩⟩
 .have:ny ms fs bound (id,fn,pc,rg,st,ch,ph,su,fa,he,())=false:=F8 λq=>by
   have e:=jQ.2 q.1;rw[e]at h;cases h
  rw[this]
 have hF:dB ms fs bound (id,fn,pc,rg,st,ch,ph,su,fa,he,()):=by
  have e:iQ ms fs bound (id,fn,pc,rg,st,ch,ph,su,fa,he,())=true:=by simpa using h
  exact jQ.1 e
 have hfn:=hF.2.1;refine⟨⟨hfn.1,hfn.2,hF.2.2.1.1⟩,?_⟩;have W:∀b:Bool,(b=true↔(((su=1/\st < bound\/su=4/\1<=st)/\fa=0/\∃i,lZ fs fn pc=some i/\je i.1=true/\jm id ch ph he i=0) \/
  (su=2/\fa=0/\ph=0/\∀i,lZ fs fn pc=some i->i.1=7) \/
  (su=3/\ph=0/\∃i,lZ fs fn pc=some i/\(fa=26/\i.1=6/\rg.getD i.2.2.1.toNat 0=0\/fa=29/\je i.1=false\/fa≠26/\fa≠29/\fa≠0/\jm id ch ph he i=fa)))) ->
   bg.one (SV.c (SC.v (Value.bool (ny ms fs bound (id,fn,pc,rg,st,ch,ph,su,fa,he,())))))=bg.one (SV.c (SC.v (Value.bool b))):=λb hb=>by
  have:ny ms fs bound (id,fn,pc,rg,st,ch,ph,su,fa,he,())=b:=by
   rw[Gy,hb,kP];exact⟨λq=>q.2,λq=>⟨hF,q⟩⟩
  rw[this]
 cases ha:lZ fs fn pc with
 | none=>
   rw[show atR fs fn pc=((0,0,0,0,0,0,0,0,()),false) by unfold atR;rw[ha]]
   simp only[ah,ha]at W ⊢
   repeat' (first | exact BG | exact hid | (refine And.intro ?_ ?_) | (intro _))
   all_goals first | rfl | trivial | exact BG | exact hid | (refine W _ ?_;simp_all;done) | (simp_all;done)
 | some i=>
   rw[show atR fs fn pc=(i,true) by unfold atR;rw[ha]]
   obtain⟨r1,r2,r3,r4⟩:=kX (ql (Ci hc hfn ha)).1;have rb8:i.2.2.1.toNat < 8:=by omega
   have gd:∀{x d:Int},rg[x.toNat]?=some d->rg.getD x.toNat 0=d:=λhd=>by rw[Jf,hd];rfl
   simp only[ah,ha]at W ⊢
   repeat' (first | exact BG | exact hid | exact r2.1 | exact r2.2 | exact rb8 | (refine And.intro ?_ ?_) | (intro _))
   all_goals first | rfl | trivial | exact BG | exact hid | exact r2.1 | exact r2.2 | exact rb8 | (refine W _ ?_;simp_all;done) | (refine W _ ?_;clear W;simp_all;grind) | skip
theorem N9:aU aS.gd 108 KJ:=
 dY (cx:=aS) (n:=123) (cl:=[(167,aa9),(95,QH),(149,aa1),(150,TJ)]) (rc:=[]) au ⟨abb,zN,NV,N8,trivial⟩ Tryz.func108 λd hd=>by
  obtain⟨⟨vs,ms,cs,fs,ts,⟨⟩⟩,bound,⟨id,fn,pc,rg,st,ch,ph,su,fa,he,⟨⟩⟩,⟨⟩⟩:=d;exact aP (λ_=>none) (agd vs ms cs fs ts bound id fn pc rg st ch ph su fa he hd) (by kernel_rfl)
theorem abd(h:(FP vs ms cs fs).1=0):dJ fs < 0:=by
 unfold FP at h;split at h
 .rename_i d hd;have hp:=Lu hd;split at h
  .cases h
  .rename_i h1;simp only[xk,dN]at hp;rcases hp with hp | hp
   .exact absurd hp h1
   .exact absurd h hp
 .split at h
  .cases h
  .omega
theorem abe(h:dJ fs < 0):∀f∈fs,f.2.1.length<=64:=by
 unfold dJ at h;split at h
 .omega
 .rename_i hn;rw[A75]at hn;intro f hf;simpa using hn f hf
theorem F9(h:(aC vs ms cs fs ts).1=0){fn:Int} (hf:0<=fn/\fn < fs.length):(codeF fs fn).length<=64:=by
 obtain⟨x,hx,ex⟩:=oD hf;rw[ex];exact abe (abd (lQ h).2.1) x (gZ hx)
theorem abf{fn:Int} (h:lZ fs fn pc=none) (k:Nat):eU fs bound k (id,fn,pc,rg,st,ch,ph,su,fa,he,u)=(id,fn,pc,rg,st,ch,ph,2,0,he,()):=by
 cases k<;>(rw[eU];unfold topS;simp only[h])
theorem TK{fn:Int} (h:lZ fs fn pc=some i) (hv:je i.1=true) (k:Nat):eU fs bound k (id,fn,pc,rg,st,ch,ph,su,fa,he,u) =
 if jm id ch ph he i≠0 then(id,fn,pc,rg,st,ch,ph,3,jm id ch ph he i,he,()) else if st=bound then(id,fn,pc,rg,st,ch,ph,4,0,he,()) else(id,fn,pc,rg,st,ch,ph,su,fa,he,()):=by
 cases k<;>(rw[eU];unfold topS;simp only[h];rw[if_pos hv])
theorem abg{fn:Int} (h:lZ fs fn pc=some i) (hv:je i.1=false):eU fs bound 0 (id,fn,pc,rg,st,ch,ph,su,fa,he,u)=(id,fn,pc,rg,st,ch,ph,3,29,he,()):=by
 rw[eU];unfold topS;simp only[h];rw[if_neg (by rw[hv];simp)];rfl
theorem abh{fn:Int} (h:lZ fs fn pc=some i) (hv:je i.1=false) (k:Nat):eU fs bound (k+1) (id,fn,pc,rg,st,ch,ph,su,fa,he,u) =
 if(fQ (id,fn,pc,rg,st,ch,ph,su,fa,he,u) i).2=true then eU fs bound k (fQ (id,fn,pc,rg,st,ch,ph,su,fa,he,u) i).1 else(fQ (id,fn,pc,rg,st,ch,ph,su,fa,he,u) i).1:=by
 rw[eU];unfold topS;simp only[h];rw[if_neg (by rw[hv];simp)]
theorem KL(t:TD) (i:ID):(fQ t i).1.2.2.2.1.length=t.2.2.2.1.length:=by
 obtain⟨id,fn,pc,rg,st,ch,ph,su,fa,hd,u⟩:=t;obtain⟨op,a,b,c,obj,n,f,ord,u2⟩:=i;unfold fQ;simp only
 repeat' split
 all_goals simp
abbrev TL:CT:={ ps:=[oW,.int .i64,dS],pre:=λd=>(aC d.1.1 d.1.2.1 d.1.2.2.1 d.1.2.2.2.1 d.1.2.2.2.2.1).1=0/\dB d.1.2.1 d.1.2.2.2.1 d.2.1 d.2.2.1/\d.2.2.1.2.2.2.2.2.2.2.2.2.1.length<=1000000/\d.2.2.1.1<=9223372036854775807/\d.2.2.1.2.2.2.1.length=8,res:=λd=>([],.one (.dat dS (eU d.1.2.2.2.1 d.2.1 256 d.2.2.1))) }
abbrev aoq(vs:List VD) (ms cs:List ByteArray) (fs:List FD) (ts:List SD) (bound id fn pc:Int) (rg:List Int) (st ch ph su fa:Int) (he:List Int):Nat->Option (St->jK):=λk=>match k with
 | 4=>some λ_=>.inv { α:=Nat×TD,slots:=λx=>[(7,.c (.v (.int .i64 x.1)))],res:=λx=>[(1,.obj 56 dS x.2)],inv:=λx=>x.1<=256/\dB ms fs bound x.2/\x.2.2.2.2.2.2.2.2.2.2.1=he/\x.2.1=id/\x.2.2.2.2.1.length=8/\eU fs bound (256 - x.1) x.2=eU fs bound 256 (id,fn,pc,rg,st,ch,ph,su,fa,he,()),meas:=λx=>257 - x.1 }
 | _=>none
theorem alg(vs:List VD) (ms cs:List ByteArray) (fs:List FD) (ts:List SD) (bound id fn pc:Int) (rg:List Int) (st ch ph su fa:Int) (he:List Int) (aG:TL.pre ((vs,ms,cs,fs,ts,()),bound,(id,fn,pc,rg,st,ch,ph,su,fa,he,()),())):
 let z7:=(id,fn,pc,rg,st,ch,ph,su,fa,he,());let z2:=λ(x:Nat×TD)=>x.fst<=256/\dB ms fs bound x.snd/\x.snd.snd.snd.snd.snd.snd.snd.snd.snd.snd.fst=he/\x.snd.fst=id/\x.snd.snd.snd.snd.fst.length=8/\eU fs bound (256 - x.fst) x.snd=eU fs bound 256 z7;let z3:=[SC.sl Hg vs,SC.sl Sh.str ms,SC.sl Sh.str cs,SC.sl Dw fs,SC.sl mO ts];let z1:=λ(x:Nat×TD)=>[g0 (ak.blk 27 z3),g0 (ak.obj 56 dS x.snd),g0 (ak.obj 56 dS ((0:Int),(0:Int),(0:Int),List.replicate 8 (0:Int),(0:Int),(0:Int),(0:Int),(0:Int),(0:Int),[],())),g0 ak.gone];let z8:=λ(x:Nat×TD)=>atR fs x.snd.snd.fst x.snd.snd.snd.fst;let z5:=eU fs bound 256 z7;let z9:=bg.one (SV.dat dS z5);let z6:=λ(x:Nat×TD)=>fQ x.snd (z8 x).fst;let z4:=λ(x:Nat×TD)=>(z6 x).fst;he.length<=1000000/\(∃(x:Nat×TD),(z2 x)/\(cI 0=cI (x.fst:Int)/\True)/\[g0 (ak.blk 27 z3),g0 (ak.obj 56 dS z7),g0 (ak.obj 56 dS ((0:Int),(0:Int),(0:Int),List.replicate 8 (0:Int),(0:Int),(0:Int),(0:Int),(0:Int),(0:Int),[],())),g0 ak.gone]=(z1 x))/\∀(x:Nat×TD),x.fst<=256/\dB ms fs bound x.snd/\x.snd.snd.snd.snd.snd.snd.snd.snd.snd.snd.fst=he/\x.snd.fst=id/\x.snd.snd.snd.snd.fst.length=8/\eU fs bound (256 - x.fst) x.snd=eU fs bound 256 z7->(0<=x.snd.snd.fst/\x.snd.snd.fst < (fs.length:Int)/\0<=x.snd.snd.snd.fst)/\br (!(z8 x).snd) (True/\rE z9 (bg.one (SV.dat dS (KE x.snd (2:Int) (0:Int))))) (True/\br (je (z8 x).fst.fst) ((List.length x.snd.snd.snd.snd.snd.snd.snd.snd.snd.snd.fst<=1000000/\x.snd.fst<=9223372036854775807)/\br (!decide (jm x.snd.fst x.snd.snd.snd.snd.snd.snd.fst x.snd.snd.snd.snd.snd.snd.snd.fst x.snd.snd.snd.snd.snd.snd.snd.snd.snd.snd.fst (z8 x).fst=0)) (True/\rE z9 (bg.one (SV.dat dS (KE x.snd (3:Int) (jm x.snd.fst x.snd.snd.snd.snd.snd.snd.fst x.snd.snd.snd.snd.snd.snd.snd.fst x.snd.snd.snd.snd.snd.snd.snd.snd.snd.snd.fst (z8 x).fst))))) (br (decide (x.snd.snd.snd.snd.snd.fst=bound)) (True/\rE z9 (bg.one (SV.dat dS (KE x.snd (4:Int) (0:Int))))) (rE z9 (bg.one (SV.dat dS (x.snd)))))) (br (decide ((x.fst:Int)=(256:Int))) (True/\rE z9 (bg.one (SV.dat dS (KE x.snd (3:Int) (29:Int))))) (((0<=(z8 x).fst.snd.fst/\(z8 x).fst.snd.fst < 8)/\(0<=(z8 x).fst.snd.snd.fst/\(z8 x).fst.snd.snd.fst < 8)/\(0<=(z8 x).fst.snd.snd.snd.fst/\(z8 x).fst.snd.snd.snd.fst < 8)/\0<=x.snd.snd.snd.fst/\x.snd.snd.snd.fst<=1000000)/\br (!(z6 x).snd) (rE z9 (bg.one (SV.dat dS (z4 x)))) (iR ((x.fst:Int)+(1:Int))/\∃(x':Nat×TD),(z2 x')/\(cI ((x.fst:Int)+(1:Int))=cI (x'.fst:Int)/\True)/\[g0 (ak.blk 27 z3),g0 (ak.obj 56 dS (z4 x)),g0 (ak.obj 56 dS ((0:Int),(0:Int),(0:Int),List.replicate 8 (0:Int),(0:Int),(0:Int),(0:Int),(0:Int),(0:Int),[],())),g0 ak.gone]=(z1 x')/\257 - x'.fst < 257 - x.fst)))):=by
 conv=>zeta
 delta cI g0 rE I6 iR;obtain⟨hc,hF,BG,hid,hrg⟩:(aC vs ms cs fs ts).1=0/\dB ms fs bound (id,fn,pc,rg,st,ch,ph,su,fa,he,())/\he.length<=1000000/\id<=9223372036854775807/\rg.length=8:=aG;refine⟨BG,⟨(0,(id,fn,pc,rg,st,ch,ph,su,fa,he,())),⟨by omega,hF,rfl,rfl,hrg,rfl⟩,⟨rfl,trivial⟩,rfl⟩,λx hx=>?_⟩
 obtain⟨k,id',fn',pc',WU,st',ch',ph',su',fa',he',⟨⟩⟩:=x;obtain⟨x1,x2,x3,x4,x5,x6⟩:=hx;have x1:k<=256:=x1;have x3:he'=he:=x3;have x4:id'=id:=x4;have x5:WU.length=8:=x5;have x6:eU fs bound (256 - k) (id',fn',pc',WU,st',ch',ph',su',fa',he',())=eU fs bound 256 (id,fn,pc,rg,st,ch,ph,su,fa,he,()):=x6;have x2:dB ms fs bound (id',fn',pc',WU,st',ch',ph',su',fa',he',()):=x2;subst x3;subst x4;rw[<-x6];have hfn:=x2.2.1;have hpc:=x2.2.2.1;refine⟨⟨hfn.1,hfn.2,hpc.1⟩,?_⟩;show br (!(atR fs fn' pc').2) _ _;cases ha:lZ fs fn' pc' with
 | none=>
   rw[show atR fs fn' pc'=((0,0,0,0,0,0,0,0,()),false) by unfold atR;rw[ha]]
   refine ah.2 ⟨λ_=>⟨trivial,rfl,?_⟩,λq=>by simp at q⟩
   rw[abf ha];rfl
 | some i=>
   rw[show atR fs fn' pc'=(i,true) by unfold atR;rw[ha]]
   obtain⟨r1,r2,r3,r4⟩:=kX (ql (Ci hc hfn ha)).1;have h64:=F9 hc hfn;refine ah.2 ⟨λq=>by simp at q,λ_=>⟨trivial,ah.2 ⟨λhv=>?_,λhv=>?_⟩⟩⟩
   .have hv:je i.1=true:=hv;rw[TK ha hv];refine⟨⟨BG,hid⟩,ah.2 ⟨λh1=>?_,λh1=>ah.2 ⟨λh2=>?_,λh2=>?_⟩⟩⟩
    .have h1:jm id' ch' ph' he' i≠0:=by simpa using h1
     rw[if_pos h1];exact⟨trivial,rfl,rfl⟩
    .have h1:¬jm id' ch' ph' he' i≠0:=by simpa using h1
     have h2:st'=bound:=by simpa using h2
     rw[if_neg h1,if_pos h2];exact⟨trivial,rfl,rfl⟩
    .have h1:¬jm id' ch' ph' he' i≠0:=by simpa using h1
     have h2:¬st'=bound:=by simpa using h2
     rw[if_neg h1,if_neg h2];exact⟨rfl,rfl⟩
   .have hv:je i.1=false:=hv;refine ah.2 ⟨λh1=>?_,λh1=>?_⟩
    .have h1:k=256:=by
      have:(k:Int)=256:=by simpa using h1
      omega
     rw[h1,show 256 - 256=0 from rfl,abg ha hv]
     exact⟨trivial,rfl,rfl⟩
    .have h1:¬k=256:=by
      have:¬(k:Int)=256:=by simpa using h1
      omega
     obtain⟨m,hm⟩:∃m,256 - k=m+1:=⟨255 - k,by omega⟩
     rw[hm,abh ha hv];have hk:=zJ (id',fn',pc',WU,st',ch',ph',su',fa',he',()) i;have hlen:=KL (id',fn',pc',WU,st',ch',ph',su',fa',he',()) i;have hfo:=FV hc x2 ha hv;refine⟨⟨r1,r2,r3,hpc.1,show pc'<=1000000 by omega⟩,ah.2 ⟨λh2=>?_,λh2=>⟨ay.2 (show(-9223372036854775808:Int)<=(k:Int)+1/\(k:Int)+1<=9223372036854775807 by omega),(k+1,(fQ (id',fn',pc',WU,st',ch',ph',su',fa',he',()) i).1),⟨show k+1<=256 by omega,hfo,hk.2.2.2.2.2.1,hk.1,hlen.trans x5,?_⟩,⟨rfl,trivial⟩,rfl,show 257 - (k+1) < 257 - k by omega⟩⟩⟩
     .have h2:¬(fQ (id',fn',pc',WU,st',ch',ph',su',fa',he',()) i).2=true:=by simpa using h2
      rw[if_neg h2];exact⟨rfl,rfl⟩
     .have h2:(fQ (id',fn',pc',WU,st',ch',ph',su',fa',he',()) i).2=true:=by simpa using h2
      show eU fs bound (256 - (k+1)) _=_;rw[if_pos h2,show 256 - (k+1)=m by omega]
theorem TM:aU aS.gd 78 TL:=
 dY (cx:=aS) (n:=59) (cl:=[(58,vW),(95,QH),(148,aa6),(149,aa1),(150,TJ),(151,aa7)]) (rc:=[.data dS]) au ⟨Dv,zN,N7,NV,N8,aa8,trivial⟩ Tryz.func78 λd hd=>by
  obtain⟨⟨vs,ms,cs,fs,ts,⟨⟩⟩,bound,⟨id,fn,pc,rg,st,ch,ph,su,fa,he,⟨⟩⟩,⟨⟩⟩:=d;exact aP (aoq vs ms cs fs ts bound id fn pc rg st ch ph su fa he) (alg vs ms cs fs ts bound id fn pc rg st ch ph su fa he hd) (by kernel_rfl)
theorem val_wrap(n:Int):bU n=decide (bD n=n):=by
 unfold bU;rw[Gy,WZ,WZ,FT]
theorem aif(h:Ar vs ms cs fs=0):ms.length<=4:=by
 unfold Ar at h;split at h
 .cases h
 .omega
theorem sO(h:dB ms fs bound t) (hm:ms.length<=4):t.2.2.2.2.2.2.2.2.2.1.length<=4:=by
 obtain⟨id,fn,pc,rg,st,ch,ph,su,fa,he,u⟩:=t;exact pI (aaL h.2.2.2.2.2.2.1 h.2.2.2.2.2.2.2.1) hm
theorem IZ(h:dB ms fs bound t):t.1<=9223372036854775807:=by
 obtain⟨id,fn,pc,rg,st,ch,ph,su,fa,he,u⟩:=t;have:=jX h.1;show id<=9223372036854775807;omega
theorem TN(t:TD) (i:ID) (r:Int):(gu t i r).2.2.2.1.length=t.2.2.2.1.length:=by
 obtain⟨id,fn,pc,rg,st,ch,ph,su,fa,hd,u⟩:=t;have e:(if(ni i).2=true then rg.set (ni i).1.toNat r else rg).length=rg.length:=by split<;>simp
 unfold gu;simp only;split
 .split
  .exact e
  split
  .exact e
  .exact e
 .exact e
theorem abj(h:uo i=0) (hd:(ni i).2=true):0<=(ni i).1/\(ni i).1 < 8:=by
 obtain⟨r1,_⟩:=kX h;unfold ni at hd ⊢;split at hd
 .cases hd
 .rename_i q;rw[if_neg q];exact r1
abbrev TP:CT:={ ps:=[oW,.int .i64,.int .i64,.int .i64,.int .i64],pre:=λd=>bnd (d.1,())/\d.2.2.1<=9223372036854775807,res:=λd=>([],.iJ [.dat dS (newS (aC d.1.1 d.1.2.1 d.1.2.2.1 d.1.2.2.2.1 d.1.2.2.2.2.1).1 d.1.2.2.2.1 d.2.1 d.2.2.1 d.2.2.2.1 d.2.2.2.2.1).1,.c (.v (.int .i64 (newS (aC d.1.1 d.1.2.1 d.1.2.2.1 d.1.2.2.2.1 d.1.2.2.2.2.1).1 d.1.2.2.2.1 d.2.1 d.2.2.1 d.2.2.2.1 d.2.2.2.2.1).2))]) }
abbrev kq1:=[SV.dat dS (((0:Int),(0:Int),(0:Int),[(0:Int),(0:Int),(0:Int),(0:Int),(0:Int),(0:Int),(0:Int),(0:Int)],(0:Int),(0:Int),(0:Int),(0:Int),(0:Int),[],())),cI 2]
abbrev WV:=[(0:Int),(0:Int),(0:Int),(0:Int),(0:Int),(0:Int),(0:Int),(0:Int)]
theorem alh(vs:List VD) (ms cs:List ByteArray) (fs:List FD) (ts:List SD) (bound id fn arg:Int) (aG:TP.pre ((vs,ms,cs,fs,ts,()),bound,id,fn,arg,())):
 let z4:=aC vs ms cs fs ts;let z3:=newS z4.fst fs bound id fn arg;let z2:=[SV.dat dS z3.fst,cI (z3.snd)];let z1:=rT z2 kq1;(vs.length<=1000000/\ms.length<=1000000/\cs.length<=1000000/\fs.length<=1000000/\ts.length<=1000000/\(∀(x:ByteArray×(lY.sl.pair Sh.unit).den),x∈fs->List.length x.snd.fst<=1000000)/\(dM fs).length<=1000000)/\br (!decide (bQ z4.fst bound=0)) (rT z2 [SV.dat dS (((0:Int),(0:Int),(0:Int),WV,(0:Int),(0:Int),(0:Int),(0:Int),(0:Int),[],())),cI (bQ z4.fst bound)]) (id<=9223372036854775807/\br (decide (aQ id < 0)) z1 (br (decide (fn < 0) || decide ((fs.length:Int)<=fn)) (rT z2 [SV.dat dS (((0:Int),(0:Int),(0:Int),WV,(0:Int),(0:Int),(0:Int),(0:Int),(0:Int),[],())),cI 11]) (True/\br (!decide (bD arg=arg)) z1 (((0:Int)<=(0:Int)/\(0:Int) < (8:Int))/\0 < 8/\(z4.fst=0/\dB ms fs bound (id,fn,(0:Int),WV.set 0 arg,(0:Int),(0:Int),(0:Int),(1:Int),(0:Int),[],())/\0<=1000000/\id<=9223372036854775807/\(WV.set 0 arg).length=8)/\rT z2 [SV.dat dS (eU fs bound 256 (id,fn,(0:Int),WV.set 0 arg,(0:Int),(0:Int),(0:Int),(1:Int),(0:Int),[],())),cI 0])))):=by
 conv=>zeta
 delta kq1 WV cI rT I6;obtain⟨hb,hid⟩:bnd ((vs,ms,cs,fs,ts,()),())/\id<=9223372036854775807:=aG;refine⟨hb,ah.2 ⟨λh=>?_,λh=>⟨hid,ah.2 ⟨λh2=>?_,λh2=>ah.2 ⟨λh3=>?_,λh3=>⟨trivial,ah.2 ⟨λh4=>?_,λh4=>?_⟩⟩⟩⟩⟩⟩⟩
 .have h:bQ (aC vs ms cs fs ts).1 bound≠0:=by simpa using h
  have e:newS (aC vs ms cs fs ts).1 fs bound id fn arg=(zT,bQ (aC vs ms cs fs ts).1 bound):=by unfold newS;rw[if_pos h]
  rw[e];exact⟨rfl,rfl⟩
 all_goals have h:¬bQ (aC vs ms cs fs ts).1 bound≠0:=by simpa using h
 .have h2:aQ id < 0:=by simpa using h2
  have e:newS (aC vs ms cs fs ts).1 fs bound id fn arg=(zT,2):=by unfold newS;rw[if_neg h,if_pos h2]
  rw[e];exact⟨rfl,rfl⟩
 all_goals have h2:¬aQ id < 0:=by simpa using h2
 .have h3:fn < 0\/(fs.length:Int)<=fn:=by simpa using h3
  have e:newS (aC vs ms cs fs ts).1 fs bound id fn arg=(zT,11):=by unfold newS;rw[if_neg h,if_neg h2,if_pos h3]
  rw[e];exact⟨rfl,rfl⟩
 all_goals have h3:¬(fn < 0\/(fs.length:Int)<=fn):=by simp only[l7,eH]at h3;omega
 .have h4:bU arg=false:=by rw[val_wrap];simpa using h4
  have e:newS (aC vs ms cs fs ts).1 fs bound id fn arg=(zT,2):=by unfold newS;rw[if_neg h,if_neg h2,if_neg h3,if_pos h4]
  rw[e];exact⟨rfl,rfl⟩
 .have h4:¬bU arg=false:=by rw[val_wrap];simpa using h4
  have e:newS (aC vs ms cs fs ts).1 fs bound id fn arg=(eU fs bound 256 (id,fn,0,[arg,0,0,0,0,0,0,0],0,0,0,1,0,[],()),0):=by unfold newS;rw[if_neg h,if_neg h2,if_neg h3,if_neg h4]
  have hs:=fG.1 (Gw.1 h);rw[e];exact⟨⟨by omega,by omega⟩,by omega,⟨hs.1,FY ms hs.2.1 h2 h3 h4,by omega,hid,rfl⟩,rfl,rfl⟩
theorem TQ:aU aS.gd 34 TP:=
 dY (cx:=aS) (n:=50) (cl:=[(75,tN),(76,NZ),(77,FZ),(78,TL)]) (rc:=[.data dS,.keep]) au ⟨KI,KH,DF,TM,trivial⟩ Tryz.func34 λd hd=>by
  obtain⟨⟨vs,ms,cs,fs,ts,⟨⟩⟩,bound,id,fn,arg,⟨⟩⟩:=d;exact aP (λ_=>none) (alh vs ms cs fs ts bound id fn arg hd) (by kernel_rfl)
abbrev agf:CT:={ ps:=[oW,.int .i64,dS],pre:=λd=>bnd (d.1,())/\d.2.2.1.2.2.2.2.2.2.2.2.2.1.length<=1000000/\d.2.2.1.1<=9223372036854775807/\d.2.2.1.2.2.2.1.length=8,res:=λd=>([],vB (decide (bQ (aC d.1.1 d.1.2.1 d.1.2.2.1 d.1.2.2.2.1 d.1.2.2.2.2.1).1 d.2.1=0) && ny d.1.2.1 d.1.2.2.2.1 d.2.1 d.2.2.1)) }
theorem ali(vs:List VD) (ms cs:List ByteArray) (fs:List FD) (ts:List SD) (bound id fn pc:Int) (rg:List Int) (st ch ph su fa:Int) (he:List Int) (aG:agf.pre ((vs,ms,cs,fs,ts,()),bound,(id,fn,pc,rg,st,ch,ph,su,fa,he,()),())):
 let z2:=bQ (aC vs ms cs fs ts).fst bound=0;let z1:=decide z2 && ny ms fs bound (id,fn,pc,rg,st,ch,ph,su,fa,he,());(vs.length<=1000000/\ms.length<=1000000/\cs.length<=1000000/\fs.length<=1000000/\ts.length<=1000000/\(∀(x:ByteArray×(lY.sl.pair Sh.unit).den),x∈fs->List.length x.snd.fst<=1000000)/\(dM fs).length<=1000000)/\(decide z2=true->(aC vs ms cs fs ts).fst=0/\he.length<=1000000/\id<=9223372036854775807/\rg.length=8)/\qB z1 z1:=by
 conv=>zeta
 delta qB I6;obtain⟨hb,BG,hid,hrg⟩:bnd ((vs,ms,cs,fs,ts,()),())/\he.length<=1000000/\id<=9223372036854775807/\rg.length=8:=aG;exact⟨hb,λh=>⟨(fG.1 (OL h)).1,BG,hid,hrg⟩,rfl,rfl⟩
theorem TR:aU aS.gd 85 agf:=
 dY (cx:=aS) (n:=17) (cl:=[(75,tN),(108,KJ)]) (rc:=[]) au ⟨KI,N9,trivial⟩ Tryz.func85 λd hd=>by
  obtain⟨⟨vs,ms,cs,fs,ts,⟨⟩⟩,bound,⟨id,fn,pc,rg,st,ch,ph,su,fa,he,⟨⟩⟩,⟨⟩⟩:=d;exact aP (λ_=>none) (ali vs ms cs fs ts bound id fn pc rg st ch ph su fa he hd) (by kernel_rfl)
abbrev TS:CT:={ ps:=[oW,dS],pre:=λd=>bnd (d.1,())/\d.2.1.2.2.2.2.2.2.2.2.2.1.length<=1000000/\d.2.1.1<=9223372036854775807/\d.2.1.2.2.2.1.length=8,res:=λd=>([],.iJ [.agg [.v (.int .i64 ((fO (aC d.1.1 d.1.2.1 d.1.2.2.1 d.1.2.2.2.1 d.1.2.2.2.2.1).1 d.1.2.1 d.1.2.2.2.1 d.2.1).1).1),.v (.int .i64 ((fO (aC d.1.1 d.1.2.1 d.1.2.2.1 d.1.2.2.2.1 d.1.2.2.2.2.1).1 d.1.2.1 d.1.2.2.2.1 d.2.1).1).2.1),.v (.int .i64 ((fO (aC d.1.1 d.1.2.1 d.1.2.2.1 d.1.2.2.2.1 d.1.2.2.2.2.1).1 d.1.2.1 d.1.2.2.2.1 d.2.1).1).2.2.1),.v (.int .i64 ((fO (aC d.1.1 d.1.2.1 d.1.2.2.1 d.1.2.2.2.1 d.1.2.2.2.2.1).1 d.1.2.1 d.1.2.2.2.1 d.2.1).1).2.2.2.1),.v (.int .i64 ((fO (aC d.1.1 d.1.2.1 d.1.2.2.1 d.1.2.2.2.1 d.1.2.2.2.2.1).1 d.1.2.1 d.1.2.2.2.1 d.2.1).1).2.2.2.2.1),.v (.int .i64 ((fO (aC d.1.1 d.1.2.1 d.1.2.2.1 d.1.2.2.2.1 d.1.2.2.2.2.1).1 d.1.2.1 d.1.2.2.2.1 d.2.1).1).2.2.2.2.2.1),.v (.int .i64 ((fO (aC d.1.1 d.1.2.1 d.1.2.2.1 d.1.2.2.2.1 d.1.2.2.2.2.1).1 d.1.2.1 d.1.2.2.2.1 d.2.1).1).2.2.2.2.2.2.1),.v (.int .i64 ((fO (aC d.1.1 d.1.2.1 d.1.2.2.1 d.1.2.2.2.1 d.1.2.2.2.2.1).1 d.1.2.1 d.1.2.2.2.1 d.2.1).1).2.2.2.2.2.2.2.1)],.c (.v (.bool (fO (aC d.1.1 d.1.2.1 d.1.2.2.1 d.1.2.2.2.1 d.1.2.2.2.2.1).1 d.1.2.1 d.1.2.2.2.1 d.2.1).2))]) }
theorem alj(vs:List VD) (ms cs:List ByteArray) (fs:List FD) (ts:List SD) (id fn pc:Int) (rg:List Int) (st ch ph su fa:Int) (he:List Int) (aG:TS.pre ((vs,ms,cs,fs,ts,()),(id,fn,pc,rg,st,ch,ph,su,fa,he,()),())):
 let z3:=(id,fn,pc,rg,st,ch,ph,su,fa,he,());let z2:=fO (aC vs ms cs fs ts).fst ms fs z3;let z1:=[SV.agg [v6 (z2.fst.fst),v6 (z2.fst.snd.fst),v6 (z2.fst.snd.snd.fst),v6 (z2.fst.snd.snd.snd.fst),v6 (z2.fst.snd.snd.snd.snd.fst),v6 (z2.fst.snd.snd.snd.snd.snd.fst),v6 (z2.fst.snd.snd.snd.snd.snd.snd.fst),v6 (z2.fst.snd.snd.snd.snd.snd.snd.snd.fst)],cB (z2.snd)];((!!decide (su=1))=true->(vs.length<=1000000/\ms.length<=1000000/\cs.length<=1000000/\fs.length<=1000000/\ts.length<=1000000/\(∀(x:ByteArray×(lY.sl.pair Sh.unit).den),x∈fs->List.length x.snd.fst<=1000000)/\(dM fs).length<=1000000)/\he.length<=1000000/\id<=9223372036854775807/\rg.length=8)/\br (!decide (su=1) || !(decide (bQ (aC vs ms cs fs ts).fst (32:Int)=(0:Int)) && ny ms fs (32:Int) z3)) (rT z1 [SV.agg [v6 0,v6 0,v6 0,v6 0,v6 0,v6 0,v6 0,v6 0],cB false]) ((0<=fn/\fn < (fs.length:Int)/\0<=pc)/\rT z1 [SV.agg [v6 ((atR fs fn pc).fst.fst),v6 ((atR fs fn pc).fst.snd.fst),v6 ((atR fs fn pc).fst.snd.snd.fst),v6 ((atR fs fn pc).fst.snd.snd.snd.fst),v6 ((atR fs fn pc).fst.snd.snd.snd.snd.fst),v6 ((atR fs fn pc).fst.snd.snd.snd.snd.snd.fst),v6 ((atR fs fn pc).fst.snd.snd.snd.snd.snd.snd.fst),v6 ((atR fs fn pc).fst.snd.snd.snd.snd.snd.snd.snd.fst)],cB ((atR fs fn pc).snd)]):=by
 conv=>zeta
 delta v6 cB rT I6;obtain⟨hb,BG,hid,hrg⟩:bnd ((vs,ms,cs,fs,ts,()),())/\he.length<=1000000/\id<=9223372036854775807/\rg.length=8:=aG;have key:((aC vs ms cs fs ts).1=0/\su=1/\rO ms fs 32 (id,fn,pc,rg,st,ch,ph,su,fa,he,()))↔(!decide (su=1) || !(decide (bQ (aC vs ms cs fs ts).1 32=0) && ny ms fs 32 (id,fn,pc,rg,st,ch,ph,su,fa,he,())))=false:=by
  rw[l7,wI,wI,bY,WZ,WZ,fG,kP];constructor
  .rintro⟨q1,q2,q3⟩;exact⟨q2,⟨q1,by omega,by omega⟩,q3⟩
  .rintro⟨q2,⟨q1,_⟩,q3⟩;exact⟨q1,q2,q3⟩
 refine⟨λ_=>⟨hb,BG,hid,hrg⟩,ah.2 ⟨λh=>?_,λh=>?_⟩⟩
 .have e:fO (aC vs ms cs fs ts).1 ms fs (id,fn,pc,rg,st,ch,ph,su,fa,he,())=((0,0,0,0,0,0,0,0,()),false):=by
   unfold fO;rw[if_neg];intro q;rw[key.1 q]at h;cases h
  rw[e];exact⟨rfl,rfl⟩
 .have q:=key.2 h;have e:fO (aC vs ms cs fs ts).1 ms fs (id,fn,pc,rg,st,ch,ph,su,fa,he,())=atR fs fn pc:=by
   unfold fO;rw[if_pos q]
  have hF:=q.2.2.1;rw[e];exact⟨⟨hF.2.1.1,hF.2.1.2,hF.2.2.1.1⟩,rfl,rfl⟩
theorem TT:aU aS.gd 45 TS:=
 dY (cx:=aS) (n:=21) (cl:=[(85,agf),(95,QH)]) (rc:=[]) au ⟨TR,zN,trivial⟩ Tryz.func45 λd hd=>by
  obtain⟨⟨vs,ms,cs,fs,ts,⟨⟩⟩,⟨id,fn,pc,rg,st,ch,ph,su,fa,he,⟨⟩⟩,⟨⟩⟩:=d;exact aP (λ_=>none) (alj vs ms cs fs ts id fn pc rg st ch ph su fa he hd) (by kernel_rfl)
def tV:TD->Int->TD
 | (id,fn,pc,rg,st,ch,ph,su,fa,he,_),m=>if ph=0 then(id,fn,pc,rg,st,ch,1,su,fa,zK he m,()) else if ph=1 then(id,fn,pc,rg,st,ch,2,su,fa,he,()) else(id,fn,pc+1,rg,st,ch,0,su,fa,yc he m,())
abbrev abk:CT:={ ps:=[dS,.int .i64],pre:=λd=>d.1.2.2.2.2.2.2.2.2.2.1.length<=999999/\0<=d.1.2.2.1/\d.1.2.2.1<=1000000,res:=λd=>([],.one (.dat dS (tV d.1 d.2.1))) }
theorem agh(id fn pc:Int) (rg:List Int) (st ch ph su fa:Int) (he:List Int) (m:Int) (aG:abk.pre ((id,fn,pc,rg,st,ch,ph,su,fa,he,()),m,())):
 let z1:=bg.one (SV.dat dS (tV (id,fn,pc,rg,st,ch,ph,su,fa,he,()) m));br (decide (ph=0)) (he.length<=1000000/\rE z1 (bg.one (SV.dat dS ((id,fn,pc,rg,st,ch,(1:Int),su,fa,nM (aY he) [m] false,()))))) (br (decide (ph=1)) (rE z1 (bg.one (SV.dat dS ((id,fn,pc,rg,st,ch,(2:Int),su,fa,he,()))))) (he.length<=999999/\iR (pc+1)/\rE z1 (bg.one (SV.dat dS ((id,fn,pc+1,rg,st,ch,(0:Int),su,fa,aY (he++[m]),())))))):=by
 conv=>zeta
 delta rE I6 iR;obtain⟨BG,hp0,hp1⟩:he.length<=999999/\0<=pc/\pc<=1000000:=aG;refine ah.2 ⟨λh=>?_,λh=>ah.2 ⟨λh2=>?_,λh2=>?_⟩⟩
 .have h:ph=0:=by simpa using h
  have e:tV (id,fn,pc,rg,st,ch,ph,su,fa,he,()) m=(id,fn,pc,rg,st,ch,1,su,fa,zK he m,()):=by simp only[tV];rw[if_pos h]
  rw[e];exact⟨by omega,rfl,rfl⟩
 .have h:¬ph=0:=by simpa using h
  have h2:ph=1:=by simpa using h2
  have e:tV (id,fn,pc,rg,st,ch,ph,su,fa,he,()) m=(id,fn,pc,rg,st,ch,2,su,fa,he,()):=by simp only[tV];rw[if_neg h,if_pos h2]
  rw[e];exact⟨rfl,rfl⟩
 .have h:¬ph=0:=by simpa using h
  have h2:¬ph=1:=by simpa using h2
  have e:tV (id,fn,pc,rg,st,ch,ph,su,fa,he,()) m=(id,fn,pc+1,rg,st,ch,0,su,fa,yc he m,()):=by simp only[tV];rw[if_neg h,if_neg h2]
  rw[e];exact⟨BG,ay.2 (by omega),rfl,rfl⟩
theorem abl:aU aS.gd 110 abk:=
 dY (cx:=aS) (n:=29) (cl:=[(112,NY),(111,NM)]) (rc:=[.data dS]) au ⟨F7,FM,trivial⟩ Tryz.func110 λd hd=>by
  obtain⟨⟨id,fn,pc,rg,st,ch,ph,su,fa,he,⟨⟩⟩,m,⟨⟩⟩:=d;exact aP (λ_=>none) (agh id fn pc rg st ch ph su fa he m hd) (by kernel_rfl)
abbrev abm:CT:={ ps:=[oW,.int .i64,dS,.int .i64],pre:=λd=>bnd (d.1,())/\d.2.2.1.2.2.2.2.2.2.2.2.2.1.length<=1000000/\d.2.2.1.1<=9223372036854775807/\d.2.2.1.2.2.2.1.length=8,res:=λd=>([],.iJ [.dat dS (kE (aC d.1.1 d.1.2.1 d.1.2.2.1 d.1.2.2.2.1 d.1.2.2.2.2.1).1 d.1.2.1 d.1.2.2.2.1 d.2.1 d.2.2.1 d.2.2.2.1).1,.c (.v (.int .i64 (kE (aC d.1.1 d.1.2.1 d.1.2.2.1 d.1.2.2.2.1 d.1.2.2.2.2.1).1 d.1.2.1 d.1.2.2.2.1 d.2.1 d.2.2.1 d.2.2.2.1).2))]) }
theorem alk(vs:List VD) (ms cs:List ByteArray) (fs:List FD) (ts:List SD) (bound id fn pc:Int) (rg:List Int) (st ch ph su fa:Int) (he:List Int) (r:Int) (aG:abm.pre ((vs,ms,cs,fs,ts,()),bound,(id,fn,pc,rg,st,ch,ph,su,fa,he,()),r,())):
 let z30:=aC vs ms cs fs ts;let z21:=(id,fn,pc,rg,st,ch,ph,su,fa,he,());let yg:=kE z30.fst ms fs bound z21 r;let z5:=[SV.dat dS yg.fst,cI (yg.snd)];let z29:=ni (atR fs fn pc).fst;let z24:=decide ((atR fs fn pc).fst.fst=18);let z22:=he.length<=999999/\0<=pc/\pc<=1000000;let z8:=tV (id,fn,pc,rg.set z29.fst.toNat r,st+1,ch,ph,su,fa,he,()) (atR fs fn pc).fst.snd.snd.snd.snd.snd.fst;let z25:=decide ((atR fs fn pc).fst.fst=17);let z13:=(id,fn,pc+1,rg.set z29.fst.toNat r,st+1,ch,ph,su,fa,he,());let z20:=rg.set z29.fst.toNat r;let z3:=iR (pc+1)/\(z30.fst=0/\dB ms fs bound z13/\he.length<=1000000/\id<=9223372036854775807/\z20.length=8)/\rT z5 [SV.dat dS (eU fs bound 256 z13),cI 0];let z23:=[(atR fs fn pc).fst.snd.snd.snd.snd.fst];let OE:=he++z23;let z7:=(id,fn,pc+1,rg.set z29.fst.toNat r,st+1,ch,ph,su,fa,aY OE,());let z17:=aY OE;let z1:=he.length<=999999/\iR (pc+1)/\(z30.fst=0/\dB ms fs bound z7/\z17.length<=1000000/\id<=9223372036854775807/\z20.length=8)/\rT z5 [SV.dat dS (eU fs bound 256 z7),cI 0];let z26:=decide ((atR fs fn pc).fst.fst=15);let z27:=decide ((atR fs fn pc).fst.fst=16);let z6:=(id,fn,pc+1,rg.set z29.fst.toNat r,st+1,ch,ph,su,fa,nM (aY he) z23 false,());let nS:=nM (aY he) z23 false;let z28:=decide ((atR fs fn pc).fst.fst=21);let z12:=(id,fn,pc+1,rg.set z29.fst.toNat r,st+1,ch+1,ph,su,fa,he,());let z11:=tV (id,fn,pc,rg,st+1,ch,ph,su,fa,he,()) (atR fs fn pc).fst.snd.snd.snd.snd.snd.fst;let Gg:=(id,fn,pc+1,rg,st+1,ch,ph,su,fa,he,());let z4:=iR (pc+1)/\(z30.fst=0/\dB ms fs bound Gg/\he.length<=1000000/\id<=9223372036854775807/\rg.length=8)/\rT z5 [SV.dat dS (eU fs bound 256 Gg),cI 0];let z10:=(id,fn,pc+1,rg,st+1,ch,ph,su,fa,aY OE,());let z2:=he.length<=999999/\iR (pc+1)/\(z30.fst=0/\dB ms fs bound z10/\z17.length<=1000000/\id<=9223372036854775807/\rg.length=8)/\rT z5 [SV.dat dS (eU fs bound 256 z10),cI 0];let z9:=(id,fn,pc+1,rg,st+1,ch,ph,su,fa,nM (aY he) z23 false,());let Gh:=(id,fn,pc+1,rg,st+1,ch+1,ph,su,fa,he,());(vs.length<=1000000/\ms.length<=1000000/\cs.length<=1000000/\fs.length<=1000000/\ts.length<=1000000/\(∀(x:ByteArray×(lY.sl.pair Sh.unit).den),x∈fs->List.length x.snd.fst<=1000000)/\(dM fs).length<=1000000)/\br (!decide (bQ z30.fst bound=0)) (rT z5 [SV.dat dS (((0:Int),(0:Int),(0:Int),WV,(0:Int),(0:Int),(0:Int),(0:Int),(0:Int),[],())),cI (bQ z30.fst bound)]) ((z30.fst=0/\he.length<=1000000/\id<=9223372036854775807/\rg.length=8)/\br (!ny ms fs bound z21) (rT z5 [SV.dat dS (((0:Int),(0:Int),(0:Int),WV,(0:Int),(0:Int),(0:Int),(0:Int),(0:Int),[],())),cI 1]) (br (!decide (su=1)) (rT z5 [SV.dat dS (((0:Int),(0:Int),(0:Int),WV,(0:Int),(0:Int),(0:Int),(0:Int),(0:Int),[],())),cI 30]) (True/\br (!decide (bD r=r)) (rT z5 kq1) ((0<=fn/\fn < (fs.length:Int)/\0<=pc)/\iR (st+1)/\True/\br z29.snd ((0<=z29.fst/\z29.fst < 8)/\z29.fst.toNat < 8/\br z24 (z22/\(z30.fst=0/\dB ms fs bound z8/\List.length z8.snd.snd.snd.snd.snd.snd.snd.snd.snd.fst<=1000000/\z8.fst<=9223372036854775807/\List.length z8.snd.snd.snd.fst=8)/\rT z5 [SV.dat dS (eU fs bound 256 z8),cI 0]) (br z25 (br (decide (r=0)) z3 z1) (br z26 z1 (br z27 (he.length<=1000000/\iR (pc+1)/\(z30.fst=0/\dB ms fs bound z6/\nS.length<=1000000/\id<=9223372036854775807/\z20.length=8)/\rT z5 [SV.dat dS (eU fs bound 256 z6),cI 0]) (br z28 (iR (ch+1)/\iR (pc+1)/\(z30.fst=0/\dB ms fs bound z12/\he.length<=1000000/\id<=9223372036854775807/\z20.length=8)/\rT z5 [SV.dat dS (eU fs bound 256 z12),cI 0]) z3))))) (br z24 (z22/\(z30.fst=0/\dB ms fs bound z11/\List.length z11.snd.snd.snd.snd.snd.snd.snd.snd.snd.fst<=1000000/\z11.fst<=9223372036854775807/\List.length z11.snd.snd.snd.fst=8)/\rT z5 [SV.dat dS (eU fs bound 256 z11),cI 0]) (br z25 (br (decide (r=0)) z4 z2) (br z26 z2 (br z27 (he.length<=1000000/\iR (pc+1)/\(z30.fst=0/\dB ms fs bound z9/\nS.length<=1000000/\id<=9223372036854775807/\rg.length=8)/\rT z5 [SV.dat dS (eU fs bound 256 z9),cI 0]) (br z28 (iR (ch+1)/\iR (pc+1)/\(z30.fst=0/\dB ms fs bound Gh/\he.length<=1000000/\id<=9223372036854775807/\rg.length=8)/\rT z5 [SV.dat dS (eU fs bound 256 Gh),cI 0]) z4))))))))):=by
 conv=>zeta
 delta WV kq1 cI rT I6 iR;obtain⟨hb,BG,hid,hrg⟩:bnd ((vs,ms,cs,fs,ts,()),())/\he.length<=1000000/\id<=9223372036854775807/\rg.length=8:=aG;refine⟨hb,ah.2 ⟨λh=>?_,λh=>?_⟩⟩
 .have h:bQ (aC vs ms cs fs ts).1 bound≠0:=by simpa using h
  have e:kE (aC vs ms cs fs ts).1 ms fs bound (id,fn,pc,rg,st,ch,ph,su,fa,he,()) r=(zT,bQ (aC vs ms cs fs ts).1 bound):=by unfold kE;rw[if_pos h]
  rw[e];exact⟨rfl,rfl⟩
 have h:¬bQ (aC vs ms cs fs ts).1 bound≠0:=by simpa using h
 have hs:=fG.1 (Gw.1 h);refine⟨⟨hs.1,BG,hid,hrg⟩,ah.2 ⟨λh2=>?_,λh2=>?_⟩⟩
 .have h2:¬rO ms fs bound (id,fn,pc,rg,st,ch,ph,su,fa,he,()):=λq=>by rw[kP.2 q]at h2;cases h2
  have e:kE (aC vs ms cs fs ts).1 ms fs bound (id,fn,pc,rg,st,ch,ph,su,fa,he,()) r=(zT,1):=by unfold kE;rw[if_neg h,if_pos h2]
  rw[e];exact⟨rfl,rfl⟩
 have hV:rO ms fs bound (id,fn,pc,rg,st,ch,ph,su,fa,he,()):=kP.1 (by simpa using h2)
 have h2:¬¬rO ms fs bound (id,fn,pc,rg,st,ch,ph,su,fa,he,()):=λq=>q hV
 refine ah.2 ⟨λh3=>?_,λh3=>⟨trivial,ah.2 ⟨λh4=>?_,λh4=>?_⟩⟩⟩
 .have h3:su≠1:=by simpa using h3
  have e:kE (aC vs ms cs fs ts).1 ms fs bound (id,fn,pc,rg,st,ch,ph,su,fa,he,()) r=(zT,30):=by unfold kE;rw[if_neg h,if_neg h2,if_pos h3]
  rw[e];exact⟨rfl,rfl⟩
 all_goals
  have h1:su=1:=by simpa using h3
  have h3:¬su≠1:=λq=>q h1
 .have h4:bU r=false:=by rw[val_wrap];simpa using h4
  have e:kE (aC vs ms cs fs ts).1 ms fs bound (id,fn,pc,rg,st,ch,ph,su,fa,he,()) r=(zT,2):=by unfold kE;rw[if_neg h,if_neg h2,if_neg h3,if_pos h4]
  rw[e];exact⟨rfl,rfl⟩
 have hvr:bU r=true:=by rw[val_wrap];simpa using h4
 have h4:¬bU r=false:=by rw[hvr];simp
 obtain⟨f0,s0,i,ha,vi,oi⟩:=BF hV h1;have ha:lZ fs fn pc=some i:=ha;have s0:st < bound:=s0;have hF:dB ms fs bound (id,fn,pc,rg,st,ch,ph,su,fa,he,()):=hV.1;have hfn:=hF.2.1;have hpc:=hF.2.2.1;have hst:=hF.2.2.2.2.1;have hch:=hF.2.2.2.2.2.1;have h64:=F9 hs.1 hfn;have hci:=(ql (Ci hs.1 hfn ha)).1;have hm4:=aif (lQ hs.1).1;have h4e:he.length<=4:=sO hF hm4;have leaf:∀t':TD,t'=gu (id,fn,pc,rg,st,ch,ph,su,fa,he,()) i r->(((aC vs ms cs fs ts).1=0/\dB ms fs bound t'/\t'.2.2.2.2.2.2.2.2.2.1.length<=1000000/\t'.1<=9223372036854775807/\t'.2.2.2.1.length=8)/\([]:List Go.l9.ak)=[] /\
  bg.iJ [SV.dat dS (kE (aC vs ms cs fs ts).1 ms fs bound (id,fn,pc,rg,st,ch,ph,su,fa,he,()) r).1,SV.c (SC.v (Value.int .i64 (kE (aC vs ms cs fs ts).1 ms fs bound (id,fn,pc,rg,st,ch,ph,su,fa,he,()) r).2))]=bg.iJ [SV.dat dS (eU fs bound 256 t'),SV.c (SC.v (Value.int .i64 0))]):=by
  intro t' et;subst et;have hf:=FX hs.1 hV h1 ha hvr;have e:kE (aC vs ms cs fs ts).1 ms fs bound (id,fn,pc,rg,st,ch,ph,su,fa,he,()) r=(eU fs bound 256 (gu (id,fn,pc,rg,st,ch,ph,su,fa,he,()) i r),0):=by
   unfold kE;rw[if_neg h,if_neg h2,if_neg h3,if_neg h4];show(eU fs bound 256 (gu (id,fn,pc,rg,st,ch,ph,su,fa,he,()) (atR fs fn pc).1 r),(0:Int))=_;rw[show atR fs fn pc=(i,true) by unfold atR;rw[ha]]
  rw[e];exact⟨⟨hs.1,hf,pI (sO hf hm4) (by omega),IZ hf,(TN _ _ _).trans hrg⟩,rfl,rfl⟩
 rw[show atR fs fn pc=(i,true) by unfold atR;rw[ha]]
 dsimp only;have e9:he.length<=999999:=by omega
 have ep:WS .i64 (pc+1):=ay.2 (by omega)
 have ec:WS .i64 (ch+1):=ay.2 (by omega)
 refine⟨⟨hfn.1,hfn.2,hpc.1⟩,ay.2 (by omega),trivial,ah.2 ⟨λhd=>?_,λhd=>?_⟩⟩
 .have hr:=abj hci hd;refine⟨hr,by omega,?_⟩
  refine bC.2 ⟨λq=>⟨⟨e9,hpc.1,show pc<=1000000 by omega⟩,leaf _ (by simp only[tV,gu,if_pos q,if_pos hd])⟩,λn18=>bC.2 ⟨λn17=>bC.2 ⟨λq=>⟨ep,leaf _ (by simp[gu,n17,hd,q])⟩,λq=>⟨e9,ep,leaf _ (by simp[gu,n17,hd,q,yc])⟩⟩,
   λn17=>bC.2 ⟨λq=>⟨e9,ep,leaf _ (by simp[gu,q,hd,yc])⟩,λn15=>bC.2 ⟨λq=>⟨BG,ep,leaf _ (by simp[gu,q,hd,zK])⟩,λn16=>bC.2 ⟨λq=>⟨ec,ep,leaf _ (by simp[gu,q,hd])⟩,λn21=>⟨ep,leaf _ (by simp[gu,n18,n17,n15,n16,n21,hd])⟩⟩⟩⟩⟩⟩
 .refine bC.2 ⟨λq=>⟨⟨e9,hpc.1,show pc<=1000000 by omega⟩,leaf _ (by simp only[tV,gu,if_pos q,hd];simp)⟩,λn18=>bC.2 ⟨λn17=>bC.2 ⟨λq=>⟨ep,leaf _ (by simp[gu,n17,hd,q])⟩,λq=>⟨e9,ep,leaf _ (by simp[gu,n17,hd,q,yc])⟩⟩,
   λn17=>bC.2 ⟨λq=>⟨e9,ep,leaf _ (by simp[gu,q,hd,yc])⟩,λn15=>bC.2 ⟨λq=>⟨BG,ep,leaf _ (by simp[gu,q,hd,zK])⟩,λn16=>bC.2 ⟨λq=>⟨ec,ep,leaf _ (by simp[gu,q,hd])⟩,λn21=>⟨ep,leaf _ (by simp[gu,n18,n17,n15,n16,n21,hd])⟩⟩⟩⟩⟩⟩
theorem agi:aU aS.gd 51 abm:=
 dY (cx:=aS) (n:=103) (cl:=[(75,tN),(108,KJ),(77,FZ),(95,QH),(109,aie),(78,TL),(110,abk),(111,NM),(112,NY)]) (rc:=[.data dS,.keep]) au ⟨KI,N9,DF,zN,aa2,TM,abl,FM,F7,trivial⟩ Tryz.func51 λd hd=>by
  obtain⟨⟨vs,ms,cs,fs,ts,⟨⟩⟩,bound,⟨id,fn,pc,rg,st,ch,ph,su,fa,he,⟨⟩⟩,r,⟨⟩⟩:=d;exact aP (λ_=>none) (alk vs ms cs fs ts bound id fn pc rg st ch ph su fa he r hd) (by kernel_rfl)
theorem zO(h:(bW id ch).2=true):(bW id ch).1=8 * (id+1)+ch/\(0<=ch/\ch < 7)/\Tt (bW id ch).1=(id,true)/\iE (bW id ch).1=iE id+1/\8<=(bW id ch).1/\iE (bW id ch).1<=4/\(bW id ch).1<=1000000/\(0<=iE id/\iE id<=4):=by
 unfold bW at h ⊢
 split at h
 .cases h
 rename_i q;rw[if_neg q];have q1:0<=aQ id:=by omega
 have q2:aQ id≠4:=by omega
 obtain⟨e1,e2⟩:=Ce q1 q2 (ch:=ch) (by omega) (by omega)
 have hl:=jX q1;have hr:=FU id;refine⟨rfl,by omega,?_,?_,by simp only;omega,?_,by simp only;omega,?_⟩
 .unfold Tt;rw[if_neg (by rw[e1];omega),e2]
 .unfold iE;rw[e1,if_neg (by omega),if_neg (by omega)]
 .unfold iE;rw[e1,if_neg (by omega)];omega
 .unfold iE;rw[if_neg (by omega)];omega
theorem top_len{rest:ID->TD} (hr:∀i,(rest i).2.2.2.1.length=t.2.2.2.1.length):(topS fs bound t rest).2.2.2.1.length=t.2.2.2.1.length:=by
 obtain⟨id,fn,pc,rg,st,ch,ph,su,fa,hd,u⟩:=t;unfold topS;simp only;split
 .rfl
 split
 .repeat' split
  all_goals rfl
 .exact hr _
theorem TU(fs:List FD) (bound:Int):∀(k:Nat) (t:TD),(eU fs bound k t).2.2.2.1.length=t.2.2.2.1.length:=by
 intro k
 induction k with
 | zero=>
   intro t;rw[eU];exact top_len λi=>rfl
 | succ k ih=>
   intro t;rw[eU];refine top_len λi=>?_
   split
   .exact(ih _).trans (KL t i)
   .exact KL t i
theorem abn{fn r:Int} (h:(newS (aC vs ms cs fs ts).1 fs bound id fn r).2=0):bQ (aC vs ms cs fs ts).1 bound=0/\rO ms fs bound (newS (aC vs ms cs fs ts).1 fs bound id fn r).1/\(newS (aC vs ms cs fs ts).1 fs bound id fn r).1.2.2.2.1.length=8:=by
 unfold newS at h ⊢
 split at h
 .rename_i q;exact absurd h q
 split at h
 .cases h
 split at h
 .cases h
 split at h
 .cases h
 rename_i q1 q2 q3 q4;rw[if_neg q1,if_neg q2,if_neg q3,if_neg q4];have hs:=fG.1 (Gw.1 q1);exact⟨Gw.1 q1,TA hs.1 hs.2.1 _ _ (FY ms hs.2.1 q2 q3 q4) rfl rfl,TU _ _ _ _⟩
theorem QI{r:Int} (hl:t.2.2.2.1.length=8) (h:(kE (aC vs ms cs fs ts).1 ms fs bound t r).2=0):bQ (aC vs ms cs fs ts).1 bound=0/\rO ms fs bound (kE (aC vs ms cs fs ts).1 ms fs bound t r).1/\(kE (aC vs ms cs fs ts).1 ms fs bound t r).1.2.2.2.1.length=8 /\
 (kE (aC vs ms cs fs ts).1 ms fs bound t r).1.2.2.2.2.1=t.2.2.2.2.1+1/\(kE (aC vs ms cs fs ts).1 ms fs bound t r).1.1=t.1/\(kE (aC vs ms cs fs ts).1 ms fs bound t r).1.2.1=t.2.1/\(0<=t.2.2.2.2.1/\t.2.2.2.2.1 < 32):=by
 unfold kE at h ⊢
 split at h
 .rename_i q;exact absurd h q
 split at h
 .cases h
 split at h
 .cases h
 split at h
 .cases h
 rename_i q1 q2 q3 q4;rw[if_neg q1,if_neg q2,if_neg q3,if_neg q4];have hs:=fG.1 (Gw.1 q1);have hV:=Gw.1 q2;have h1:t.2.2.2.2.2.2.2.1=1:=Gw.1 q3;have hv:bU r=true:=by simpa using q4
 obtain⟨f0,s0,i,ha,vi,oi⟩:=BF hV h1;have ea:(atR fs t.2.1 t.2.2.1).1=i:=by unfold atR;rw[ha]
 rw[ea];have hf:=FX hs.1 hV h1 ha hv;have hk:=NU t i r;have hk2:=uU fs bound 256 (gu t i r);refine⟨Gw.1 q1,TA hs.1 hs.2.1 _ _ hf (hk.2.2.2.1.trans h1) (hk.2.2.2.2.trans f0),((TU _ _ _ _).trans (TN _ _ _)).trans hl,hk2.2.2.1.trans hk.2.2.1,hk2.1.trans hk.1,hk2.2.1.trans hk.2.1,?_⟩;obtain⟨id,fn,pc,rg,st,ch,ph,su,fa,he,u⟩:=t;have:=hV.1.2.2.2.2.1;have s0:st < bound:=s0;show 0<=st/\st < 32;have:0<=st/\st<=bound:=this;omega
theorem gY(h:rO ms fs bound t):dB ms fs bound t:=by
 obtain⟨id,fn,pc,rg,st,ch,ph,su,fa,he,u⟩:=t;exact h.1
theorem I4(h:dB ms fs bound t):(0<=t.2.1/\t.2.1 < (fs.length:Int))/\0<=t.2.2.1:=by
 obtain⟨id,fn,pc,rg,st,ch,ph,su,fa,he,u⟩:=t;exact⟨h.2.1,h.2.2.1.1⟩
theorem abo{b c:Int} (hbc:b<=c) (h:rO ms fs b t):rO ms fs c t:=by
 obtain⟨id,fn,pc,rg,st,ch,ph,su,fa,he,u⟩:=t;obtain⟨⟨h1,h2,h3,h4,h5,h6⟩,q⟩:=h;refine⟨⟨h1,h2,h3,h4,⟨h5.1,Int.le_trans h5.2 hbc⟩,h6⟩,?_⟩;rcases q with⟨q1,q2⟩ | q
 .refine .inl ⟨?_,q2⟩;rcases q1 with⟨a,b'⟩ | q1
  .exact .inl ⟨a,Int.lt_of_lt_of_le b' hbc⟩
  .exact .inr q1
 .exact .inr q
theorem Oa(hs:bQ (aC vs ms cs fs ts).1 bound=0) (h:rO ms fs bound t):t.2.2.2.2.2.2.2.2.2.1.length<=1000000/\t.1<=9223372036854775807:=by
 have hf:dB ms fs bound t:=by
  obtain⟨id,fn,pc,rg,st,ch,ph,su,fa,he,u⟩:=t;exact h.1
 exact⟨pI (sO hf (aif (lQ (fG.1 hs).1).1)) (by omega),IZ hf⟩
end
end Go.Proofs.YtjhenjhcbcalpaaGreatDoor
