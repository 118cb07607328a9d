/- Texts of this claim, part 8: W1, W2, W3, W4, W5, W6. Conditions: those of the given rows. -/
import Derived.Test.YtjhenjhcbcalpaaGreatDoorB7
set_option linter.unusedSimpArgs false
set_option linter.unusedVariables false
set_option maxRecDepth 1000000
set_option maxHeartbeats 8000000
namespace Go.Proofs.YtjhenjhcbcalpaaGreatDoor
open Go Go.mQ
noncomputable section
variable {ms cs:List ByteArray}{fs:List FD}{bound id pc st ch ph su fa:Int}{t:TD}{vs:List VD}{ts:List SD}{rg he:List Int}{u:Unit}{i:ID}
theorem wrap32(n:Int):IntKind.i32.wrap (IntKind.u32.wrap n)=bC n:=by
 simp only[IntKind.wrap,IntKind.bits,IntKind.signed,bC];simp;split<;>omega
theorem apS{x y:Int} (hx:-2147483648<=x/\x<=2147483647) (hy:-2147483648<=y/\y<=2147483647):-9223372036854775808<=x * y/\x * y<=9223372036854775807:=by
 have h1:x.natAbs<=2147483648:=by omega
 have h2:y.natAbs<=2147483648:=by omega
 have h3:(x * y).natAbs<=2147483648 * 2147483648:=by rw[Int.natAbs_mul];exact Nat.mul_le_mul h1 h2
 omega
abbrev H8:CT:={ ps:=[.int .i64],pre:=λd=>True,res:=λd=>([],.one (.c (.v (.int .i64 (bC d.1))))) }
theorem amB(n:Int):
 let z1:=IntKind.i32.wrap (IntKind.u32.wrap n);dX IntKind.i64 z1/\qI (bC n) z1:=by
 conv=>zeta
 delta qI;have:=xW n;rw[wrap32];exact⟨ay.2 (by omega),rfl,rfl⟩
theorem ET:aW aU.gd 77 H8:=
 kL (cx:=aU) (n:=7) (cl:=[]) aA trivial Tryz.func77 λd hd=>by
  obtain⟨n,⟨⟩⟩:=d;exact aS (λ_=>none) (amB n) (by kernel_rfl)
abbrev ajJ:CT:={ ps:=[.bool],pre:=λd=>True,res:=λd=>([],.one (.c (.v (.int .i64 (if d.1=true then 1 else 0))))) }
theorem ahw(b:Bool):
 let z1:=if b=true then(1:Int) else(0:Int);br b (qI z1 (1:Int)) (qI z1 (0:Int)):=by
 conv=>zeta
 delta qI;rw[ah];cases b<;>simp
theorem acp:aW aU.gd 161 ajJ:=
 kL (cx:=aU) (n:=4) (cl:=[]) aA trivial Tryz.func161 λd hd=>by
  obtain⟨b,⟨⟩⟩:=d;exact aS (λ_=>none) (ahw b) (by kernel_rfl)
abbrev UO:CT:={ ps:=[.int .i64,.int .i64,.int .i64],pre:=λd=>True,res:=λd=>([],.iR [.c (.v (.int .i64 (iG d.1 d.2.1 d.2.2.1).1)),.c (.v (.int .i64 (iG d.1 d.2.1 d.2.2.1).2))]) }
theorem amC(f a b:Int):
 let z1:=[cI ((iG f a b).fst),cI ((iG f a b).snd)];True/\True/\br (decide (f=1)) (dX IntKind.i64 (bC a+bC b)/\True/\rT z1 [cI (bC (bC a+bC b)),cI 0]) (br (decide (f=2)) (dX IntKind.i64 (bC a - bC b)/\True/\rT z1 [cI (bC (bC a - bC b)),cI 0]) (br (decide (f=3)) (dX IntKind.i64 (bC a * bC b)/\True/\rT z1 [cI (bC (bC a * bC b)),cI 0]) (br (decide (f=4)) (True/\rT z1 [cI (bC (qH BinOp.and IntKind.i64 (bC a) (bC b))),cI 0]) (br (decide (f=5)) (True/\rT z1 [cI (bC (qH BinOp.or IntKind.i64 (bC a) (bC b))),cI 0]) (br (decide (f=6)) (True/\rT z1 [cI (bC (qH BinOp.xor IntKind.i64 (bC a) (bC b))),cI 0]) (br (decide (f=7)) (True/\rT z1 [cI (if decide (bC a=bC b)=true then(1:Int) else(0:Int)),cI 0]) (br (decide (f=8)) (True/\rT z1 [cI (if(!decide (bC a=bC b))=true then(1:Int) else(0:Int)),cI 0]) (br (decide (f=9)) (True/\rT z1 [cI (if decide (bC a < bC b)=true then(1:Int) else(0:Int)),cI 0]) (br (decide (f=10)) (True/\rT z1 [cI (if decide (bC a<=bC b)=true then(1:Int) else(0:Int)),cI 0]) (rT z1 [cI 0,cI 8])))))))))):=by
 conv=>zeta
 delta cI rT;have ha:=xW a;have hb:=xW b;have hm:=apS ha hb;unfold iG;simp only[ah,dV,gG]
 repeat' (first | (refine And.intro ?_ ?_) | (intro _))
 all_goals first | rfl | trivial | exact ay.2 (by omega) | (simp[*];done) | skip
theorem L9:aW aU.gd 97 UO:=
 kL (cx:=aU) (n:=75) (cl:=[(77,H8),(161,ajJ)]) aA ⟨ET,acp,trivial⟩ Tryz.func97 λd hd=>by
  obtain⟨f,a,b,⟨⟩⟩:=d;exact aS (λ_=>none) (amC f a b) (by kernel_rfl)
abbrev acr:CT:={ ps:=[.int .i64],pre:=λd=>True,res:=λd=>([],vB (ng d.1)) }
theorem ahx(op:Int):
 qB (ng op) (decide (8<=op) && decide (op<=22)):=by
 delta qB;refine⟨rfl,?_⟩;rw[show ng op=(decide (8<=op) && decide (op<=22)) by unfold ng;rw[MZ];simp]
theorem O4:aW aU.gd 149 acr:=
 kL (cx:=aU) (n:=9) (cl:=[]) aA trivial Tryz.func149 λd hd=>by
  obtain⟨op,⟨⟩⟩:=d;exact aS (λ_=>none) (ahx op) (by kernel_rfl)
abbrev ajK:CT:={ ps:=[o7],pre:=λd=>True,res:=λd=>([],.iR [.c (.v (.int .i64 (nP d.1).1)),.c (.v (.bool (nP d.1).2))]) }
theorem ahy(op a b c obj n fo ord:Int):
 let z4:=pV op a b c obj n fo ord=0;let z2:=!!decide z4;let z3:=nP (op,a,b,c,obj,n,fo,ord,());let z1:=[cI (z3.fst),cB (z3.snd)];True/\(z2=true->dX IntKind.i64 (op - 1))/\(z2=true->0<=op - 1/\op - 1 < (22:Int))/\∀(d:ByteArray×((Sh.arr 7 Sh.bool).pair Sh.unit).den),(z2=true->OG[(op - 1).toNat]?=some d)->(z2=true->(0:Int)<=(0:Int)/\0 < ((List.length d.snd.fst):Int))/\∀(dJ:Bool),(z2=true->d.snd.fst[0]?=some dJ)->br (!decide z4 || !dJ) (rT z1 [cI 0,cB false]) (rT z1 [cI a,cB true]):=by
 conv=>zeta
 delta cI cB rT
 by_cases h:pV op a b c obj n fo ord=0
 .obtain⟨r1,r2,r3,r4⟩:=ni (i:=(op,a,b,c,obj,n,fo,ord,())) h;have r4:1<=op/\op<=22:=r4;refine⟨trivial,λ_=>ay.2 (by omega),λ_=>by omega,λd hd=>?_⟩
  have hd:=hd (by simp[h])
  obtain⟨nm,us,u⟩:=d;have hu:=OH r4 hd;subst hu;refine⟨λ_=>by simp,λd1 hd1=>?_⟩
  have hd1:use op 0=d1:=by simpa[h]using hd1
  subst hd1;rw[ah];have hc:rG (op,a,b,c,obj,n,fo,ord,())=0:=h;refine⟨λq=>?_,λq=>?_⟩
  .have q:use op 0=false:=by simpa[h]using q
   have e:nP (op,a,b,c,obj,n,fo,ord,())=(0,false):=by unfold nP;rw[if_pos (.inr q)]
   rw[e];exact⟨rfl,rfl⟩
  .have q:use op 0=true:=by simpa[h]using q
   have e:nP (op,a,b,c,obj,n,fo,ord,())=(a,true):=by unfold nP;rw[if_neg (by rw[hc];simp[q])]
   rw[e];exact⟨rfl,rfl⟩
 .have hc:¬rG (op,a,b,c,obj,n,fo,ord,())=0:=h;have e:nP (op,a,b,c,obj,n,fo,ord,())=(0,false):=by unfold nP;rw[if_pos (.inl hc)]
  rw[e];refine⟨trivial,λq=>by simp[h]at q,λq=>by simp[h]at q,λd hd=>⟨λq=>by simp[h]at q,λd1 hd1=>?_⟩⟩
  rw[ah];exact⟨λ_=>⟨rfl,rfl⟩,λq=>by simp[h]at q⟩
theorem acs:aW aU.gd 109 ajK:=
 kL (cx:=aU) (n:=19) (cl:=[(168,alS)]) aA ⟨OI,trivial⟩ Tryz.func109 λd hd=>by
  obtain⟨⟨op,a,b,c,obj,n,fo,ord,⟨⟩⟩,⟨⟩⟩:=d;exact aS (λ_=>none) (ahy op a b c obj n fo ord) (by kernel_rfl)
instance (l:List Int):Decidable (SS l):=inferInstanceAs (Decidable (l.Pairwise (· < ·)))
def rH(l:List Int):Bool:=decide (SS l)
theorem Sv:∀{l:List Int},(∀j x y,l[j]?=some x->l[j+1]?=some y->x < y)->SS l
 | [],_=>List.Pairwise.nil
 | [a],_=>by simp[SS]
 | a :: b :: l,h=>by
   have ih:SS (b :: l):=Sv λj x y h1 h2=>h (j+1) x y (by simpa using h1) (by simpa using h2)
   refine Yj.2 ⟨λz hz=>?_,ih⟩
   have hab:=h 0 a b rfl rfl;rcases mM.1 hz with rfl | hz
   .exact hab
   .have:=(Yj.1 ih).1 z hz;omega
theorem acu{l:List Int} (h:SS l){j:Nat}{x y:Int} (h1:l[j]?=some x) (h2:l[j+1]?=some y):x < y:=by
 obtain⟨a1,a2⟩:=eU.1 h1;obtain⟨b1,b2⟩:=eU.1 h2;have:=aeL.1 h j (j+1) a1 b1 (by omega)
 omega
abbrev ctV:CT:={ ps:=[.sl (.int .i64)],pre:=λd=>d.1.length<=1000000,res:=λd=>([],vB (rH d.1)) }
abbrev amD(l:List Int):Nat->Option (St->kH):=λk=>match k with
 | 2=>some λ_=>.inv { α:=Nat,slots:=λk=>[(3,.c (.v (.int .i64 k)))],res:=λ_=>[],inv:=λk=>(1<=k/\(k<=l.length\/k=1))/\∀j,j+1 < k->∀x y,l[j]?=some x->l[j+1]?=some y->x < y,meas:=λk=>l.length - k }
 | _=>none
theorem ahz(l:List Int) (aH:ctV.pre (l,())):
 (∃x,((1<=x/\(x<=l.length\/x=1))/\∀(j:Nat),j+1 < x->∀(x y:Int),l[j]?=some x->l[j+1]?=some y->x < y)/\(cI 1=cI (x:Int)/\True)/\([]:List fH)=[])/\∀(x:Nat),((1<=x/\(x<=l.length\/x=1))/\∀(j:Nat),j+1 < x->∀(x y:Int),l[j]?=some x->l[j+1]?=some y->x < y)->br (decide ((x:Int) < (l.length:Int))) (dX IntKind.i64 ((x:Int) - (1:Int))/\(0<=(x:Int) - (1:Int)/\(x:Int) - 1 < (l.length:Int))/\∀(d:Int),l[((x:Int) - (1:Int)).toNat]?=some d->(0<=(x:Int)/\(x:Int) < (l.length:Int))/\∀(dJ:Int),l[(x:Int).toNat]?=some dJ->br (decide (dJ<=d)) (qB (rH l) false) (dX IntKind.i64 ((x:Int)+(1:Int))/\∃x',((1<=x'/\(x'<=l.length\/x'=1))/\∀(j:Nat),j+1 < x'->∀(x y:Int),l[j]?=some x->l[j+1]?=some y->x < y)/\(cI ((x:Int)+(1:Int))=cI (x':Int)/\True)/\([]:List fH)=[]/\l.length - x' < l.length - x)) (qB (rH l) true):=by
 delta fH cI qB;have hp:l.length<=1000000:=aH;refine⟨⟨1,⟨⟨by omega,.inr rfl⟩,λj hj=>by omega⟩,⟨rfl,trivial⟩,rfl⟩,λk hk=>ah.2 ⟨λh=>?_,λh=>?_⟩⟩
 .simp only[dV]at h;have hk1:=hk.1.1;refine⟨ay.2 (by omega),by omega,λd hd=>⟨by omega,λe he=>?_⟩⟩
  have hd:l[k - 1]?=some d:=by rw[<-hd];congr 1;omega
  have he:l[k]?=some e:=by simpa using he
  have he':l[k - 1+1]?=some e:=by rw[show k - 1+1=k by omega];exact he
  refine ah.2 ⟨λh2=>?_,λh2=>⟨ay.2 (by omega),k+1,⟨⟨by omega,.inl (by omega)⟩,λj hj x y hx hy=>?_⟩,⟨by simp,trivial⟩,rfl,by omega⟩⟩
  .simp only[dV]at h2;have:rH l=false:=BP λhs=>by have:=acu hs hd he';omega
   rw[this];exact⟨rfl,rfl⟩
  .simp only[gG]at h2
   by_cases ji:j+1=k
   .have hj':j=k - 1:=by omega
    subst hj';rw[hd]at hx;rw[he']at hy;cases hx;cases hy;omega
   .exact hk.2 j (by omega) x y hx hy
 .simp only[gG]at h;have:rH l=true:=Na (Sv λj x y hx hy=>hk.2 j (by have:=(eU.1 hy).1;omega) x y hx hy)
  rw[this];exact⟨rfl,rfl⟩
theorem O5:aW aU.gd 192 ctV:=
 kL (cx:=aU) (n:=20) (cl:=[]) aA trivial Tryz.func192 λd hd=>by
  obtain⟨l,⟨⟩⟩:=d;exact aS (amD l) (ahz l hd) (by kernel_rfl)
abbrev H9:CT:={ ps:=[.sl (.int .i64),.sl (.int .i64),.bool],pre:=λd=>d.1.length<=1000000/\d.2.1.length<=1000000,res:=λd=>([.row 3 (.int .i64) (oh (bT d.1) d.2.1 d.2.2.1)],.one (.c (.row 0))) }
abbrev amE(l o:List Int) (b:Bool):Nat->Option (St->kH):=λk=>match k with
 | 3=>some λ_=>.inv { α:=Nat,slots:=λk=>[(13,.c (.v (.int .i64 k))),(7,.c (.row 1))],res:=λk=>[(1,.row 3 (.int .i64) (oh ((bT l).take k) o b))],inv:=λk=>k<=(bT l).length,meas:=λk=>(bT l).length - k,nil:=[(7,3,.int .i64)] }
 | _=>none
theorem ahA(l o:List Int) (b:Bool) (aH:H9.pre (l,o,b,())):
 let z3:=λ(x:Nat)=>oh (List.take x (bT l)) o b;let z2:=λ(x:Nat)=>[g0 (au.row 3 I6 (bT l)),g0 (au.row 3 I6 (z3 x))];let z1:=λ(x x':Nat)=>cI ((x:Int)+(1:Int))=cI (x':Int)/\SV.c (SC.row 1)=SV.c (SC.row 1)/\True;l.length<=1000000/\(∃x,x<=(bT l).length/\(cI 0=cI (x:Int)/\SV.c (SC.row (Nat.succ 0))=SV.c (SC.row 1)/\True)/\[g0 (au.row 3 I6 (bT l)),g0 (au.row 3 I6 [])]=(z2 x))/\∀(x:Nat),x<=(bT l).length->br (decide ((x:Int) < (↑(bT l).length:Int))) ((0<=(x:Int)/\(x:Int) < (↑(bT l).length:Int))/\(x:Int).toNat < (bT l).length/\∀(d:Int),(bT l)[(x:Int).toNat]?=some d->o.length<=4611686018427387904/\br (gq o d == b) (oN (List.length (z3 x)+List.length ([d])) 8/\dX IntKind.i64 ((x:Int)+(1:Int))/\∃x',x'<=(bT l).length/\(z1 x x')/\[g0 (au.row 3 I6 (bT l)),g0 (au.row 3 I6 (oh (List.take x (bT l)) o b++[d]))]=(z2 x')/\(bT l).length - x' < (bT l).length - x) (dX IntKind.i64 ((x:Int)+(1:Int))/\∃x',x'<=(bT l).length/\(z1 x x')/\(z2 x)=(z2 x')/\(bT l).length - x' < (bT l).length - x)) ([au.row 3 I6 (oh (bT l) o b)]=[au.row 3 I6 (z3 x)]/\bg.one (SV.c (SC.row 0))=bg.one (SV.c (SC.row 0))):=by
 conv=>zeta
 delta cI g0 I6;have hp:l.length<=1000000/\o.length<=1000000:=aH;have hm:=abK l;have hf:∀k,(oh ((bT l).take k) o b).length<=1000000:=λk=>by
  refine qY (Yu _ _) ?_;rw[mD];omega
 refine⟨hp.1,⟨0,by omega,⟨rfl,rfl,trivial⟩,by simp[oh]⟩,λk hk=>ah.2 ⟨λh=>?_,λh=>?_⟩⟩
 .simp only[dV]at h;refine⟨⟨by omega,h⟩,by omega,λd hd=>?_⟩
  have hd:(bT l)[k]?=some d:=by simpa using hd
  have e:oh ((bT l).take (k+1)) o b=oh ((bT l).take k) o b++(if gq o d == b then[d] else[]):=by
   unfold oh;rw[Tf,hd,aj6,List.filter_append]
   congr 1
   simp only[List.filter_cons,List.filter_nil]
  refine⟨by omega,ah.2 ⟨λh2=>⟨?_,ay.2 (by omega),k+1,by omega,⟨by simp,rfl,trivial⟩,?_,by omega⟩,λh2=>⟨ay.2 (by omega),k+1,by omega,⟨by simp,rfl,trivial⟩,?_,by omega⟩⟩⟩
  .have:=hf k;rw[fQ];simp;omega
  .rw[e,h2];rfl
  .rw[e,h2];simp
 .simp only[gG]at h;rw[zF (by omega)];exact⟨rfl,rfl⟩
theorem acv:aW aU.gd 170 H9:=
 kL (cx:=aU) (n:=28) (cl:=[(169,Bd),(98,Ho)]) aA ⟨OU,Bc,trivial⟩ Tryz.func170 λd hd=>by
  obtain⟨l,o,b,⟨⟩⟩:=d;exact aS (amE l o b) (ahA l o b hd) (by kernel_rfl)
abbrev O6:CT:={ ps:=[.sl (.int .i64),.int .i64],pre:=λd=>d.1.length<=1000000,res:=λd=>([.row 3 (.int .i64) (oh (bT d.1) [d.2.1] false)],.one (.c (.row 0))) }
theorem ahB(l:List Int) (x:Int) (aH:O6.pre (l,x,())):
 let z1:=[au.row (3:TypeId) Ba (oh (bT l) [x] false)];(l.length<=(1000000:Nat)/\[x].length<=(1000000:Nat))/\z1=z1/\bg.one tJ=bg.one tJ:=by
 conv=>zeta
 delta Ba tJ;have hp:l.length<=1000000:=aH;exact⟨⟨hp,by simp⟩,rfl,rfl⟩
theorem Ia:aW aU.gd 112 O6:=
 kL (cx:=aU) (n:=9) (cl:=[(170,H9)]) aA ⟨acv,trivial⟩ Tryz.func112 λd hd=>by
  obtain⟨l,x,⟨⟩⟩:=d;exact aS (λ_=>none) (ahB l x hd) (by kernel_rfl)
abbrev acw:CT:={ ps:=[.int .i64],pre:=λd=>0<=d.1/\d.1<=9223372036854775807,res:=λd=>([],.iR [.c (.v (.int .i64 (d.1.tdiv 8 - 1))),.c (.v (.int .i64 (d.1.tmod 8)))]) }
theorem ahC(id:Int) (aH:acw.pre (id,())):
 let z2:=id.tdiv (8:Int) - (1:Int);let z1:=[cI z2,cI (id.tmod (8:Int))];(8:Int)≠(0:Int)/\dX IntKind.i64 (id.tdiv (8:Int))/\dX IntKind.i64 z2/\(8:Int)≠(0:Int)/\rT z1 z1:=by
 conv=>zeta
 delta cI rT;have hp:0<=id/\id<=9223372036854775807:=aH;have e:id.tdiv 8=id / 8:=aeK hp.1;exact⟨by decide,ay.2 (by omega),ay.2 (by omega),by decide,rfl,rfl⟩
theorem acy:aW aU.gd 147 acw:=
 kL (cx:=aU) (n:=9) (cl:=[]) aA trivial Tryz.func147 λd hd=>by
  obtain⟨id,⟨⟩⟩:=d;exact aS (λ_=>none) (ahC id hd) (by kernel_rfl)
abbrev O7:CT:={ ps:=[.int .i64],pre:=λd=>d.1<=9223372036854775807,res:=λd=>([],.one (.c (.v (.int .i64 (bU d.1))))) }
abbrev apT(id:Int):Nat->Option (St->kH):=λk=>match k with
 | 4=>some λ_=>.inv { α:=Nat×Int,slots:=λx=>[(8,.c (.v (.int .i64 x.1))),(0,.c (.v (.int .i64 x.2)))],res:=λ_=>[],inv:=λx=>x.1<=5/\0<=x.2/\x.2<=9223372036854775807/\iH (5 - x.1) x.1 x.2=bU id,meas:=λx=>5 - x.1 }
 | _=>none
theorem amF(id:Int) (aH:O7.pre (id,())):
 let z2:=qI (bU id) (-1:Int);let z1:=λ(x:Nat×Int)=>x.fst<=5/\0<=x.snd/\x.snd<=9223372036854775807/\iH (5 - x.fst) (x.fst:Int) x.snd=bU id;br (decide (id < 0)) z2 ((∃(x:Nat×Int),(z1 x)/\(cI 0=cI (x.fst:Int)/\cI id=cI x.snd/\True)/\([]:List fH)=[])/\∀(x:Nat×Int),x.fst<=5/\0<=x.snd/\x.snd<=9223372036854775807/\iH (5 - x.fst) (x.fst:Int) x.snd=bU id->br (decide ((x.fst:Int) < (5:Int))) (br (decide (x.snd < 8)) (qI (bU id) (x.fst:Int)) ((0<=x.snd/\x.snd<=9223372036854775807)/\br (decide (7<=x.snd.tmod (8:Int))) z2 (dX IntKind.i64 ((x.fst:Int)+(1:Int))/\∃(x':Nat×Int),(z1 x')/\(cI ((x.fst:Int)+(1:Int))=cI (x'.fst:Int)/\cI (x.snd.tdiv (8:Int) - (1:Int))=cI x'.snd/\True)/\([]:List fH)=[]/\5 - x'.fst < 5 - x.fst))) z2):=by
 conv=>zeta
 delta fH cI qI;have hp:id<=9223372036854775807:=aH;refine ah.2 ⟨λh=>?_,λh=>?_⟩
 .simp only[dV]at h;have e:bU id = -1:=by unfold bU;rw[if_pos h]
  rw[e];exact⟨rfl,rfl⟩
 simp only[gG]at h;refine⟨⟨(0,id),⟨by omega,by simp only;omega,hp,by unfold bU;rw[if_neg h];rfl⟩,⟨rfl,rfl,trivial⟩,rfl⟩,λx hx=>ah.2 ⟨λh2=>?_,λh2=>?_⟩⟩
 .obtain⟨x1,x2,x3,x4⟩:=hx;simp only[dV]at h2;obtain⟨m,hm⟩:∃m,5 - x.1=m+1:=⟨4 - x.1,by omega⟩
  rw[hm,iH]at x4;refine ah.2 ⟨λh3=>?_,λh3=>⟨⟨x2,x3⟩,ah.2 ⟨λh4=>?_,λh4=>?_⟩⟩⟩
  .simp only[dV]at h3;rw[if_pos h3]at x4;rw[<-x4];exact⟨rfl,rfl⟩
  .simp only[dV,gG]at h3 h4;rw[if_neg h3,if_pos h4]at x4;rw[<-x4];exact⟨rfl,rfl⟩
  .simp only[gG]at h3 h4;rw[if_neg h3,if_neg h4]at x4;have e:x.2.tdiv 8=x.2 / 8:=aeK x2;refine⟨ay.2 (by omega),(x.1+1,x.2.tdiv 8 - 1),⟨by simp only;omega,by simp only;omega,by simp only;omega,?_⟩,⟨rfl,rfl,trivial⟩,rfl,by simp only;omega⟩
   rw[<-x4,show 5 - (x.1+1)=m by omega];rfl
 .obtain⟨x1,x2,x3,x4⟩:=hx;simp only[gG]at h2;rw[show 5 - x.1=0 by omega]at x4
  rw[<-x4];exact⟨rfl,rfl⟩
theorem Mc:aW aU.gd 76 O7:=
 kL (cx:=aU) (n:=23) (cl:=[(147,acw)]) aA ⟨acy,trivial⟩ Tryz.func76 λd hd=>by
  obtain⟨id,⟨⟩⟩:=d;exact aS (apT id) (amF id hd) (by kernel_rfl)
abbrev UQ:CT:={ ps:=[dQ],pre:=λd=>d.1.1<=9223372036854775807,res:=λd=>([],.iR [.c (.v (.int .i64 (dM d.1.1 d.1.2.2.2.2.2.1).1)),.c (.v (.bool (dM d.1.1 d.1.2.2.2.2.2.1).2))]) }
theorem amG(id fn pc:Int) (rg:List Int) (st ch ph su fa:Int) (he:List Int) (aH:UQ.pre ((id,fn,pc,rg,st,ch,ph,su,fa,he,()),())):
 let z1:=[cI ((dM id ch).fst),cB ((dM id ch).snd)];id<=9223372036854775807/\br (decide (bU id < 0) || decide (bU id=4) || decide (ch < 0) || decide (7<=ch)) (rT z1 [cI 0,cB false]) (dX IntKind.i64 (id+1)/\dX IntKind.i64 ((8:Int) * (id+1))/\dX IntKind.i64 ((8:Int) * (id+1)+ch)/\rT z1 [cI ((8:Int) * (id+1)+ch),cB true]):=by
 conv=>zeta
 delta cI cB rT;refine⟨aH,ah.2 ⟨λh=>?_,λh=>?_⟩⟩
 .have e:dM id ch=(0,false):=by
   unfold dM;rw[if_pos (by simpa[or_assoc]using h)]
  rw[e];exact⟨rfl,rfl⟩
 .simp only[oI,gG]at h;have e:dM id ch=(8 * (id+1)+ch,true):=by
   unfold dM;rw[if_neg (by omega)]
  have:=lG (id:=id) (by omega)
  rw[e];exact⟨ay.2 (by omega),ay.2 (by omega),ay.2 (by omega),rfl,rfl⟩
theorem UR:aW aU.gd 89 UQ:=
 kL (cx:=aU) (n:=31) (cl:=[(76,O7)]) aA ⟨Mc,trivial⟩ Tryz.func89 λd hd=>by
  obtain⟨⟨id,fn,pc,rg,st,ch,ph,su,fa,he,⟨⟩⟩,⟨⟩⟩:=d;exact aS (λ_=>none) (amG id fn pc rg st ch ph su fa he hd) (by kernel_rfl)
abbrev Sz:CT:={ ps:=[tK,dQ],pre:=λd=>0<=d.2.1.2.1/\d.2.1.2.1 < d.1.2.2.2.1.length/\0<=d.2.1.2.2.1,res:=λd=>([],.iR [.agg [.v (.int .i64 ((atR d.1.2.2.2.1 d.2.1.2.1 d.2.1.2.2.1).1).1),.v (.int .i64 ((atR d.1.2.2.2.1 d.2.1.2.1 d.2.1.2.2.1).1).2.1),.v (.int .i64 ((atR d.1.2.2.2.1 d.2.1.2.1 d.2.1.2.2.1).1).2.2.1),.v (.int .i64 ((atR d.1.2.2.2.1 d.2.1.2.1 d.2.1.2.2.1).1).2.2.2.1),.v (.int .i64 ((atR d.1.2.2.2.1 d.2.1.2.1 d.2.1.2.2.1).1).2.2.2.2.1),.v (.int .i64 ((atR d.1.2.2.2.1 d.2.1.2.1 d.2.1.2.2.1).1).2.2.2.2.2.1),.v (.int .i64 ((atR d.1.2.2.2.1 d.2.1.2.1 d.2.1.2.2.1).1).2.2.2.2.2.2.1),.v (.int .i64 ((atR d.1.2.2.2.1 d.2.1.2.1 d.2.1.2.2.1).1).2.2.2.2.2.2.2.1)],.c (.v (.bool (atR d.1.2.2.2.1 d.2.1.2.1 d.2.1.2.2.1).2))]) }
theorem amH(vs:List VD) (ms cs:List ByteArray) (fs:List FD) (ts:List SD) (id fn pc:Int) (rg:List Int) (st ch ph su fa:Int) (he:List Int) (aH:Sz.pre ((vs,ms,cs,fs,ts,()),(id,fn,pc,rg,st,ch,ph,su,fa,he,()),())):
 let z1:=[SV.agg [v6 ((atR fs fn pc).fst.fst),v6 ((atR fs fn pc).fst.snd.fst),v6 ((atR fs fn pc).fst.snd.snd.fst),v6 ((atR fs fn pc).fst.snd.snd.snd.fst),v6 ((atR fs fn pc).fst.snd.snd.snd.snd.fst),v6 ((atR fs fn pc).fst.snd.snd.snd.snd.snd.fst),v6 ((atR fs fn pc).fst.snd.snd.snd.snd.snd.snd.fst),v6 ((atR fs fn pc).fst.snd.snd.snd.snd.snd.snd.snd.fst)],cB ((atR fs fn pc).snd)];(0<=fn/\fn < (fs.length:Int))/\∀(d:ByteArray×(o7.sl.pair Sh.unit).den),fs[fn.toNat]?=some d->br (decide (((List.length d.snd.fst):Int)<=pc)) (rT z1 [SV.agg [v6 0,v6 0,v6 0,v6 0,v6 0,v6 0,v6 0,v6 0],cB false]) ((0<=pc/\pc < ((List.length d.snd.fst):Int))/\∀(dJ:ID),d.snd.fst[pc.toNat]?=some dJ->rT z1 [SV.agg [v6 dJ.fst,v6 dJ.snd.fst,v6 dJ.snd.snd.fst,v6 dJ.snd.snd.snd.fst,v6 dJ.snd.snd.snd.snd.fst,v6 dJ.snd.snd.snd.snd.snd.fst,v6 dJ.snd.snd.snd.snd.snd.snd.fst,v6 dJ.snd.snd.snd.snd.snd.snd.snd.fst],cB true]):=by
 conv=>zeta
 delta v6 cB rT I6;obtain⟨h1,h2,h3⟩:0<=fn/\fn < (fs.length:Int)/\0<=pc:=aH;refine⟨⟨h1,h2⟩,λx hx=>?_⟩
 obtain⟨y,hy,ey⟩:=tN ⟨h1,h2⟩;rw[hx]at hy;cases hy;refine ah.2 ⟨λh=>?_,λh=>?_⟩
 .simp only[dV]at h;have e:atR fs fn pc=((0,0,0,0,0,0,0,0,()),false):=by
   unfold atR qp;rw[ey,wY (by omega)]
  rw[e];exact⟨rfl,rfl⟩
 .simp only[gG]at h;refine⟨⟨h3,by omega⟩,λi hi=>?_⟩
  have e:atR fs fn pc=(i,true):=by
   unfold atR qp;rw[ey,hi]
  rw[e];exact⟨rfl,rfl⟩
theorem BF:aW aU.gd 95 Sz:=
 eG (cx:=aU) (n:=25) (cl:=[]) (rc:=[]) aA trivial Tryz.func95 λd hd=>by
  obtain⟨⟨vs,ms,cs,fs,ts,⟨⟩⟩,⟨id,fn,pc,rg,st,ch,ph,su,fa,he,⟨⟩⟩,⟨⟩⟩:=d;exact aS (λ_=>none) (amH vs ms cs fs ts id fn pc rg st ch ph su fa he hd) (by kernel_rfl)
abbrev acz:CT:={ ps:=[dQ,.int .i64,.int .i64],pre:=λd=>True,res:=λd=>([],.one (.dat dQ (L6 d.1 d.2.1 d.2.2.1))) }
theorem ahD(id fn pc:Int) (rg:List Int) (st ch ph su fa:Int) (he:List Int) (s f:Int):
 rE (bg.one (SV.dat dQ (L6 (id,fn,pc,rg,st,ch,ph,su,fa,he,()) s f))) (bg.one (SV.dat dQ ((id,fn,pc,rg,st,ch,ph,s,f,he,())))):=by
 delta rE I6;exact⟨rfl,rfl⟩
theorem O8:aW aU.gd 148 acz:=
 eG (cx:=aU) (n:=12) (cl:=[]) (rc:=[.data dQ]) aA trivial Tryz.func148 λd hd=>by
  obtain⟨⟨id,fn,pc,rg,st,ch,ph,su,fa,he,⟨⟩⟩,s,f,⟨⟩⟩:=d;exact aS (λ_=>none) (ahD id fn pc rg st ch ph su fa he s f) (by kernel_rfl)
abbrev UU:CT:={ ps:=[dQ,o7],pre:=λd=>d.1.2.2.2.2.2.2.2.2.2.1.length<=1000000/\d.1.1<=9223372036854775807,res:=λd=>([],.one (.c (.v (.int .i64 (lN d.1.1 d.1.2.2.2.2.2.1 d.1.2.2.2.2.2.2.1 d.1.2.2.2.2.2.2.2.2.2.1 d.2.1))))) }
theorem ahE(id fn pc:Int) (rg:List Int) (st ch ph su fa:Int) (he:List Int) (op a b c obj n fo ord:Int) (aH:UU.pre ((id,fn,pc,rg,st,ch,ph,su,fa,he,()),(op,a,b,c,obj,n,fo,ord,()),())):
 let z3:=lN id ch ph he (op,a,b,c,obj,n,fo,ord,());let z2:=qI z3 (0:Int);let z1:=qI z3 (27:Int);br (!decide (ph=0)) z2 (br (decide (op=18)) (he.length<=1000000/\br (!gq he n) z1 z2) (br (decide (op=16)) (he.length<=1000000/\br (!gq he obj) z1 z2) (br (decide (op=21)) (id<=9223372036854775807/\br (!(dM id ch).snd) (qI z3 (28:Int)) z2) z2))):=by
 conv=>zeta
 delta qI;obtain⟨h1,h2⟩:he.length<=1000000/\id<=9223372036854775807:=aH;unfold lN;simp only[ah]
 repeat' (first | exact h1 | exact h2 | (refine And.intro ?_ ?_) | (intro _))
 all_goals first | rfl | (simp_all;done)
theorem O9:aW aU.gd 150 UU:=
 kL (cx:=aU) (n:=35) (cl:=[(165,JM),(89,UQ)]) aA ⟨Bf,UR,trivial⟩ Tryz.func150 λd hd=>by
  obtain⟨⟨id,fn,pc,rg,st,ch,ph,su,fa,he,⟨⟩⟩,⟨op,a,b,c,obj,n,fo,ord,⟨⟩⟩,⟨⟩⟩:=d;exact aS (λ_=>none) (ahE id fn pc rg st ch ph su fa he op a b c obj n fo ord hd) (by kernel_rfl)
theorem bY{c:Prop} [Decidable c] {A B:Prop}:br (decide c) A B↔(c->A)/\(¬c->B):=by
 rw[ah,dV,gG]
abbrev acA:CT:={ ps:=[dQ,o7],pre:=λd=>(0<=d.2.1.2.1/\d.2.1.2.1 < 8)/\(0<=d.2.1.2.2.1/\d.2.1.2.2.1 < 8)/\(0<=d.2.1.2.2.2.1/\d.2.1.2.2.2.1 < 8)/\0<=d.1.2.2.1/\d.1.2.2.1<=1000000,res:=λd=>([],.iR [.dat dQ (fU d.1 d.2.1).1,.c (.v (.bool (fU d.1 d.2.1).2))]) }
theorem ahF(id fn pc:Int) (rg:List Int) (st ch ph su fa:Int) (he:List Int) (op a b c obj n fo ord:Int) (aH:acA.pre ((id,fn,pc,rg,st,ch,ph,su,fa,he,()),(op,a,b,c,obj,n,fo,ord,()),())):
 let z5:=(id,fn,pc,rg,st,ch,ph,su,fa,he,());let z4:=fU z5 (op,a,b,c,obj,n,fo,ord,());let z3:=[SV.dat dQ z4.fst,cB (z4.snd)];let z1:=rT z3 [SV.dat dQ ((id,fn,pc+1,rg,st,ch,ph,su,fa,he,())),cB true];let z2:=rT z3 [SV.dat dQ ((id,fn,n,rg,st,ch,ph,su,fa,he,())),cB true];dX IntKind.i64 (pc+1)/\br (decide (op=1)) ((0<=a/\a < 8)/\a.toNat < 8/\rT z3 [SV.dat dQ ((id,fn,pc+1,rg.set a.toNat n,st,ch,ph,su,fa,he,())),cB true]) (br (decide (op=2)) ((0<=b/\b < 8)/\b.toNat < 8/\∀(d:Int),rg[b.toNat]?=some d->(0<=a/\a < 8)/\a.toNat < 8/\rT z3 [SV.dat dQ ((id,fn,pc+1,rg.set a.toNat d,st,ch,ph,su,fa,he,())),cB true]) (br (decide (op=3)) ((0<=b/\b < 8)/\b.toNat < 8/\∀(d:Int),rg[b.toNat]?=some d->(0<=c/\c < 8)/\c.toNat < 8/\∀(dJ:Int),rg[c.toNat]?=some dJ->True/\br (decide ((iG fo d dJ).snd=0)) ((0<=a/\a < 8)/\a.toNat < 8/\rT z3 [SV.dat dQ ((id,fn,pc+1,rg.set a.toNat (iG fo d dJ).fst,st,ch,ph,su,fa,he,())),cB true]) z1) (br (decide (op=5)) ((0<=b/\b < 8)/\b.toNat < 8/\∀(d:Int),rg[b.toNat]?=some d->br (decide (d=0)) z1 z2) (br (decide (op=4)) z2 (br (decide (op=6)) ((0<=b/\b < 8)/\b.toNat < 8/\∀(d:Int),rg[b.toNat]?=some d->br (decide (d=0)) (True/\rT z3 [SV.dat dQ (L6 z5 (3:Int) (26:Int)),cB false]) z1) (br (decide (op=7)) (True/\rT z3 [SV.dat dQ (L6 z5 (2:Int) (0:Int)),cB false]) z1)))))):=by
 conv=>zeta
 delta cB rT I6;obtain⟨hA,hB,hC,hp0,hp1⟩:(0<=a/\a < 8)/\(0<=b/\b < 8)/\(0<=c/\c < 8)/\0<=pc/\pc<=1000000:=aH;have hA8:a.toNat < 8:=by omega
 have hB8:b.toNat < 8:=by omega
 have hC8:c.toNat < 8:=by omega
 have gd:∀{x d:Int},rg[x.toNat]?=some d->rg.getD x.toNat 0=d:=λhd=>by rw[Jk,hd];rfl
 refine⟨ay.2 (by omega),bY.2 ⟨λh=>?_,λh=>bY.2 ⟨λh2=>?_,λh2=>bY.2 ⟨λh3=>?_,λh3=>bY.2 ⟨λh4=>?_,λh4=>bY.2 ⟨λh5=>?_,λh5=>bY.2 ⟨λh6=>?_,λh6=>bY.2 ⟨λh7=>?_,λh7=>?_⟩⟩⟩⟩⟩⟩⟩⟩
 .have e:fU (id,fn,pc,rg,st,ch,ph,su,fa,he,()) (op,a,b,c,obj,n,fo,ord,())=((id,fn,pc+1,rg.set a.toNat n,st,ch,ph,su,fa,he,()),true):=by simp only[fU,if_pos h]
  rw[e];exact⟨hA,hA8,rfl,rfl⟩
 .refine⟨hB,hB8,λd hd=>?_⟩
  have e:fU (id,fn,pc,rg,st,ch,ph,su,fa,he,()) (op,a,b,c,obj,n,fo,ord,())=((id,fn,pc+1,rg.set a.toNat d,st,ch,ph,su,fa,he,()),true):=by simp only[fU,if_neg h,if_pos h2,gd hd]
  rw[e];exact⟨hA,hA8,rfl,rfl⟩
 .refine⟨hB,hB8,λd hd=>⟨hC,hC8,λd1 hd1=>⟨trivial,bY.2 ⟨λh8=>?_,λh8=>?_⟩⟩⟩⟩
  .have e:fU (id,fn,pc,rg,st,ch,ph,su,fa,he,()) (op,a,b,c,obj,n,fo,ord,())=((id,fn,pc+1,rg.set a.toNat (iG fo d d1).1,st,ch,ph,su,fa,he,()),true):=by simp only[fU,if_neg h,if_neg h2,if_pos h3,gd hd,gd hd1,if_pos h8]
   rw[e];exact⟨hA,hA8,rfl,rfl⟩
  .have e:fU (id,fn,pc,rg,st,ch,ph,su,fa,he,()) (op,a,b,c,obj,n,fo,ord,())=((id,fn,pc+1,rg,st,ch,ph,su,fa,he,()),true):=by simp only[fU,if_neg h,if_neg h2,if_pos h3,gd hd,gd hd1,if_neg h8]
   rw[e];exact⟨rfl,rfl⟩
 .have h45:¬op=4:=by omega
  refine⟨hB,hB8,λd hd=>bY.2 ⟨λh8=>?_,λh8=>?_⟩⟩
  .have e:fU (id,fn,pc,rg,st,ch,ph,su,fa,he,()) (op,a,b,c,obj,n,fo,ord,())=((id,fn,pc+1,rg,st,ch,ph,su,fa,he,()),true):=by simp only[fU,if_neg h,if_neg h2,if_neg h3,if_neg h45,if_pos h4,gd hd,if_pos h8]
   rw[e];exact⟨rfl,rfl⟩
  .have e:fU (id,fn,pc,rg,st,ch,ph,su,fa,he,()) (op,a,b,c,obj,n,fo,ord,())=((id,fn,n,rg,st,ch,ph,su,fa,he,()),true):=by simp only[fU,if_neg h,if_neg h2,if_neg h3,if_neg h45,if_pos h4,gd hd,if_neg h8]
   rw[e];exact⟨rfl,rfl⟩
 .have e:fU (id,fn,pc,rg,st,ch,ph,su,fa,he,()) (op,a,b,c,obj,n,fo,ord,())=((id,fn,n,rg,st,ch,ph,su,fa,he,()),true):=by simp only[fU,if_neg h,if_neg h2,if_neg h3,if_pos h5]
  rw[e];exact⟨rfl,rfl⟩
 .refine⟨hB,hB8,λd hd=>bY.2 ⟨λh8=>?_,λh8=>?_⟩⟩
  .have e:fU (id,fn,pc,rg,st,ch,ph,su,fa,he,()) (op,a,b,c,obj,n,fo,ord,())=((id,fn,pc,rg,st,ch,ph,3,26,he,()),false):=by simp only[fU,if_neg h,if_neg h2,if_neg h3,if_neg h5,if_neg h4,gd hd];rw[if_pos ⟨h6,h8⟩]
   rw[e];exact⟨trivial,rfl,rfl⟩
  .have h67:¬op=7:=by omega
   have e:fU (id,fn,pc,rg,st,ch,ph,su,fa,he,()) (op,a,b,c,obj,n,fo,ord,())=((id,fn,pc+1,rg,st,ch,ph,su,fa,he,()),true):=by simp only[fU,if_neg h,if_neg h2,if_neg h3,if_neg h5,if_neg h4,gd hd,if_neg h67];rw[if_neg λq=>h8 q.2]
   rw[e];exact⟨rfl,rfl⟩
 .have e:fU (id,fn,pc,rg,st,ch,ph,su,fa,he,()) (op,a,b,c,obj,n,fo,ord,())=((id,fn,pc,rg,st,ch,ph,2,0,he,()),false):=by simp only[fU,if_neg h,if_neg h2,if_neg h3,if_neg h5,if_neg h4,if_pos h7];rw[if_neg λq=>h6 q.1]
  rw[e];exact⟨trivial,rfl,rfl⟩
 .have e:fU (id,fn,pc,rg,st,ch,ph,su,fa,he,()) (op,a,b,c,obj,n,fo,ord,())=((id,fn,pc+1,rg,st,ch,ph,su,fa,he,()),true):=by simp only[fU,if_neg h,if_neg h2,if_neg h3,if_neg h5,if_neg h4,if_neg h7];rw[if_neg λq=>h6 q.1]
  rw[e];exact⟨rfl,rfl⟩
theorem acB:aW aU.gd 151 acA:=
 eG (cx:=aU) (n:=87) (cl:=[(97,UO),(148,acz)]) (rc:=[.data dQ,.keep]) aA ⟨L9,O8,trivial⟩ Tryz.func151 λd hd=>by
  obtain⟨⟨id,fn,pc,rg,st,ch,ph,su,fa,he,⟨⟩⟩,⟨op,a,b,c,obj,n,fo,ord,⟨⟩⟩,⟨⟩⟩:=d;exact aS (λ_=>none) (ahF id fn pc rg st ch ph su fa he op a b c obj n fo ord hd) (by kernel_rfl)
abbrev vJ:CT:={ ps:=[tK,.int .i64],pre:=λd=>bnd (d.1,()),res:=λd=>([],.one (.c (.v (.int .i64 (dI (aF d.1.1 d.1.2.1 d.1.2.2.1 d.1.2.2.2.1 d.1.2.2.2.2.1).1 d.2.1))))) }
theorem amI(vs:List VD) (ms cs:List ByteArray) (fs:List FD) (ts:List SD) (bound:Int) (aH:vJ.pre ((vs,ms,cs,fs,ts,()),bound,())):
 let z2:=aF vs ms cs fs ts;let z1:=dI z2.fst bound;(vs.length<=1000000/\ms.length<=1000000/\cs.length<=1000000/\fs.length<=1000000/\ts.length<=1000000/\(∀(x:ByteArray×(o7.sl.pair Sh.unit).den),x∈fs->List.length x.snd.fst<=1000000)/\(dR fs).length<=1000000)/\br (!decide (z2.fst=0)) (qI z1 (z2.fst)) (br (decide (bound < 1) || decide (32 < bound)) (qI z1 (2:Int)) (qI z1 (0:Int))):=by
 conv=>zeta
 delta qI I6;have hb:bnd ((vs,ms,cs,fs,ts,()),()):=aH;refine⟨hb,ah.2 ⟨λh=>?_,λh=>ah.2 ⟨λh2=>?_,λh2=>?_⟩⟩⟩
 .have h:(aF vs ms cs fs ts).1≠0:=by simpa using h
  unfold dI;rw[if_pos h];exact⟨rfl,rfl⟩
 .have h:¬(aF vs ms cs fs ts).1≠0:=by simpa using h
  have h2:bound < 1\/32 < bound:=by simpa using h2
  unfold dI;rw[if_neg h,if_pos h2];exact⟨rfl,rfl⟩
 .have h:¬(aF vs ms cs fs ts).1≠0:=by simpa using h
  have h2:¬(bound < 1\/32 < bound):=by simp only[oI,gG]at h2;omega
  unfold dI;rw[if_neg h,if_neg h2];exact⟨rfl,rfl⟩
theorem Md:aW aU.gd 75 vJ:=
 kL (cx:=aU) (n:=23) (cl:=[(74,JU)]) aA ⟨ER,trivial⟩ Tryz.func75 λd hd=>by
  obtain⟨⟨vs,ms,cs,fs,ts,⟨⟩⟩,bound,⟨⟩⟩:=d;exact aS (λ_=>none) (amI vs ms cs fs ts bound hd) (by kernel_rfl)
open Classical in
theorem qU:nG ms fs bound t=true↔dF ms fs bound t:=by
 unfold nG;rw[Ym]
theorem Jd(h:¬dF ms fs bound t):nG ms fs bound t=false:=A87.2 λq=>h (qU.1 q)
open Classical in
theorem pY:wQ ms fs bound t=true↔vW ms fs bound t:=by
 unfold wQ;rw[Ym]
theorem SA(h:¬vW ms fs bound t):wQ ms fs bound t=false:=A87.2 λq=>h (pY.1 q)
abbrev acC:CT:={ ps:=[tK,.int .i64,dQ],pre:=λd=>True/\d.2.2.1.2.2.2.2.2.2.2.2.2.1.length<=1000000/\d.2.2.1.1<=9223372036854775807/\d.2.2.1.2.2.2.1.length=8,res:=λd=>([],vB (nG d.1.2.1 d.1.2.2.2.1 d.2.1 d.2.2.1)) }
abbrev amJ(vs:List VD) (ms cs:List ByteArray) (fs:List FD) (ts:List SD) (bound id fn pc:Int) (rg:List Int) (st ch ph su fa:Int) (he:List Int):Nat->Option (St->kH):=λk=>match k with
 | 5=>some λ_=>.inv { α:=Nat,slots:=λk=>[(52,.c (.v (.int .i64 k)))],res:=λ_=>[],inv:=λk=>k<=8/\∀j < k,∀r,rg[j]?=some r->dh r=true,meas:=λk=>8 - k }
 | 13=>some λ_=>.inv { α:=Nat,slots:=λk=>[(97,.c (.v (.int .i64 k)))],res:=λ_=>[],inv:=λk=>k<=he.length/\∀j < k,∀m,he[j]?=some m->0<=m/\m < ms.length,meas:=λk=>he.length - k }
 | _=>none
theorem ahG(vs:List VD) (ms cs:List ByteArray) (fs:List FD) (ts:List SD) (bound id fn pc:Int) (rg:List Int) (st ch ph su fa:Int) (he:List Int) (aH:acC.pre ((vs,ms,cs,fs,ts,()),bound,(id,fn,pc,rg,st,ch,ph,su,fa,he,()),())):
 let z3:=!(decide (bU id < 0) || decide (fn < 0) || decide ((fs.length:Int)<=fn) || decide (pc < 0));let z7:=(id,fn,pc,rg,st,ch,ph,su,fa,he,());let z6:=nG ms fs bound z7;let z5:=qB z6 false;let z4:=λ(x:Nat)=>(x<=8/\∀(j:Nat),j < x->∀(r:Int),rg[j]?=some r->dh r=true);let z1:=[g0 (au.blk 27 [SC.sl LU vs,SC.sl Sh.str ms,SC.sl Sh.str cs,SC.sl IG fs,SC.sl nD ts]),g0 (au.obj 56 dQ z7)];let z10:=λ(x:Nat)=>(x:Int)+(1:Int);let z2:=λ(x:Nat)=>(x<=he.length/\∀(j:Nat),j < x->∀(m:Int),he[j]?=some m->0<=m/\m < (ms.length:Int));let z8:=decide (ph=1) || decide (ph=2);let z9:=(atR fs fn pc).fst.fst=18;id<=9223372036854775807/\(z3=true->0<=fn/\fn < (fs.length:Int))/\∀(d:ByteArray×(o7.sl.pair Sh.unit).den),(z3=true->fs[fn.toNat]?=some d)->br (decide (bU id < 0) || decide (fn < 0) || decide ((fs.length:Int)<=fn) || decide (pc < 0) || decide (((List.length d.snd.fst):Int) < pc)) z5 ((∃x,(z4 x)/\(cI 0=cI (x:Int)/\True)/\sm z1)/\∀(x:Nat),(z4 x)->br (decide ((x:Int) < (8:Int))) ((0<=(x:Int)/\(x:Int) < (rg.length:Int))/\∀(d:Int),rg[(x:Int).toNat]?=some d->True/\br (!decide (bC d=d)) z5 (dX IntKind.i64 (z10 x)/\∃x',(z4 x')/\(cI (z10 x)=cI (x':Int)/\True)/\sm z1/\8 - x' < 8 - x)) (((!(decide (st < 0) || decide (bound < st) || decide (ch < 0) || decide (7 < ch) || decide (bU id=4) && !decide (ch=0)))=true->he.length<=1000000)/\br (decide (st < 0) || decide (bound < st) || decide (ch < 0) || decide (7 < ch) || decide (bU id=4) && !decide (ch=0) || !rH he) z5 ((∃x,(z2 x)/\(cI 0=cI (x:Int)/\True)/\sm z1)/\∀(x:Nat),(z2 x)->br (decide ((x:Int) < (he.length:Int))) ((0<=(x:Int)/\(x:Int) < (he.length:Int))/\∀(d:Int),he[(x:Int).toNat]?=some d->br (decide (d < 0) || decide ((ms.length:Int)<=d)) z5 (dX IntKind.i64 (z10 x)/\∃x',(z2 x')/\(cI (z10 x)=cI (x':Int)/\True)/\sm z1/\he.length - x' < he.length - x)) (br (decide (ph=0)) (qB z6 true) ((0<=fn/\fn < (fs.length:Int)/\0<=pc)/\((z8 && (atR fs fn pc).snd && decide z9)=true->he.length<=1000000)/\qB z6 (z8 && (atR fs fn pc).snd && decide z9 && !gq he (atR fs fn pc).fst.snd.snd.snd.snd.snd.fst)))))):=by
 conv=>zeta
 delta cI g0 qB sm I6;obtain⟨_,Je,hid,hrg⟩:True/\he.length<=1000000/\id<=9223372036854775807/\rg.length=8:=aH;have fF:¬dF ms fs bound (id,fn,pc,rg,st,ch,ph,su,fa,he,())->([]:List Go.mQ.au)=[]/\bg.one (SV.c (SC.v (Value.bool (nG ms fs bound (id,fn,pc,rg,st,ch,ph,su,fa,he,())))))=bg.one (SV.c (SC.v (Value.bool false))):=λq=>⟨rfl,by rw[Jd q]⟩
 refine⟨hid,λg=>by simp at g;omega,λx hx=>ah.2 ⟨λh=>?_,λh=>?_⟩⟩
 .refine fF λq=>?_
  obtain⟨q1,q2,q3,_⟩:=q;obtain⟨y,hy,ey⟩:=tN q2;have hx:=hx (by simp;omega)
  rw[hx]at hy;cases hy;rw[ey]at q3;simp at h;omega
 simp only[oI,gG]at h;obtain⟨⟨⟨⟨h1,h2⟩,h3⟩,h4⟩,h5⟩:=h;have hx:=hx (by simp;omega)
 have hfn:0<=fn/\fn < (fs.length:Int):=by omega
 obtain⟨y,hy,ey⟩:=tN hfn;rw[hx]at hy;cases hy;have hpc:0<=pc/\pc<=((codeF fs fn).length:Int):=by rw[ey];omega
 refine⟨⟨0,⟨by omega,λj hj=>by omega⟩,⟨rfl,trivial⟩,rfl⟩,λk hk=>ah.2 ⟨λh=>?_,λh=>?_⟩⟩
 .simp only[dV]at h;refine⟨by omega,λd hd=>⟨trivial,ah.2 ⟨λh6=>?_,λh6=>⟨ay.2 (by omega),k+1,⟨by omega,λj hj r hr=>?_⟩,⟨rfl,trivial⟩,rfl,by omega⟩⟩⟩⟩
  .refine fF λq=>?_
   have:=q.2.2.2.1 k (by omega) d hd
   unfold dh at this;have h6:¬bC d=d:=by simpa using h6
   exact h6 (Hu.2 (by simpa using this))
  .have h6:bC d=d:=by simpa using h6
   by_cases ji:j=k
   .subst ji;have hd:rg[j]?=some d:=hd;rw[hd]at hr;cases hr;unfold dh;exact Na (Hu.1 h6)
   .exact hk.2 j (by omega) r hr
 simp only[gG]at h;have hr:∀k < 8,∀r,rg[k]?=some r->dh r=true:=λj hj r hr=>hk.2 j (by omega) r hr
 refine⟨λ_=>Je,ah.2 ⟨λh7=>?_,λh7=>?_⟩⟩
 .refine fF λq=>?_
  obtain⟨_,_,_,_,q5,q6,q7,_⟩:=q;have e:rH he=true:=Na q7;rw[e]at h7;simp at h7;omega
 simp only[oI,Qi,zG,gG,dV]at h7;obtain⟨⟨⟨⟨⟨a1,a2⟩,a3⟩,a4⟩,a5⟩,a6⟩:=h7;have hss:SS he:=Qg a6;refine⟨⟨0,⟨by omega,λj hj=>by omega⟩,⟨rfl,trivial⟩,rfl⟩,λm hm=>ah.2 ⟨λh8=>?_,λh8=>?_⟩⟩
 .simp only[dV]at h8;refine⟨by omega,λd hd=>ah.2 ⟨λh9=>?_,λh9=>⟨ay.2 (by omega),m+1,⟨by omega,λj hj r hr=>?_⟩,⟨rfl,trivial⟩,rfl,by omega⟩⟩⟩
  .refine fF λq=>?_
   have:=q.2.2.2.2.2.2.2.1 d (iJ hd);simp at h9;omega
  .by_cases ji:j=m
   .subst ji;have hd:he[j]?=some d:=hd;rw[hd]at hr;cases hr;simp at h9;omega
   .exact hm.2 j (by omega) r hr
 simp only[gG]at h8;have hmm:∀m∈he,0<=m/\m < (ms.length:Int):=λy hy=>by
  obtain⟨j,hj⟩:=II hy;exact hm.2 j (by have:=(eU.1 hj).1;omega) y hj
 have base:(ph=0\/((ph=1\/ph=2)/\∃i,qp fs fn pc=some i/\i.1=18/\gq he i.2.2.2.2.2.1=false))↔dF ms fs bound (id,fn,pc,rg,st,ch,ph,su,fa,he,()):=
  ⟨λq=>⟨by omega,hfn,hpc,hr,by omega,⟨by omega,by omega,λe=>by omega⟩,hss,hmm,q⟩,λq=>q.2.2.2.2.2.2.2.2⟩
 have fB:∀b:Bool,(b=true↔(ph=0\/((ph=1\/ph=2)/\∃i,qp fs fn pc=some i/\i.1=18/\gq he i.2.2.2.2.2.1=false)))->bg.one (SV.c (SC.v (Value.bool (nG ms fs bound (id,fn,pc,rg,st,ch,ph,su,fa,he,())))))=bg.one (SV.c (SC.v (Value.bool b))):=λb hb=>by
  have:nG ms fs bound (id,fn,pc,rg,st,ch,ph,su,fa,he,())=b:=by
   rw[MZ,hb,base,qU]
  rw[this]
 refine ah.2 ⟨λh9=>⟨rfl,fB _ ?_⟩,λh9=>⟨⟨hfn.1,hfn.2,hpc.1⟩,λ_=>Je,rfl,fB _ ?_⟩⟩
 .simp at h9;simp[h9]
 .simp at h9;cases ha:qp fs fn pc with
  | none=>rw[show atR fs fn pc=((0,0,0,0,0,0,0,0,()),false) by unfold atR;rw[ha]];simp[h9]
  | some i=>rw[show atR fs fn pc=(i,true) by unfold atR;rw[ha]];simp[h9,and_assoc]
theorem acD:aW aU.gd 167 acC:=
 eG (cx:=aU) (n:=144) (cl:=[(76,O7),(77,H8),(192,ctV),(95,Sz),(165,JM)]) (rc:=[]) aA ⟨Mc,ET,O5,BF,Bf,trivial⟩ Tryz.func167 λd hd=>by
  obtain⟨⟨vs,ms,cs,fs,ts,⟨⟩⟩,bound,⟨id,fn,pc,rg,st,ch,ph,su,fa,he,⟨⟩⟩,⟨⟩⟩:=d;exact aS (amJ vs ms cs fs ts bound id fn pc rg st ch ph su fa he) (ahG vs ms cs fs ts bound id fn pc rg st ch ph su fa he hd) (by kernel_rfl)
abbrev Me:CT:={ ps:=[tK,.int .i64,dQ],pre:=λd=>(aF d.1.1 d.1.2.1 d.1.2.2.1 d.1.2.2.2.1 d.1.2.2.2.2.1).1=0/\d.2.2.1.2.2.2.2.2.2.2.2.2.1.length<=1000000/\d.2.2.1.1<=9223372036854775807/\d.2.2.1.2.2.2.1.length=8,res:=λd=>([],vB (wQ d.1.2.1 d.1.2.2.2.1 d.2.1 d.2.2.1)) }
theorem ahH(vs:List VD) (ms cs:List ByteArray) (fs:List FD) (ts:List SD) (bound id fn pc:Int) (rg:List Int) (st ch ph su fa:Int) (he:List Int) (aH:Me.pre ((vs,ms,cs,fs,ts,()),bound,(id,fn,pc,rg,st,ch,ph,su,fa,he,()),())):
 let z5:=(id,fn,pc,rg,st,ch,ph,su,fa,he,());let z4:=wQ ms fs bound z5;let z3:=qB z4 false;let z2:=((!(!decide (fa=0) || !(atR fs fn pc).snd))=true->True)/\((!(!decide (fa=0) || !(atR fs fn pc).snd || !ng (atR fs fn pc).fst.fst))=true->he.length<=1000000/\id<=9223372036854775807)/\br (!decide (fa=0) || !(atR fs fn pc).snd || !ng (atR fs fn pc).fst.fst || !decide (lN id ch ph he (atR fs fn pc).fst=0)) z3 (qB z4 (decide (su=1) && decide (st < bound) || decide (su=4) && decide (1<=st)));let z6:=(atR fs fn pc).fst.fst=6;let z1:=br (decide (su=2)) (qB z4 (decide (fa=0) && decide (ph=0) && (!(atR fs fn pc).snd || decide ((atR fs fn pc).fst.fst=7)))) (br (decide (su=3)) (br (!decide (ph=0) || !(atR fs fn pc).snd) z3 (br (decide (fa=26)) ((decide z6=true->0<=(atR fs fn pc).fst.snd.snd.fst/\(atR fs fn pc).fst.snd.snd.fst < 8)/\(decide z6=true->(atR fs fn pc).fst.snd.snd.fst.toNat < 8)/\∀(d:Int),(decide z6=true->rg[(atR fs fn pc).fst.snd.snd.fst.toNat]?=some d)->qB z4 (decide z6 && decide (d=0))) (br (decide (fa=29)) (True/\qB z4 (!ng (atR fs fn pc).fst.fst)) (((!decide (fa=0))=true->he.length<=1000000/\id<=9223372036854775807)/\qB z4 (!decide (fa=0) && decide (lN id ch ph he (atR fs fn pc).fst=fa)))))) z3);(True/\he.length<=1000000/\id<=9223372036854775807/\rg.length=8)/\br (!nG ms fs bound z5) z3 ((0<=fn/\fn < (fs.length:Int)/\0<=pc)/\br (decide (su=1)) (br (decide (su=1)) z2 z1) (br (decide (su=4)) z2 z1)):=by
 conv=>zeta
 delta qB;obtain⟨hc,Je,hid,hrg⟩:(aF vs ms cs fs ts).1=0/\he.length<=1000000/\id<=9223372036854775807/\rg.length=8:=aH;refine⟨⟨trivial,Je,hid,hrg⟩,ah.2 ⟨λh=>⟨rfl,?_⟩,λh=>?_⟩⟩
 .have:wQ ms fs bound (id,fn,pc,rg,st,ch,ph,su,fa,he,())=false:=SA λq=>by
   have e:=qU.2 q.1;rw[e]at h;cases h
  rw[this]
 have hF:dF ms fs bound (id,fn,pc,rg,st,ch,ph,su,fa,he,()):=by
  have e:nG ms fs bound (id,fn,pc,rg,st,ch,ph,su,fa,he,())=true:=by simpa using h
  exact qU.1 e
 have hfn:=hF.2.1;refine⟨⟨hfn.1,hfn.2,hF.2.2.1.1⟩,?_⟩;have W:∀b:Bool,(b=true↔(((su=1/\st < bound\/su=4/\1<=st)/\fa=0/\∃i,qp fs fn pc=some i/\ng i.1=true/\lN id ch ph he i=0) \/
  (su=2/\fa=0/\ph=0/\∀i,qp fs fn pc=some i->i.1=7) \/
  (su=3/\ph=0/\∃i,qp fs fn pc=some i/\(fa=26/\i.1=6/\rg.getD i.2.2.1.toNat 0=0\/fa=29/\ng i.1=false\/fa≠26/\fa≠29/\fa≠0/\lN id ch ph he i=fa)))) ->
   bg.one (SV.c (SC.v (Value.bool (wQ ms fs bound (id,fn,pc,rg,st,ch,ph,su,fa,he,())))))=bg.one (SV.c (SC.v (Value.bool b))):=λb hb=>by
  have:wQ ms fs bound (id,fn,pc,rg,st,ch,ph,su,fa,he,())=b:=by
   rw[MZ,hb,pY];exact⟨λq=>q.2,λq=>⟨hF,q⟩⟩
  rw[this]
 cases ha:qp fs fn pc with
 | none=>
   rw[show atR fs fn pc=((0,0,0,0,0,0,0,0,()),false) by unfold atR;rw[ha]]
   simp only[ah,ha]at W ⊢
   repeat' (first | exact Je | exact hid | (refine And.intro ?_ ?_) | (intro _))
   all_goals first | rfl | trivial | exact Je | exact hid | (refine W _ ?_;simp_all;done) | (simp_all;done)
 | some i=>
   rw[show atR fs fn pc=(i,true) by unfold atR;rw[ha]]
   obtain⟨r1,r2,r3,r4⟩:=ni (qR (D6 hc hfn ha)).1;have rb8:i.2.2.1.toNat < 8:=by omega
   have gd:∀{x d:Int},rg[x.toNat]?=some d->rg.getD x.toNat 0=d:=λhd=>by rw[Jk,hd];rfl
   simp only[ah,ha]at W ⊢
   repeat' (first | exact Je | exact hid | exact r2.1 | exact r2.2 | exact rb8 | (refine And.intro ?_ ?_) | (intro _))
   all_goals first | rfl | trivial | exact Je | exact hid | exact r2.1 | exact r2.2 | exact rb8 | (refine W _ ?_;simp_all;done) | (refine W _ ?_;clear W;simp_all;grind) | skip
theorem Pe:aW aU.gd 108 Me:=
 eG (cx:=aU) (n:=123) (cl:=[(167,acC),(95,Sz),(149,acr),(150,UU)]) (rc:=[]) aA ⟨acD,BF,O4,O9,trivial⟩ Tryz.func108 λd hd=>by
  obtain⟨⟨vs,ms,cs,fs,ts,⟨⟩⟩,bound,⟨id,fn,pc,rg,st,ch,ph,su,fa,he,⟨⟩⟩,⟨⟩⟩:=d;exact aS (λ_=>none) (ahH vs ms cs fs ts bound id fn pc rg st ch ph su fa he hd) (by kernel_rfl)
theorem acE(h:(Ht vs ms cs fs).1=0):dL fs < 0:=by
 unfold Ht at h;split at h
 .rename_i d hd;have hp:=Nk hd;split at h
  .cases h
  .rename_i h1;simp only[Ee,dV]at hp;rcases hp with hp | hp
   .exact absurd hp h1
   .exact absurd h hp
 .split at h
  .cases h
  .omega
theorem acF(h:dL fs < 0):∀f∈fs,f.2.1.length<=64:=by
 unfold dL at h;split at h
 .omega
 .rename_i hn;rw[A71]at hn;intro f hf;simpa using hn f hf
theorem Ib(h:(aF vs ms cs fs ts).1=0){fn:Int} (hf:0<=fn/\fn < fs.length):(codeF fs fn).length<=64:=by
 obtain⟨x,hx,ex⟩:=tN hf;rw[ex];exact acF (acE (kV h).2.1) x (iJ hx)
theorem acG{fn:Int} (h:qp fs fn pc=none) (k:Nat):eH fs bound k (id,fn,pc,rg,st,ch,ph,su,fa,he,u)=(id,fn,pc,rg,st,ch,ph,2,0,he,()):=by
 cases k<;>(rw[eH];unfold topS;simp only[h])
theorem UW{fn:Int} (h:qp fs fn pc=some i) (hv:ng i.1=true) (k:Nat):eH fs bound k (id,fn,pc,rg,st,ch,ph,su,fa,he,u) =
 if lN id ch ph he i≠0 then(id,fn,pc,rg,st,ch,ph,3,lN id ch ph he i,he,()) else if st=bound then(id,fn,pc,rg,st,ch,ph,4,0,he,()) else(id,fn,pc,rg,st,ch,ph,su,fa,he,()):=by
 cases k<;>(rw[eH];unfold topS;simp only[h];rw[if_pos hv])
theorem acH{fn:Int} (h:qp fs fn pc=some i) (hv:ng i.1=false):eH fs bound 0 (id,fn,pc,rg,st,ch,ph,su,fa,he,u)=(id,fn,pc,rg,st,ch,ph,3,29,he,()):=by
 rw[eH];unfold topS;simp only[h];rw[if_neg (by rw[hv];simp)];rfl
theorem acI{fn:Int} (h:qp fs fn pc=some i) (hv:ng i.1=false) (k:Nat):eH fs bound (k+1) (id,fn,pc,rg,st,ch,ph,su,fa,he,u) =
 if(fU (id,fn,pc,rg,st,ch,ph,su,fa,he,u) i).2=true then eH fs bound k (fU (id,fn,pc,rg,st,ch,ph,su,fa,he,u) i).1 else(fU (id,fn,pc,rg,st,ch,ph,su,fa,he,u) i).1:=by
 rw[eH];unfold topS;simp only[h];rw[if_neg (by rw[hv];simp)]
theorem MB(t:TD) (i:ID):(fU t i).1.2.2.2.1.length=t.2.2.2.1.length:=by
 obtain⟨id,fn,pc,rg,st,ch,ph,su,fa,hd,u⟩:=t;obtain⟨op,a,b,c,obj,n,f,ord,u2⟩:=i;unfold fU;simp only
 repeat' split
 all_goals simp
abbrev UY:CT:={ ps:=[tK,.int .i64,dQ],pre:=λd=>(aF d.1.1 d.1.2.1 d.1.2.2.1 d.1.2.2.2.1 d.1.2.2.2.2.1).1=0/\dF d.1.2.1 d.1.2.2.2.1 d.2.1 d.2.2.1/\d.2.2.1.2.2.2.2.2.2.2.2.2.1.length<=1000000/\d.2.2.1.1<=9223372036854775807/\d.2.2.1.2.2.2.1.length=8,res:=λd=>([],.one (.dat dQ (eH d.1.2.2.2.1 d.2.1 256 d.2.2.1))) }
abbrev apU(vs:List VD) (ms cs:List ByteArray) (fs:List FD) (ts:List SD) (bound id fn pc:Int) (rg:List Int) (st ch ph su fa:Int) (he:List Int):Nat->Option (St->kH):=λk=>match k with
 | 4=>some λ_=>.inv { α:=Nat×TD,slots:=λx=>[(7,.c (.v (.int .i64 x.1)))],res:=λx=>[(1,.obj 56 dQ x.2)],inv:=λx=>x.1<=256/\dF ms fs bound x.2/\x.2.2.2.2.2.2.2.2.2.2.1=he/\x.2.1=id/\x.2.2.2.2.1.length=8/\eH fs bound (256 - x.1) x.2=eH fs bound 256 (id,fn,pc,rg,st,ch,ph,su,fa,he,()),meas:=λx=>257 - x.1 }
 | _=>none
theorem amK(vs:List VD) (ms cs:List ByteArray) (fs:List FD) (ts:List SD) (bound id fn pc:Int) (rg:List Int) (st ch ph su fa:Int) (he:List Int) (aH:UY.pre ((vs,ms,cs,fs,ts,()),bound,(id,fn,pc,rg,st,ch,ph,su,fa,he,()),())):
 let z7:=(id,fn,pc,rg,st,ch,ph,su,fa,he,());let z2:=λ(x:Nat×TD)=>x.fst<=256/\dF ms fs bound x.snd/\x.snd.snd.snd.snd.snd.snd.snd.snd.snd.snd.fst=he/\x.snd.fst=id/\x.snd.snd.snd.snd.fst.length=8/\eH fs bound (256 - x.fst) x.snd=eH fs bound 256 z7;let z3:=[SC.sl LU vs,SC.sl Sh.str ms,SC.sl Sh.str cs,SC.sl IG fs,SC.sl nD ts];let z1:=λ(x:Nat×TD)=>[g0 (au.blk 27 z3),g0 (au.obj 56 dQ x.snd),g0 (au.obj 56 dQ ((0:Int),(0:Int),(0:Int),List.replicate 8 (0:Int),(0:Int),(0:Int),(0:Int),(0:Int),(0:Int),[],())),g0 au.gone];let z8:=λ(x:Nat×TD)=>atR fs x.snd.snd.fst x.snd.snd.snd.fst;let z5:=eH fs bound 256 z7;let z9:=bg.one (SV.dat dQ z5);let z6:=λ(x:Nat×TD)=>fU x.snd (z8 x).fst;let z4:=λ(x:Nat×TD)=>(z6 x).fst;he.length<=1000000/\(∃(x:Nat×TD),(z2 x)/\(cI 0=cI (x.fst:Int)/\True)/\[g0 (au.blk 27 z3),g0 (au.obj 56 dQ z7),g0 (au.obj 56 dQ ((0:Int),(0:Int),(0:Int),List.replicate 8 (0:Int),(0:Int),(0:Int),(0:Int),(0:Int),(0:Int),[],())),g0 au.gone]=(z1 x))/\∀(x:Nat×TD),x.fst<=256/\dF ms fs bound x.snd/\x.snd.snd.snd.snd.snd.snd.snd.snd.snd.snd.fst=he/\x.snd.fst=id/\x.snd.snd.snd.snd.fst.length=8/\eH fs bound (256 - x.fst) x.snd=eH fs bound 256 z7->(0<=x.snd.snd.fst/\x.snd.snd.fst < (fs.length:Int)/\0<=x.snd.snd.snd.fst)/\br (!(z8 x).snd) (True/\rE z9 (bg.one (SV.dat dQ (L6 x.snd (2:Int) (0:Int))))) (True/\br (ng (z8 x).fst.fst) ((List.length x.snd.snd.snd.snd.snd.snd.snd.snd.snd.snd.fst<=1000000/\x.snd.fst<=9223372036854775807)/\br (!decide (lN x.snd.fst x.snd.snd.snd.snd.snd.snd.fst x.snd.snd.snd.snd.snd.snd.snd.fst x.snd.snd.snd.snd.snd.snd.snd.snd.snd.snd.fst (z8 x).fst=0)) (True/\rE z9 (bg.one (SV.dat dQ (L6 x.snd (3:Int) (lN x.snd.fst x.snd.snd.snd.snd.snd.snd.fst x.snd.snd.snd.snd.snd.snd.snd.fst x.snd.snd.snd.snd.snd.snd.snd.snd.snd.snd.fst (z8 x).fst))))) (br (decide (x.snd.snd.snd.snd.snd.fst=bound)) (True/\rE z9 (bg.one (SV.dat dQ (L6 x.snd (4:Int) (0:Int))))) (rE z9 (bg.one (SV.dat dQ (x.snd)))))) (br (decide ((x.fst:Int)=(256:Int))) (True/\rE z9 (bg.one (SV.dat dQ (L6 x.snd (3:Int) (29:Int))))) (((0<=(z8 x).fst.snd.fst/\(z8 x).fst.snd.fst < 8)/\(0<=(z8 x).fst.snd.snd.fst/\(z8 x).fst.snd.snd.fst < 8)/\(0<=(z8 x).fst.snd.snd.snd.fst/\(z8 x).fst.snd.snd.snd.fst < 8)/\0<=x.snd.snd.snd.fst/\x.snd.snd.snd.fst<=1000000)/\br (!(z6 x).snd) (rE z9 (bg.one (SV.dat dQ (z4 x)))) (dX IntKind.i64 ((x.fst:Int)+(1:Int))/\∃(x':Nat×TD),(z2 x')/\(cI ((x.fst:Int)+(1:Int))=cI (x'.fst:Int)/\True)/\[g0 (au.blk 27 z3),g0 (au.obj 56 dQ (z4 x)),g0 (au.obj 56 dQ ((0:Int),(0:Int),(0:Int),List.replicate 8 (0:Int),(0:Int),(0:Int),(0:Int),(0:Int),(0:Int),[],())),g0 au.gone]=(z1 x')/\257 - x'.fst < 257 - x.fst)))):=by
 conv=>zeta
 delta cI g0 rE I6;obtain⟨hc,hF,Je,hid,hrg⟩:(aF vs ms cs fs ts).1=0/\dF ms fs bound (id,fn,pc,rg,st,ch,ph,su,fa,he,())/\he.length<=1000000/\id<=9223372036854775807/\rg.length=8:=aH;refine⟨Je,⟨(0,(id,fn,pc,rg,st,ch,ph,su,fa,he,())),⟨by omega,hF,rfl,rfl,hrg,rfl⟩,⟨rfl,trivial⟩,rfl⟩,λx hx=>?_⟩
 obtain⟨k,id',fn',pc',Ye,st',ch',ph',su',fa',he',⟨⟩⟩:=x;obtain⟨x1,x2,x3,x4,x5,x6⟩:=hx;have x1:k<=256:=x1;have x3:he'=he:=x3;have x4:id'=id:=x4;have x5:Ye.length=8:=x5;have x6:eH fs bound (256 - k) (id',fn',pc',Ye,st',ch',ph',su',fa',he',())=eH fs bound 256 (id,fn,pc,rg,st,ch,ph,su,fa,he,()):=x6;have x2:dF ms fs bound (id',fn',pc',Ye,st',ch',ph',su',fa',he',()):=x2;subst x3;subst x4;rw[<-x6];have hfn:=x2.2.1;have hpc:=x2.2.2.1;refine⟨⟨hfn.1,hfn.2,hpc.1⟩,?_⟩;show br (!(atR fs fn' pc').2) _ _;cases ha:qp fs fn' pc' with
 | none=>
   rw[show atR fs fn' pc'=((0,0,0,0,0,0,0,0,()),false) by unfold atR;rw[ha]]
   refine ah.2 ⟨λ_=>⟨trivial,rfl,?_⟩,λq=>by simp at q⟩
   rw[acG ha];rfl
 | some i=>
   rw[show atR fs fn' pc'=(i,true) by unfold atR;rw[ha]]
   obtain⟨r1,r2,r3,r4⟩:=ni (qR (D6 hc hfn ha)).1;have h64:=Ib hc hfn;refine ah.2 ⟨λq=>by simp at q,λ_=>⟨trivial,ah.2 ⟨λhv=>?_,λhv=>?_⟩⟩⟩
   .have hv:ng i.1=true:=hv;rw[UW ha hv];refine⟨⟨Je,hid⟩,ah.2 ⟨λh1=>?_,λh1=>ah.2 ⟨λh2=>?_,λh2=>?_⟩⟩⟩
    .have h1:lN id' ch' ph' he' i≠0:=by simpa using h1
     rw[if_pos h1];exact⟨trivial,rfl,rfl⟩
    .have h1:¬lN id' ch' ph' he' i≠0:=by simpa using h1
     have h2:st'=bound:=by simpa using h2
     rw[if_neg h1,if_pos h2];exact⟨trivial,rfl,rfl⟩
    .have h1:¬lN id' ch' ph' he' i≠0:=by simpa using h1
     have h2:¬st'=bound:=by simpa using h2
     rw[if_neg h1,if_neg h2];exact⟨rfl,rfl⟩
   .have hv:ng i.1=false:=hv;refine ah.2 ⟨λh1=>?_,λh1=>?_⟩
    .have h1:k=256:=by
      have:(k:Int)=256:=by simpa using h1
      omega
     rw[h1,show 256 - 256=0 from rfl,acH ha hv]
     exact⟨trivial,rfl,rfl⟩
    .have h1:¬k=256:=by
      have:¬(k:Int)=256:=by simpa using h1
      omega
     obtain⟨m,hm⟩:∃m,256 - k=m+1:=⟨255 - k,by omega⟩
     rw[hm,acI ha hv];have hk:=Bv (id',fn',pc',Ye,st',ch',ph',su',fa',he',()) i;have hlen:=MB (id',fn',pc',Ye,st',ch',ph',su',fa',he',()) i;have hfo:=Hz hc x2 ha hv;refine⟨⟨r1,r2,r3,hpc.1,show pc'<=1000000 by omega⟩,ah.2 ⟨λh2=>?_,λh2=>⟨ay.2 (show(-9223372036854775808:Int)<=(k:Int)+1/\(k:Int)+1<=9223372036854775807 by omega),(k+1,(fU (id',fn',pc',Ye,st',ch',ph',su',fa',he',()) i).1),⟨show k+1<=256 by omega,hfo,hk.2.2.2.2.2.1,hk.1,hlen.trans x5,?_⟩,⟨rfl,trivial⟩,rfl,show 257 - (k+1) < 257 - k by omega⟩⟩⟩
     .have h2:¬(fU (id',fn',pc',Ye,st',ch',ph',su',fa',he',()) i).2=true:=by simpa using h2
      rw[if_neg h2];exact⟨rfl,rfl⟩
     .have h2:(fU (id',fn',pc',Ye,st',ch',ph',su',fa',he',()) i).2=true:=by simpa using h2
      show eH fs bound (256 - (k+1)) _=_;rw[if_pos h2,show 256 - (k+1)=m by omega]
theorem UZ:aW aU.gd 78 UY:=
 eG (cx:=aU) (n:=59) (cl:=[(58,xO),(95,Sz),(148,acz),(149,acr),(150,UU),(151,acA)]) (rc:=[.data dQ]) aA ⟨EN,BF,O8,O4,O9,acB,trivial⟩ Tryz.func78 λd hd=>by
  obtain⟨⟨vs,ms,cs,fs,ts,⟨⟩⟩,bound,⟨id,fn,pc,rg,st,ch,ph,su,fa,he,⟨⟩⟩,⟨⟩⟩:=d;exact aS (apU vs ms cs fs ts bound id fn pc rg st ch ph su fa he) (amK vs ms cs fs ts bound id fn pc rg st ch ph su fa he hd) (by kernel_rfl)
theorem val_wrap(n:Int):dh n=decide (bC n=n):=by
 unfold dh;rw[MZ,Ym,Ym,Hu]
theorem ajL(h:BX vs ms cs fs=0):ms.length<=4:=by
 unfold BX at h;split at h
 .cases h
 .omega
theorem uS(h:dF ms fs bound t) (hm:ms.length<=4):t.2.2.2.2.2.2.2.2.2.1.length<=4:=by
 obtain⟨id,fn,pc,rg,st,ch,ph,su,fa,he,u⟩:=t;exact qY (ab8 h.2.2.2.2.2.2.1 h.2.2.2.2.2.2.2.1) hm
theorem J3(h:dF ms fs bound t):t.1<=9223372036854775807:=by
 obtain⟨id,fn,pc,rg,st,ch,ph,su,fa,he,u⟩:=t;have:=lG h.1;show id<=9223372036854775807;omega
theorem U0(t:TD) (i:ID) (r:Int):(gI t i r).2.2.2.1.length=t.2.2.2.1.length:=by
 obtain⟨id,fn,pc,rg,st,ch,ph,su,fa,hd,u⟩:=t;have e:(if(nP i).2=true then rg.set (nP i).1.toNat r else rg).length=rg.length:=by split<;>simp
 unfold gI;simp only;split
 .split
  .exact e
  split
  .exact e
  .exact e
 .exact e
theorem acJ(h:rG i=0) (hd:(nP i).2=true):0<=(nP i).1/\(nP i).1 < 8:=by
 obtain⟨r1,_⟩:=ni h;unfold nP at hd ⊢;split at hd
 .cases hd
 .rename_i q;rw[if_neg q];exact r1
abbrev U1:CT:={ ps:=[tK,.int .i64,.int .i64,.int .i64,.int .i64],pre:=λd=>bnd (d.1,())/\d.2.2.1<=9223372036854775807,res:=λd=>([],.iR [.dat dQ (newS (aF d.1.1 d.1.2.1 d.1.2.2.1 d.1.2.2.2.1 d.1.2.2.2.2.1).1 d.1.2.2.2.1 d.2.1 d.2.2.1 d.2.2.2.1 d.2.2.2.2.1).1,.c (.v (.int .i64 (newS (aF d.1.1 d.1.2.1 d.1.2.2.1 d.1.2.2.2.1 d.1.2.2.2.2.1).1 d.1.2.2.2.1 d.2.1 d.2.2.1 d.2.2.2.1 d.2.2.2.2.1).2))]) }
abbrev kq1:=[SV.dat dQ (((0:Int),(0:Int),(0:Int),[(0:Int),(0:Int),(0:Int),(0:Int),(0:Int),(0:Int),(0:Int),(0:Int)],(0:Int),(0:Int),(0:Int),(0:Int),(0:Int),[],())),cI 2]
abbrev Yf:=[(0:Int),(0:Int),(0:Int),(0:Int),(0:Int),(0:Int),(0:Int),(0:Int)]
theorem amL(vs:List VD) (ms cs:List ByteArray) (fs:List FD) (ts:List SD) (bound id fn arg:Int) (aH:U1.pre ((vs,ms,cs,fs,ts,()),bound,id,fn,arg,())):
 let z4:=aF vs ms cs fs ts;let z3:=newS z4.fst fs bound id fn arg;let z2:=[SV.dat dQ z3.fst,cI (z3.snd)];let z1:=rT z2 kq1;(vs.length<=1000000/\ms.length<=1000000/\cs.length<=1000000/\fs.length<=1000000/\ts.length<=1000000/\(∀(x:ByteArray×(o7.sl.pair Sh.unit).den),x∈fs->List.length x.snd.fst<=1000000)/\(dR fs).length<=1000000)/\br (!decide (dI z4.fst bound=0)) (rT z2 [SV.dat dQ (((0:Int),(0:Int),(0:Int),Yf,(0:Int),(0:Int),(0:Int),(0:Int),(0:Int),[],())),cI (dI z4.fst bound)]) (id<=9223372036854775807/\br (decide (bU id < 0)) z1 (br (decide (fn < 0) || decide ((fs.length:Int)<=fn)) (rT z2 [SV.dat dQ (((0:Int),(0:Int),(0:Int),Yf,(0:Int),(0:Int),(0:Int),(0:Int),(0:Int),[],())),cI 11]) (True/\br (!decide (bC arg=arg)) z1 (((0:Int)<=(0:Int)/\(0:Int) < (8:Int))/\0 < 8/\(z4.fst=0/\dF ms fs bound (id,fn,(0:Int),Yf.set 0 arg,(0:Int),(0:Int),(0:Int),(1:Int),(0:Int),[],())/\0<=1000000/\id<=9223372036854775807/\(Yf.set 0 arg).length=8)/\rT z2 [SV.dat dQ (eH fs bound 256 (id,fn,(0:Int),Yf.set 0 arg,(0:Int),(0:Int),(0:Int),(1:Int),(0:Int),[],())),cI 0])))):=by
 conv=>zeta
 delta kq1 Yf cI rT I6;obtain⟨hb,hid⟩:bnd ((vs,ms,cs,fs,ts,()),())/\id<=9223372036854775807:=aH;refine⟨hb,ah.2 ⟨λh=>?_,λh=>⟨hid,ah.2 ⟨λh2=>?_,λh2=>ah.2 ⟨λh3=>?_,λh3=>⟨trivial,ah.2 ⟨λh4=>?_,λh4=>?_⟩⟩⟩⟩⟩⟩⟩
 .have h:dI (aF vs ms cs fs ts).1 bound≠0:=by simpa using h
  have e:newS (aF vs ms cs fs ts).1 fs bound id fn arg=(zT,dI (aF vs ms cs fs ts).1 bound):=by unfold newS;rw[if_pos h]
  rw[e];exact⟨rfl,rfl⟩
 all_goals have h:¬dI (aF vs ms cs fs ts).1 bound≠0:=by simpa using h
 .have h2:bU id < 0:=by simpa using h2
  have e:newS (aF vs ms cs fs ts).1 fs bound id fn arg=(zT,2):=by unfold newS;rw[if_neg h,if_pos h2]
  rw[e];exact⟨rfl,rfl⟩
 all_goals have h2:¬bU id < 0:=by simpa using h2
 .have h3:fn < 0\/(fs.length:Int)<=fn:=by simpa using h3
  have e:newS (aF vs ms cs fs ts).1 fs bound id fn arg=(zT,11):=by unfold newS;rw[if_neg h,if_neg h2,if_pos h3]
  rw[e];exact⟨rfl,rfl⟩
 all_goals have h3:¬(fn < 0\/(fs.length:Int)<=fn):=by simp only[oI,gG]at h3;omega
 .have h4:dh arg=false:=by rw[val_wrap];simpa using h4
  have e:newS (aF vs ms cs fs ts).1 fs bound id fn arg=(zT,2):=by unfold newS;rw[if_neg h,if_neg h2,if_neg h3,if_pos h4]
  rw[e];exact⟨rfl,rfl⟩
 .have h4:¬dh arg=false:=by rw[val_wrap];simpa using h4
  have e:newS (aF vs ms cs fs ts).1 fs bound id fn arg=(eH fs bound 256 (id,fn,0,[arg,0,0,0,0,0,0,0],0,0,0,1,0,[],()),0):=by unfold newS;rw[if_neg h,if_neg h2,if_neg h3,if_neg h4]
  have hs:=fJ.1 (IK.1 h);rw[e];exact⟨⟨by omega,by omega⟩,by omega,⟨hs.1,H7 ms hs.2.1 h2 h3 h4,by omega,hid,rfl⟩,rfl,rfl⟩
theorem U2:aW aU.gd 34 U1:=
 eG (cx:=aU) (n:=50) (cl:=[(75,vJ),(76,O7),(77,H8),(78,UY)]) (rc:=[.data dQ,.keep]) aA ⟨Md,Mc,ET,UZ,trivial⟩ Tryz.func34 λd hd=>by
  obtain⟨⟨vs,ms,cs,fs,ts,⟨⟩⟩,bound,id,fn,arg,⟨⟩⟩:=d;exact aS (λ_=>none) (amL vs ms cs fs ts bound id fn arg hd) (by kernel_rfl)
abbrev ahI:CT:={ ps:=[tK,.int .i64,dQ],pre:=λd=>bnd (d.1,())/\d.2.2.1.2.2.2.2.2.2.2.2.2.1.length<=1000000/\d.2.2.1.1<=9223372036854775807/\d.2.2.1.2.2.2.1.length=8,res:=λd=>([],vB (decide (dI (aF d.1.1 d.1.2.1 d.1.2.2.1 d.1.2.2.2.1 d.1.2.2.2.2.1).1 d.2.1=0) && wQ d.1.2.1 d.1.2.2.2.1 d.2.1 d.2.2.1)) }
theorem amM(vs:List VD) (ms cs:List ByteArray) (fs:List FD) (ts:List SD) (bound id fn pc:Int) (rg:List Int) (st ch ph su fa:Int) (he:List Int) (aH:ahI.pre ((vs,ms,cs,fs,ts,()),bound,(id,fn,pc,rg,st,ch,ph,su,fa,he,()),())):
 let z2:=dI (aF vs ms cs fs ts).fst bound=0;let z1:=decide z2 && wQ ms fs bound (id,fn,pc,rg,st,ch,ph,su,fa,he,());(vs.length<=1000000/\ms.length<=1000000/\cs.length<=1000000/\fs.length<=1000000/\ts.length<=1000000/\(∀(x:ByteArray×(o7.sl.pair Sh.unit).den),x∈fs->List.length x.snd.fst<=1000000)/\(dR fs).length<=1000000)/\(decide z2=true->(aF vs ms cs fs ts).fst=0/\he.length<=1000000/\id<=9223372036854775807/\rg.length=8)/\qB z1 z1:=by
 conv=>zeta
 delta qB I6;obtain⟨hb,Je,hid,hrg⟩:bnd ((vs,ms,cs,fs,ts,()),())/\he.length<=1000000/\id<=9223372036854775807/\rg.length=8:=aH;exact⟨hb,λh=>⟨(fJ.1 (Qg h)).1,Je,hid,hrg⟩,rfl,rfl⟩
theorem U3:aW aU.gd 85 ahI:=
 eG (cx:=aU) (n:=17) (cl:=[(75,vJ),(108,Me)]) (rc:=[]) aA ⟨Md,Pe,trivial⟩ Tryz.func85 λd hd=>by
  obtain⟨⟨vs,ms,cs,fs,ts,⟨⟩⟩,bound,⟨id,fn,pc,rg,st,ch,ph,su,fa,he,⟨⟩⟩,⟨⟩⟩:=d;exact aS (λ_=>none) (amM vs ms cs fs ts bound id fn pc rg st ch ph su fa he hd) (by kernel_rfl)
abbrev U4:CT:={ ps:=[tK,dQ],pre:=λd=>bnd (d.1,())/\d.2.1.2.2.2.2.2.2.2.2.2.1.length<=1000000/\d.2.1.1<=9223372036854775807/\d.2.1.2.2.2.1.length=8,res:=λd=>([],.iR [.agg [.v (.int .i64 ((dY (aF d.1.1 d.1.2.1 d.1.2.2.1 d.1.2.2.2.1 d.1.2.2.2.2.1).1 d.1.2.1 d.1.2.2.2.1 d.2.1).1).1),.v (.int .i64 ((dY (aF d.1.1 d.1.2.1 d.1.2.2.1 d.1.2.2.2.1 d.1.2.2.2.2.1).1 d.1.2.1 d.1.2.2.2.1 d.2.1).1).2.1),.v (.int .i64 ((dY (aF d.1.1 d.1.2.1 d.1.2.2.1 d.1.2.2.2.1 d.1.2.2.2.2.1).1 d.1.2.1 d.1.2.2.2.1 d.2.1).1).2.2.1),.v (.int .i64 ((dY (aF d.1.1 d.1.2.1 d.1.2.2.1 d.1.2.2.2.1 d.1.2.2.2.2.1).1 d.1.2.1 d.1.2.2.2.1 d.2.1).1).2.2.2.1),.v (.int .i64 ((dY (aF d.1.1 d.1.2.1 d.1.2.2.1 d.1.2.2.2.1 d.1.2.2.2.2.1).1 d.1.2.1 d.1.2.2.2.1 d.2.1).1).2.2.2.2.1),.v (.int .i64 ((dY (aF d.1.1 d.1.2.1 d.1.2.2.1 d.1.2.2.2.1 d.1.2.2.2.2.1).1 d.1.2.1 d.1.2.2.2.1 d.2.1).1).2.2.2.2.2.1),.v (.int .i64 ((dY (aF d.1.1 d.1.2.1 d.1.2.2.1 d.1.2.2.2.1 d.1.2.2.2.2.1).1 d.1.2.1 d.1.2.2.2.1 d.2.1).1).2.2.2.2.2.2.1),.v (.int .i64 ((dY (aF d.1.1 d.1.2.1 d.1.2.2.1 d.1.2.2.2.1 d.1.2.2.2.2.1).1 d.1.2.1 d.1.2.2.2.1 d.2.1).1).2.2.2.2.2.2.2.1)],.c (.v (.bool (dY (aF d.1.1 d.1.2.1 d.1.2.2.1 d.1.2.2.2.1 d.1.2.2.2.2.1).1 d.1.2.1 d.1.2.2.2.1 d.2.1).2))]) }
theorem amN(vs:List VD) (ms cs:List ByteArray) (fs:List FD) (ts:List SD) (id fn pc:Int) (rg:List Int) (st ch ph su fa:Int) (he:List Int) (aH:U4.pre ((vs,ms,cs,fs,ts,()),(id,fn,pc,rg,st,ch,ph,su,fa,he,()),())):
 let z3:=(id,fn,pc,rg,st,ch,ph,su,fa,he,());let z2:=dY (aF vs ms cs fs ts).fst ms fs z3;let z1:=[SV.agg [v6 (z2.fst.fst),v6 (z2.fst.snd.fst),v6 (z2.fst.snd.snd.fst),v6 (z2.fst.snd.snd.snd.fst),v6 (z2.fst.snd.snd.snd.snd.fst),v6 (z2.fst.snd.snd.snd.snd.snd.fst),v6 (z2.fst.snd.snd.snd.snd.snd.snd.fst),v6 (z2.fst.snd.snd.snd.snd.snd.snd.snd.fst)],cB (z2.snd)];((!!decide (su=1))=true->(vs.length<=1000000/\ms.length<=1000000/\cs.length<=1000000/\fs.length<=1000000/\ts.length<=1000000/\(∀(x:ByteArray×(o7.sl.pair Sh.unit).den),x∈fs->List.length x.snd.fst<=1000000)/\(dR fs).length<=1000000)/\he.length<=1000000/\id<=9223372036854775807/\rg.length=8)/\br (!decide (su=1) || !(decide (dI (aF vs ms cs fs ts).fst (32:Int)=(0:Int)) && wQ ms fs (32:Int) z3)) (rT z1 [SV.agg [v6 0,v6 0,v6 0,v6 0,v6 0,v6 0,v6 0,v6 0],cB false]) ((0<=fn/\fn < (fs.length:Int)/\0<=pc)/\rT z1 [SV.agg [v6 ((atR fs fn pc).fst.fst),v6 ((atR fs fn pc).fst.snd.fst),v6 ((atR fs fn pc).fst.snd.snd.fst),v6 ((atR fs fn pc).fst.snd.snd.snd.fst),v6 ((atR fs fn pc).fst.snd.snd.snd.snd.fst),v6 ((atR fs fn pc).fst.snd.snd.snd.snd.snd.fst),v6 ((atR fs fn pc).fst.snd.snd.snd.snd.snd.snd.fst),v6 ((atR fs fn pc).fst.snd.snd.snd.snd.snd.snd.snd.fst)],cB ((atR fs fn pc).snd)]):=by
 conv=>zeta
 delta v6 cB rT I6;obtain⟨hb,Je,hid,hrg⟩:bnd ((vs,ms,cs,fs,ts,()),())/\he.length<=1000000/\id<=9223372036854775807/\rg.length=8:=aH;have key:((aF vs ms cs fs ts).1=0/\su=1/\vW ms fs 32 (id,fn,pc,rg,st,ch,ph,su,fa,he,()))↔(!decide (su=1) || !(decide (dI (aF vs ms cs fs ts).1 32=0) && wQ ms fs 32 (id,fn,pc,rg,st,ch,ph,su,fa,he,())))=false:=by
  rw[oI,zG,zG,A8,Ym,Ym,fJ,pY];constructor
  .rintro⟨q1,q2,q3⟩;exact⟨q2,⟨q1,by omega,by omega⟩,q3⟩
  .rintro⟨q2,⟨q1,_⟩,q3⟩;exact⟨q1,q2,q3⟩
 refine⟨λ_=>⟨hb,Je,hid,hrg⟩,ah.2 ⟨λh=>?_,λh=>?_⟩⟩
 .have e:dY (aF vs ms cs fs ts).1 ms fs (id,fn,pc,rg,st,ch,ph,su,fa,he,())=((0,0,0,0,0,0,0,0,()),false):=by
   unfold dY;rw[if_neg];intro q;rw[key.1 q]at h;cases h
  rw[e];exact⟨rfl,rfl⟩
 .have q:=key.2 h;have e:dY (aF vs ms cs fs ts).1 ms fs (id,fn,pc,rg,st,ch,ph,su,fa,he,())=atR fs fn pc:=by
   unfold dY;rw[if_pos q]
  have hF:=q.2.2.1;rw[e];exact⟨⟨hF.2.1.1,hF.2.1.2,hF.2.2.1.1⟩,rfl,rfl⟩
theorem U5:aW aU.gd 45 U4:=
 eG (cx:=aU) (n:=21) (cl:=[(85,ahI),(95,Sz)]) (rc:=[]) aA ⟨U3,BF,trivial⟩ Tryz.func45 λd hd=>by
  obtain⟨⟨vs,ms,cs,fs,ts,⟨⟩⟩,⟨id,fn,pc,rg,st,ch,ph,su,fa,he,⟨⟩⟩,⟨⟩⟩:=d;exact aS (λ_=>none) (amN vs ms cs fs ts id fn pc rg st ch ph su fa he hd) (by kernel_rfl)
def vK:TD->Int->TD
 | (id,fn,pc,rg,st,ch,ph,su,fa,he,_),m=>if ph=0 then(id,fn,pc,rg,st,ch,1,su,fa,Bz he m,()) else if ph=1 then(id,fn,pc,rg,st,ch,2,su,fa,he,()) else(id,fn,pc+1,rg,st,ch,0,su,fa,zu he m,())
abbrev acK:CT:={ ps:=[dQ,.int .i64],pre:=λd=>d.1.2.2.2.2.2.2.2.2.2.1.length<=999999/\0<=d.1.2.2.1/\d.1.2.2.1<=1000000,res:=λd=>([],.one (.dat dQ (vK d.1 d.2.1))) }
theorem ahJ(id fn pc:Int) (rg:List Int) (st ch ph su fa:Int) (he:List Int) (m:Int) (aH:acK.pre ((id,fn,pc,rg,st,ch,ph,su,fa,he,()),m,())):
 let z1:=bg.one (SV.dat dQ (vK (id,fn,pc,rg,st,ch,ph,su,fa,he,()) m));br (decide (ph=0)) (he.length<=1000000/\rE z1 (bg.one (SV.dat dQ ((id,fn,pc,rg,st,ch,(1:Int),su,fa,oh (bT he) [m] false,()))))) (br (decide (ph=1)) (rE z1 (bg.one (SV.dat dQ ((id,fn,pc,rg,st,ch,(2:Int),su,fa,he,()))))) (he.length<=999999/\dX IntKind.i64 (pc+1)/\rE z1 (bg.one (SV.dat dQ ((id,fn,pc+1,rg,st,ch,(0:Int),su,fa,bT (he++[m]),())))))):=by
 conv=>zeta
 delta rE I6;obtain⟨Je,hp0,hp1⟩:he.length<=999999/\0<=pc/\pc<=1000000:=aH;refine ah.2 ⟨λh=>?_,λh=>ah.2 ⟨λh2=>?_,λh2=>?_⟩⟩
 .have h:ph=0:=by simpa using h
  have e:vK (id,fn,pc,rg,st,ch,ph,su,fa,he,()) m=(id,fn,pc,rg,st,ch,1,su,fa,Bz he m,()):=by simp only[vK];rw[if_pos h]
  rw[e];exact⟨by omega,rfl,rfl⟩
 .have h:¬ph=0:=by simpa using h
  have h2:ph=1:=by simpa using h2
  have e:vK (id,fn,pc,rg,st,ch,ph,su,fa,he,()) m=(id,fn,pc,rg,st,ch,2,su,fa,he,()):=by simp only[vK];rw[if_neg h,if_pos h2]
  rw[e];exact⟨rfl,rfl⟩
 .have h:¬ph=0:=by simpa using h
  have h2:¬ph=1:=by simpa using h2
  have e:vK (id,fn,pc,rg,st,ch,ph,su,fa,he,()) m=(id,fn,pc+1,rg,st,ch,0,su,fa,zu he m,()):=by simp only[vK];rw[if_neg h,if_neg h2]
  rw[e];exact⟨Je,ay.2 (by omega),rfl,rfl⟩
theorem acL:aW aU.gd 110 acK:=
 eG (cx:=aU) (n:=29) (cl:=[(112,O6),(111,OV)]) (rc:=[.data dQ]) aA ⟨Ia,Hq,trivial⟩ Tryz.func110 λd hd=>by
  obtain⟨⟨id,fn,pc,rg,st,ch,ph,su,fa,he,⟨⟩⟩,m,⟨⟩⟩:=d;exact aS (λ_=>none) (ahJ id fn pc rg st ch ph su fa he m hd) (by kernel_rfl)
abbrev acM:CT:={ ps:=[tK,.int .i64,dQ,.int .i64],pre:=λd=>bnd (d.1,())/\d.2.2.1.2.2.2.2.2.2.2.2.2.1.length<=1000000/\d.2.2.1.1<=9223372036854775807/\d.2.2.1.2.2.2.1.length=8,res:=λd=>([],.iR [.dat dQ (jY (aF d.1.1 d.1.2.1 d.1.2.2.1 d.1.2.2.2.1 d.1.2.2.2.2.1).1 d.1.2.1 d.1.2.2.2.1 d.2.1 d.2.2.1 d.2.2.2.1).1,.c (.v (.int .i64 (jY (aF d.1.1 d.1.2.1 d.1.2.2.1 d.1.2.2.2.1 d.1.2.2.2.2.1).1 d.1.2.1 d.1.2.2.2.1 d.2.1 d.2.2.1 d.2.2.2.1).2))]) }
theorem amO(vs:List VD) (ms cs:List ByteArray) (fs:List FD) (ts:List SD) (bound id fn pc:Int) (rg:List Int) (st ch ph su fa:Int) (he:List Int) (r:Int) (aH:acM.pre ((vs,ms,cs,fs,ts,()),bound,(id,fn,pc,rg,st,ch,ph,su,fa,he,()),r,())):
 let z30:=aF vs ms cs fs ts;let z21:=(id,fn,pc,rg,st,ch,ph,su,fa,he,());let zx:=jY z30.fst ms fs bound z21 r;let z5:=[SV.dat dQ zx.fst,cI (zx.snd)];let z29:=nP (atR fs fn pc).fst;let z24:=decide ((atR fs fn pc).fst.fst=18);let z22:=he.length<=999999/\0<=pc/\pc<=1000000;let z8:=vK (id,fn,pc,rg.set z29.fst.toNat r,st+1,ch,ph,su,fa,he,()) (atR fs fn pc).fst.snd.snd.snd.snd.snd.fst;let z25:=decide ((atR fs fn pc).fst.fst=17);let z13:=(id,fn,pc+1,rg.set z29.fst.toNat r,st+1,ch,ph,su,fa,he,());let z20:=rg.set z29.fst.toNat r;let z3:=dX IntKind.i64 (pc+1)/\(z30.fst=0/\dF ms fs bound z13/\he.length<=1000000/\id<=9223372036854775807/\z20.length=8)/\rT z5 [SV.dat dQ (eH fs bound 256 z13),cI 0];let z23:=[(atR fs fn pc).fst.snd.snd.snd.snd.fst];let yh:=he++z23;let z7:=(id,fn,pc+1,rg.set z29.fst.toNat r,st+1,ch,ph,su,fa,bT yh,());let z17:=bT yh;let z1:=he.length<=999999/\dX IntKind.i64 (pc+1)/\(z30.fst=0/\dF ms fs bound z7/\z17.length<=1000000/\id<=9223372036854775807/\z20.length=8)/\rT z5 [SV.dat dQ (eH fs bound 256 z7),cI 0];let z26:=decide ((atR fs fn pc).fst.fst=15);let z27:=decide ((atR fs fn pc).fst.fst=16);let z6:=(id,fn,pc+1,rg.set z29.fst.toNat r,st+1,ch,ph,su,fa,oh (bT he) z23 false,());let oH:=oh (bT he) z23 false;let z28:=decide ((atR fs fn pc).fst.fst=21);let z12:=(id,fn,pc+1,rg.set z29.fst.toNat r,st+1,ch+1,ph,su,fa,he,());let z11:=vK (id,fn,pc,rg,st+1,ch,ph,su,fa,he,()) (atR fs fn pc).fst.snd.snd.snd.snd.snd.fst;let SB:=(id,fn,pc+1,rg,st+1,ch,ph,su,fa,he,());let z4:=dX IntKind.i64 (pc+1)/\(z30.fst=0/\dF ms fs bound SB/\he.length<=1000000/\id<=9223372036854775807/\rg.length=8)/\rT z5 [SV.dat dQ (eH fs bound 256 SB),cI 0];let z10:=(id,fn,pc+1,rg,st+1,ch,ph,su,fa,bT yh,());let z2:=he.length<=999999/\dX IntKind.i64 (pc+1)/\(z30.fst=0/\dF ms fs bound z10/\z17.length<=1000000/\id<=9223372036854775807/\rg.length=8)/\rT z5 [SV.dat dQ (eH fs bound 256 z10),cI 0];let z9:=(id,fn,pc+1,rg,st+1,ch,ph,su,fa,oh (bT he) z23 false,());let Dn:=(id,fn,pc+1,rg,st+1,ch+1,ph,su,fa,he,());(vs.length<=1000000/\ms.length<=1000000/\cs.length<=1000000/\fs.length<=1000000/\ts.length<=1000000/\(∀(x:ByteArray×(o7.sl.pair Sh.unit).den),x∈fs->List.length x.snd.fst<=1000000)/\(dR fs).length<=1000000)/\br (!decide (dI z30.fst bound=0)) (rT z5 [SV.dat dQ (((0:Int),(0:Int),(0:Int),Yf,(0:Int),(0:Int),(0:Int),(0:Int),(0:Int),[],())),cI (dI z30.fst bound)]) ((z30.fst=0/\he.length<=1000000/\id<=9223372036854775807/\rg.length=8)/\br (!wQ ms fs bound z21) (rT z5 [SV.dat dQ (((0:Int),(0:Int),(0:Int),Yf,(0:Int),(0:Int),(0:Int),(0:Int),(0:Int),[],())),cI 1]) (br (!decide (su=1)) (rT z5 [SV.dat dQ (((0:Int),(0:Int),(0:Int),Yf,(0:Int),(0:Int),(0:Int),(0:Int),(0:Int),[],())),cI 30]) (True/\br (!decide (bC r=r)) (rT z5 kq1) ((0<=fn/\fn < (fs.length:Int)/\0<=pc)/\dX IntKind.i64 (st+1)/\True/\br z29.snd ((0<=z29.fst/\z29.fst < 8)/\z29.fst.toNat < 8/\br z24 (z22/\(z30.fst=0/\dF ms fs bound z8/\List.length z8.snd.snd.snd.snd.snd.snd.snd.snd.snd.fst<=1000000/\z8.fst<=9223372036854775807/\List.length z8.snd.snd.snd.fst=8)/\rT z5 [SV.dat dQ (eH fs bound 256 z8),cI 0]) (br z25 (br (decide (r=0)) z3 z1) (br z26 z1 (br z27 (he.length<=1000000/\dX IntKind.i64 (pc+1)/\(z30.fst=0/\dF ms fs bound z6/\oH.length<=1000000/\id<=9223372036854775807/\z20.length=8)/\rT z5 [SV.dat dQ (eH fs bound 256 z6),cI 0]) (br z28 (dX IntKind.i64 (ch+1)/\dX IntKind.i64 (pc+1)/\(z30.fst=0/\dF ms fs bound z12/\he.length<=1000000/\id<=9223372036854775807/\z20.length=8)/\rT z5 [SV.dat dQ (eH fs bound 256 z12),cI 0]) z3))))) (br z24 (z22/\(z30.fst=0/\dF ms fs bound z11/\List.length z11.snd.snd.snd.snd.snd.snd.snd.snd.snd.fst<=1000000/\z11.fst<=9223372036854775807/\List.length z11.snd.snd.snd.fst=8)/\rT z5 [SV.dat dQ (eH fs bound 256 z11),cI 0]) (br z25 (br (decide (r=0)) z4 z2) (br z26 z2 (br z27 (he.length<=1000000/\dX IntKind.i64 (pc+1)/\(z30.fst=0/\dF ms fs bound z9/\oH.length<=1000000/\id<=9223372036854775807/\rg.length=8)/\rT z5 [SV.dat dQ (eH fs bound 256 z9),cI 0]) (br z28 (dX IntKind.i64 (ch+1)/\dX IntKind.i64 (pc+1)/\(z30.fst=0/\dF ms fs bound Dn/\he.length<=1000000/\id<=9223372036854775807/\rg.length=8)/\rT z5 [SV.dat dQ (eH fs bound 256 Dn),cI 0]) z4))))))))):=by
 conv=>zeta
 delta Yf kq1 cI rT I6;obtain⟨hb,Je,hid,hrg⟩:bnd ((vs,ms,cs,fs,ts,()),())/\he.length<=1000000/\id<=9223372036854775807/\rg.length=8:=aH;refine⟨hb,ah.2 ⟨λh=>?_,λh=>?_⟩⟩
 .have h:dI (aF vs ms cs fs ts).1 bound≠0:=by simpa using h
  have e:jY (aF vs ms cs fs ts).1 ms fs bound (id,fn,pc,rg,st,ch,ph,su,fa,he,()) r=(zT,dI (aF vs ms cs fs ts).1 bound):=by unfold jY;rw[if_pos h]
  rw[e];exact⟨rfl,rfl⟩
 have h:¬dI (aF vs ms cs fs ts).1 bound≠0:=by simpa using h
 have hs:=fJ.1 (IK.1 h);refine⟨⟨hs.1,Je,hid,hrg⟩,ah.2 ⟨λh2=>?_,λh2=>?_⟩⟩
 .have h2:¬vW ms fs bound (id,fn,pc,rg,st,ch,ph,su,fa,he,()):=λq=>by rw[pY.2 q]at h2;cases h2
  have e:jY (aF vs ms cs fs ts).1 ms fs bound (id,fn,pc,rg,st,ch,ph,su,fa,he,()) r=(zT,1):=by unfold jY;rw[if_neg h,if_pos h2]
  rw[e];exact⟨rfl,rfl⟩
 have hV:vW ms fs bound (id,fn,pc,rg,st,ch,ph,su,fa,he,()):=pY.1 (by simpa using h2)
 have h2:¬¬vW ms fs bound (id,fn,pc,rg,st,ch,ph,su,fa,he,()):=λq=>q hV
 refine ah.2 ⟨λh3=>?_,λh3=>⟨trivial,ah.2 ⟨λh4=>?_,λh4=>?_⟩⟩⟩
 .have h3:su≠1:=by simpa using h3
  have e:jY (aF vs ms cs fs ts).1 ms fs bound (id,fn,pc,rg,st,ch,ph,su,fa,he,()) r=(zT,30):=by unfold jY;rw[if_neg h,if_neg h2,if_pos h3]
  rw[e];exact⟨rfl,rfl⟩
 all_goals
  have h1:su=1:=by simpa using h3
  have h3:¬su≠1:=λq=>q h1
 .have h4:dh r=false:=by rw[val_wrap];simpa using h4
  have e:jY (aF vs ms cs fs ts).1 ms fs bound (id,fn,pc,rg,st,ch,ph,su,fa,he,()) r=(zT,2):=by unfold jY;rw[if_neg h,if_neg h2,if_neg h3,if_pos h4]
  rw[e];exact⟨rfl,rfl⟩
 have hvr:dh r=true:=by rw[val_wrap];simpa using h4
 have h4:¬dh r=false:=by rw[hvr];simp
 obtain⟨f0,s0,i,ha,vi,oi⟩:=Dl hV h1;have ha:qp fs fn pc=some i:=ha;have s0:st < bound:=s0;have hF:dF ms fs bound (id,fn,pc,rg,st,ch,ph,su,fa,he,()):=hV.1;have hfn:=hF.2.1;have hpc:=hF.2.2.1;have hst:=hF.2.2.2.2.1;have hch:=hF.2.2.2.2.2.1;have h64:=Ib hs.1 hfn;have hci:=(qR (D6 hs.1 hfn ha)).1;have hm4:=ajL (kV hs.1).1;have h4e:he.length<=4:=uS hF hm4;have leaf:∀t':TD,t'=gI (id,fn,pc,rg,st,ch,ph,su,fa,he,()) i r->(((aF vs ms cs fs ts).1=0/\dF ms fs bound t'/\t'.2.2.2.2.2.2.2.2.2.1.length<=1000000/\t'.1<=9223372036854775807/\t'.2.2.2.1.length=8)/\([]:List Go.mQ.au)=[] /\
  bg.iR [SV.dat dQ (jY (aF vs ms cs fs ts).1 ms fs bound (id,fn,pc,rg,st,ch,ph,su,fa,he,()) r).1,SV.c (SC.v (Value.int .i64 (jY (aF vs ms cs fs ts).1 ms fs bound (id,fn,pc,rg,st,ch,ph,su,fa,he,()) r).2))]=bg.iR [SV.dat dQ (eH fs bound 256 t'),SV.c (SC.v (Value.int .i64 0))]):=by
  intro t' et;subst et;have hf:=H6 hs.1 hV h1 ha hvr;have e:jY (aF vs ms cs fs ts).1 ms fs bound (id,fn,pc,rg,st,ch,ph,su,fa,he,()) r=(eH fs bound 256 (gI (id,fn,pc,rg,st,ch,ph,su,fa,he,()) i r),0):=by
   unfold jY;rw[if_neg h,if_neg h2,if_neg h3,if_neg h4];show(eH fs bound 256 (gI (id,fn,pc,rg,st,ch,ph,su,fa,he,()) (atR fs fn pc).1 r),(0:Int))=_;rw[show atR fs fn pc=(i,true) by unfold atR;rw[ha]]
  rw[e];exact⟨⟨hs.1,hf,qY (uS hf hm4) (by omega),J3 hf,(U0 _ _ _).trans hrg⟩,rfl,rfl⟩
 rw[show atR fs fn pc=(i,true) by unfold atR;rw[ha]]
 dsimp only;have e9:he.length<=999999:=by omega
 have ep:dX .i64 (pc+1):=ay.2 (by omega)
 have ec:dX .i64 (ch+1):=ay.2 (by omega)
 refine⟨⟨hfn.1,hfn.2,hpc.1⟩,ay.2 (by omega),trivial,ah.2 ⟨λhd=>?_,λhd=>?_⟩⟩
 .have hr:=acJ hci hd;refine⟨hr,by omega,?_⟩
  refine bY.2 ⟨λq=>⟨⟨e9,hpc.1,show pc<=1000000 by omega⟩,leaf _ (by simp only[vK,gI,if_pos q,if_pos hd])⟩,λn18=>bY.2 ⟨λn17=>bY.2 ⟨λq=>⟨ep,leaf _ (by simp[gI,n17,hd,q])⟩,λq=>⟨e9,ep,leaf _ (by simp[gI,n17,hd,q,zu])⟩⟩,
   λn17=>bY.2 ⟨λq=>⟨e9,ep,leaf _ (by simp[gI,q,hd,zu])⟩,λn15=>bY.2 ⟨λq=>⟨Je,ep,leaf _ (by simp[gI,q,hd,Bz])⟩,λn16=>bY.2 ⟨λq=>⟨ec,ep,leaf _ (by simp[gI,q,hd])⟩,λn21=>⟨ep,leaf _ (by simp[gI,n18,n17,n15,n16,n21,hd])⟩⟩⟩⟩⟩⟩
 .refine bY.2 ⟨λq=>⟨⟨e9,hpc.1,show pc<=1000000 by omega⟩,leaf _ (by simp only[vK,gI,if_pos q,hd];simp)⟩,λn18=>bY.2 ⟨λn17=>bY.2 ⟨λq=>⟨ep,leaf _ (by simp[gI,n17,hd,q])⟩,λq=>⟨e9,ep,leaf _ (by simp[gI,n17,hd,q,zu])⟩⟩,
   λn17=>bY.2 ⟨λq=>⟨e9,ep,leaf _ (by simp[gI,q,hd,zu])⟩,λn15=>bY.2 ⟨λq=>⟨Je,ep,leaf _ (by simp[gI,q,hd,Bz])⟩,λn16=>bY.2 ⟨λq=>⟨ec,ep,leaf _ (by simp[gI,q,hd])⟩,λn21=>⟨ep,leaf _ (by simp[gI,n18,n17,n15,n16,n21,hd])⟩⟩⟩⟩⟩⟩
theorem ahK:aW aU.gd 51 acM:=
 eG (cx:=aU) (n:=103) (cl:=[(75,vJ),(108,Me),(77,H8),(95,Sz),(109,ajK),(78,UY),(110,acK),(111,OV),(112,O6)]) (rc:=[.data dQ,.keep]) aA ⟨Md,Pe,ET,BF,acs,UZ,acL,Hq,Ia,trivial⟩ Tryz.func51 λd hd=>by
  obtain⟨⟨vs,ms,cs,fs,ts,⟨⟩⟩,bound,⟨id,fn,pc,rg,st,ch,ph,su,fa,he,⟨⟩⟩,r,⟨⟩⟩:=d;exact aS (λ_=>none) (amO vs ms cs fs ts bound id fn pc rg st ch ph su fa he r hd) (by kernel_rfl)
open Classical in
def D7(a b:TD):Bool:=decide (a=b)
open Classical in
theorem xX{a b:TD}:D7 a b=true↔a=b:=by
 unfold D7;rw[Ym]
abbrev SE:CT:={ ps:=[dQ,dQ],pre:=λd=>d.1.2.2.2.2.2.2.2.2.2.1.length<=1000000,res:=λd=>([],vB (D7 d.1 d.2.1)) }
abbrev apV(id fn pc:Int) (rg:List Int) (st ch ph su fa:Int) (he:List Int) (id2 P6 pc2:Int) (P7:List Int) (st2 Nc MC MF fa2:Int) (he2:List Int):Nat->Option (St->kH):=λk=>match k with
 | 4=>some λ_=>.inv { α:=Nat,slots:=λk=>[(5,.c (.v (.int .i64 k)))],res:=λ_=>[],inv:=λk=>k<=he.length/\∀j < k,he[j]?=he2[j]?,meas:=λk=>he.length - k }
 | _=>none
theorem amP(id fn pc:Int) (rg:List Int) (st ch ph su fa:Int) (he:List Int) (id2 P6 pc2:Int) (P7:List Int) (st2 Nc MC MF fa2:Int) (he2:List Int) (aH:SE.pre ((id,fn,pc,rg,st,ch,ph,su,fa,he,()),(id2,P6,pc2,P7,st2,Nc,MC,MF,fa2,he2,()),())):
 let z6:=(id,fn,pc,rg,st,ch,ph,su,fa,he,());let z5:=(id2,P6,pc2,P7,st2,Nc,MC,MF,fa2,he2,());let z3:=D7 z6 z5;let z2:=qB z3 false;let z4:=λ(x:Nat)=>(x<=he.length/\∀(j:Nat),j < x->he[j]?=he2[j]?);let z1:=[g0 (au.obj 56 dQ z6),g0 (au.obj 56 dQ z5)];br (!decide ((he.length:Int)=(he2.length:Int))) z2 ((∃x,(z4 x)/\(cI 0=cI (x:Int)/\True)/\sm z1)/\∀(x:Nat),(z4 x)->br (decide ((x:Int) < (he.length:Int))) ((0<=(x:Int)/\(x:Int) < (he.length:Int))/\∀(d:Int),he[(x:Int).toNat]?=some d->(0<=(x:Int)/\(x:Int) < (he2.length:Int))/\∀(dJ:Int),he2[(x:Int).toNat]?=some dJ->br (!decide (d=dJ)) z2 (dX IntKind.i64 ((x:Int)+(1:Int))/\∃x',(z4 x')/\(cI ((x:Int)+(1:Int))=cI (x':Int)/\True)/\sm z1/\he.length - x' < he.length - x)) (br (!decide (id=id2) || !decide (fn=P6) || !decide (pc=pc2) || !decide (rg=P7) || !decide (st=st2)) z2 (qB z3 (decide (ch=Nc) && decide (ph=MC) && decide (su=MF) && decide (fa=fa2))))):=by
 conv=>zeta
 delta cI g0 qB sm I6;have hp:he.length<=1000000:=aH;have sF:¬(id,fn,pc,rg,st,ch,ph,su,fa,he,())=(id2,P6,pc2,P7,st2,Nc,MC,MF,fa2,he2,())->([]:List Go.mQ.au)=[]/\bg.one (SV.c (SC.v (Value.bool (D7 (id,fn,pc,rg,st,ch,ph,su,fa,he,()) (id2,P6,pc2,P7,st2,Nc,MC,MF,fa2,he2,())))))=bg.one (SV.c (SC.v (Value.bool false))):=λq=>⟨rfl,by rw[show D7 (id,fn,pc,rg,st,ch,ph,su,fa,he,()) (id2,P6,pc2,P7,st2,Nc,MC,MF,fa2,he2,())=false from A87.2 λh=>q (xX.1 h)]⟩
 refine ah.2 ⟨λh=>sF λq=>?_,λh=>?_⟩
 .have:=oV (λt:TD=>t.2.2.2.2.2.2.2.2.2.1.length) q
  simp at h;simp at this;omega
 have h:he.length=he2.length:=by simp at h;omega
 refine⟨⟨0,⟨by omega,λj hj=>by omega⟩,⟨rfl,trivial⟩,rfl⟩,λk hk=>ah.2 ⟨λh2=>?_,λh2=>?_⟩⟩
 .simp only[dV]at h2;refine⟨by omega,λd hd=>⟨by omega,λd1 hd1=>ah.2 ⟨λh3=>sF λq=>?_,λh3=>⟨ay.2 (by omega),k+1,⟨by omega,λj hj=>?_⟩,⟨rfl,trivial⟩,rfl,by omega⟩⟩⟩⟩
  .have:he=he2:=oV (λt:TD=>t.2.2.2.2.2.2.2.2.2.1) q
   rw[this,hd1]at hd;cases hd;simp at h3
  .have h3:d=d1:=by simpa using h3
   by_cases ji:j=k
   .subst ji;have a:he[j]?=some d:=hd;have b:he2[j]?=some d1:=hd1;rw[a,b,h3]
   .exact hk.2 j (by omega)
 simp only[gG]at h2;have hh:he=he2:=Ed λj=>by
  by_cases hj:j < k
  .exact hk.2 j hj
  .rw[wY (by omega),wY (by omega)]
 subst hh;refine ah.2 ⟨λh3=>sF λq=>?_,λh3=>⟨rfl,?_⟩⟩
 .simp only[VU]at q;obtain⟨q1,q2,q3,q4,q5,_⟩:=q;subst q1;subst q2;subst q3;subst q4;subst q5;simp at h3
 .simp only[oI,zG,dV]at h3;obtain⟨⟨⟨⟨e1,e2⟩,e3⟩,e4⟩,e5⟩:=h3;subst e1;subst e2;subst e3;subst e4;subst e5;have:D7 (id,fn,pc,rg,st,ch,ph,su,fa,he,()) (id,fn,pc,rg,st,Nc,MC,MF,fa2,he,())=(decide (ch=Nc) && decide (ph=MC) && decide (su=MF) && decide (fa=fa2)):=by
   rw[MZ,xX];simp[and_assoc]
  rw[this]
theorem ahL:aW aU.gd 38 SE:=
 eG (cx:=aU) (n:=90) (cl:=[]) (rc:=[]) aA trivial Tryz.func38 λd hd=>by
  obtain⟨⟨id,fn,pc,rg,st,ch,ph,su,fa,he,⟨⟩⟩,⟨id2,P6,pc2,P7,st2,Nc,MC,MF,fa2,he2,⟨⟩⟩,⟨⟩⟩:=d;exact aS (apV id fn pc rg st ch ph su fa he id2 P6 pc2 P7 st2 Nc MC MF fa2 he2) (amP id fn pc rg st ch ph su fa he id2 P6 pc2 P7 st2 Nc MC MF fa2 he2 hd) (by kernel_rfl)
theorem qc(h:(dM id ch).2=true):(dM id ch).1=8 * (id+1)+ch/\(0<=ch/\ch < 7)/\UL (dM id ch).1=(id,true)/\wP (dM id ch).1=wP id+1/\8<=(dM id ch).1/\wP (dM id ch).1<=4/\(dM id ch).1<=1000000/\(0<=wP id/\wP id<=4):=by
 unfold dM at h ⊢
 split at h
 .cases h
 rename_i q;rw[if_neg q];have q1:0<=bU id:=by omega
 have q2:bU id≠4:=by omega
 obtain⟨e1,e2⟩:=D5 q1 q2 (ch:=ch) (by omega) (by omega)
 have hl:=lG q1;have hr:=Hw id;refine⟨rfl,by omega,?_,?_,by simp only;omega,?_,by simp only;omega,?_⟩
 .unfold UL;rw[if_neg (by rw[e1];omega),e2]
 .unfold wP;rw[e1,if_neg (by omega),if_neg (by omega)]
 .unfold wP;rw[e1,if_neg (by omega)];omega
 .unfold wP;rw[if_neg (by omega)];omega
theorem top_len{rest:ID->TD} (hr:∀i,(rest i).2.2.2.1.length=t.2.2.2.1.length):(topS fs bound t rest).2.2.2.1.length=t.2.2.2.1.length:=by
 obtain⟨id,fn,pc,rg,st,ch,ph,su,fa,hd,u⟩:=t;unfold topS;simp only;split
 .rfl
 split
 .repeat' split
  all_goals rfl
 .exact hr _
theorem U6(fs:List FD) (bound:Int):∀(k:Nat) (t:TD),(eH fs bound k t).2.2.2.1.length=t.2.2.2.1.length:=by
 intro k
 induction k with
 | zero=>
   intro t;rw[eH];exact top_len λi=>rfl
 | succ k ih=>
   intro t;rw[eH];refine top_len λi=>?_
   split
   .exact(ih _).trans (MB t i)
   .exact MB t i
theorem acN{fn r:Int} (h:(newS (aF vs ms cs fs ts).1 fs bound id fn r).2=0):dI (aF vs ms cs fs ts).1 bound=0/\vW ms fs bound (newS (aF vs ms cs fs ts).1 fs bound id fn r).1/\(newS (aF vs ms cs fs ts).1 fs bound id fn r).1.2.2.2.1.length=8:=by
 unfold newS at h ⊢
 split at h
 .rename_i q;exact absurd h q
 split at h
 .cases h
 split at h
 .cases h
 split at h
 .cases h
 rename_i q1 q2 q3 q4;rw[if_neg q1,if_neg q2,if_neg q3,if_neg q4];have hs:=fJ.1 (IK.1 q1);exact⟨IK.1 q1,UN hs.1 hs.2.1 _ _ (H7 ms hs.2.1 q2 q3 q4) rfl rfl,U6 _ _ _ _⟩
theorem acO{r:Int} (hl:t.2.2.2.1.length=8) (h:(jY (aF vs ms cs fs ts).1 ms fs bound t r).2=0):dI (aF vs ms cs fs ts).1 bound=0/\vW ms fs bound (jY (aF vs ms cs fs ts).1 ms fs bound t r).1/\(jY (aF vs ms cs fs ts).1 ms fs bound t r).1.2.2.2.1.length=8 /\
 (jY (aF vs ms cs fs ts).1 ms fs bound t r).1.2.2.2.2.1=t.2.2.2.2.1+1/\(jY (aF vs ms cs fs ts).1 ms fs bound t r).1.1=t.1/\(jY (aF vs ms cs fs ts).1 ms fs bound t r).1.2.1=t.2.1/\(0<=t.2.2.2.2.1/\t.2.2.2.2.1 < 32):=by
 unfold jY at h ⊢
 split at h
 .rename_i q;exact absurd h q
 split at h
 .cases h
 split at h
 .cases h
 split at h
 .cases h
 rename_i q1 q2 q3 q4;rw[if_neg q1,if_neg q2,if_neg q3,if_neg q4];have hs:=fJ.1 (IK.1 q1);have hV:=IK.1 q2;have h1:t.2.2.2.2.2.2.2.1=1:=IK.1 q3;have hv:dh r=true:=by simpa using q4
 obtain⟨f0,s0,i,ha,vi,oi⟩:=Dl hV h1;have ea:(atR fs t.2.1 t.2.2.1).1=i:=by unfold atR;rw[ha]
 rw[ea];have hf:=H6 hs.1 hV h1 ha hv;have hk:=O1 t i r;have hk2:=wR fs bound 256 (gI t i r);refine⟨IK.1 q1,UN hs.1 hs.2.1 _ _ hf (hk.2.2.2.1.trans h1) (hk.2.2.2.2.trans f0),((U6 _ _ _ _).trans (U0 _ _ _)).trans hl,hk2.2.2.1.trans hk.2.2.1,hk2.1.trans hk.1,hk2.2.1.trans hk.2.1,?_⟩;obtain⟨id,fn,pc,rg,st,ch,ph,su,fa,he,u⟩:=t;have:=hV.1.2.2.2.2.1;have s0:st < bound:=s0;show 0<=st/\st < 32;have:0<=st/\st<=bound:=this;omega
theorem fK(h:vW ms fs bound t):dF ms fs bound t:=by
 obtain⟨id,fn,pc,rg,st,ch,ph,su,fa,he,u⟩:=t;exact h.1
theorem Dp(h:dF ms fs bound t):(0<=t.2.1/\t.2.1 < (fs.length:Int))/\0<=t.2.2.1:=by
 obtain⟨id,fn,pc,rg,st,ch,ph,su,fa,he,u⟩:=t;exact⟨h.2.1,h.2.2.1.1⟩
theorem acP{b c:Int} (hbc:b<=c) (h:vW ms fs b t):vW ms fs c t:=by
 obtain⟨id,fn,pc,rg,st,ch,ph,su,fa,he,u⟩:=t;obtain⟨⟨h1,h2,h3,h4,h5,h6⟩,q⟩:=h;refine⟨⟨h1,h2,h3,h4,⟨h5.1,Int.le_trans h5.2 hbc⟩,h6⟩,?_⟩;rcases q with⟨q1,q2⟩ | q
 .refine .inl ⟨?_,q2⟩;rcases q1 with⟨a,b'⟩ | q1
  .exact .inl ⟨a,Int.lt_of_lt_of_le b' hbc⟩
  .exact .inr q1
 .exact .inr q
theorem Pg(hs:dI (aF vs ms cs fs ts).1 bound=0) (h:vW ms fs bound t):t.2.2.2.2.2.2.2.2.2.1.length<=1000000/\t.1<=9223372036854775807:=by
 have hf:dF ms fs bound t:=by
  obtain⟨id,fn,pc,rg,st,ch,ph,su,fa,he,u⟩:=t;exact h.1
 exact⟨qY (uS hf (ajL (kV (fJ.1 hs).1).1)) (by omega),J3 hf⟩
end
end Go.Proofs.YtjhenjhcbcalpaaGreatDoor
