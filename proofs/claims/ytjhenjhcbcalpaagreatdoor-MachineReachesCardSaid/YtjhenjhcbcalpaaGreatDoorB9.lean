/- Part 9 of the proof. Conditions: the rows'. -/
import Derived.Test.YtjhenjhcbcalpaaGreatDoorB8
set_option linter.unusedSimpArgs false
set_option linter.unusedVariables false
set_option maxRecDepth 1000000
set_option maxHeartbeats 8000000
namespace Go.Proofs.YtjhenjhcbcalpaaGreatDoor
open Go Go.l9
noncomputable section
abbrev abp:CT:={ ps:=[.int .i64],pre:=λd=>True,res:=λd=>([],vB (je d.1)) }
theorem agj(op:Int):
 qB (je op) (decide (8<=op) && decide (op<=22)):=by
 delta qB;refine⟨rfl,?_⟩;rw[show je op=(decide (8<=op) && decide (op<=22)) by unfold je;rw[Gy];simp]
theorem abq:aU aS.gd 152 abp:=
 jW (cx:=aS) (n:=9) (cl:=[]) au trivial Tryz.func152 λd hd=>by
  obtain⟨op,⟨⟩⟩:=d;exact aP (λ_=>none) (agj op) (by kernel_rfl)
abbrev Ob:CT:={ ps:=[.int .i64],pre:=λd=>d.1<=9223372036854775807,res:=λd=>([],vB (decide (0<=aQ d.1))) }
abbrev aor(id:Int):Nat->Option (St->jK):=λk=>match k with
 | 2=>some λ_=>.inv { α:=Nat×Int,slots:=λx=>[(3,.c (.v (.int .i64 x.1))),(0,.c (.v (.int .i64 x.2)))],res:=λ_=>[],inv:=λx=>x.1<=5/\x.2<=9223372036854775807/\aQ id=if x.2 < 0 then -1 else dQ (5 - x.1) x.1 x.2,meas:=λx=>5 - x.1 }
 | _=>none
theorem alm(id:Int) (aG:Ob.pre (id,())):
 let z1:=λ(x:Nat×Int)=>x.fst<=5/\x.snd<=9223372036854775807/\aQ id=if x.snd < 0 then(-1:Int) else dQ (5 - x.fst) (x.fst:Int) x.snd;let z2:=qB (decide (0<=aQ id)) false;(∃(x:Nat×Int),(z1 x)/\(cI 0=cI (x.fst:Int)/\cI id=cI x.snd/\True)/\([]:List dP)=[])/\∀(x:Nat×Int),(z1 x)->br (decide ((x.fst:Int)<=(4:Int))) (br (decide (x.snd < 0)) z2 (br (decide (x.snd < 8)) (qB (decide (0<=aQ id)) true) ((8:Int)≠(0:Int)/\br (decide (7<=x.snd.tmod (8:Int))) z2 ((8:Int)≠(0:Int)/\iR (x.snd.tdiv (8:Int))/\iR (x.snd.tdiv (8:Int) - (1:Int))/\iR ((x.fst:Int)+(1:Int))/\∃(x':Nat×Int),(z1 x')/\(cI ((x.fst:Int)+(1:Int))=cI (x'.fst:Int)/\cI (x.snd.tdiv (8:Int) - (1:Int))=cI x'.snd/\True)/\([]:List dP)=[]/\5 - x'.fst < 5 - x.fst)))) z2:=by
 conv=>zeta
 delta dP cI qB iR;have hp:id<=9223372036854775807:=aG;refine⟨⟨(0,id),⟨by omega,hp,rfl⟩,⟨rfl,rfl,trivial⟩,rfl⟩,λx hx=>?_⟩
 obtain⟨k,v⟩:=x;obtain⟨x1,x2,x3⟩:=hx;have x1:k<=5:=x1;have x2:v<=9223372036854775807:=x2;have x3:aQ id=if v < 0 then -1 else dQ (5 - k) k v:=x3
 refine bC.2 ⟨λh=>bC.2 ⟨λh2=>?_,λh2=>bC.2 ⟨λh3=>?_,λh3=>⟨by decide,bC.2 ⟨λh4=>?_,λh4=>?_⟩⟩⟩⟩,λh=>?_⟩
 .have h2:v < 0:=h2;rw[if_pos h2]at x3;rw[x3];exact⟨rfl,rfl⟩
 all_goals first | (have h:k<=4:=by(have:(k:Int)<=4:=h);omega) | skip
 all_goals first | (have h2:¬v < 0:=h2) | skip
 .have h3:v < 8:=h3;rw[if_neg h2]at x3;obtain⟨m,hm⟩:∃m,5 - k=m+1:=⟨4 - k,by omega⟩
  rw[hm,dQ,if_pos h3]at x3;rw[x3,show decide ((0:Int)<=k)=true from xq (by omega)];exact⟨rfl,rfl⟩
 .have h3:¬v < 8:=h3;have h4:7<=v.tmod 8:=h4;rw[if_neg h2]at x3;obtain⟨m,hm⟩:∃m,5 - k=m+1:=⟨4 - k,by omega⟩
  rw[hm,dQ,if_neg h3,if_pos h4]at x3;rw[x3];exact⟨rfl,rfl⟩
 .have h3:¬v < 8:=h3;have h4:¬7<=v.tmod 8:=h4;rw[if_neg h2]at x3;obtain⟨m,hm⟩:∃m,5 - k=m+1:=⟨4 - k,by omega⟩
  rw[hm,dQ,if_neg h3,if_neg h4]at x3;have e:v.tdiv 8=v / 8:=A94 (by omega)
  refine⟨by decide,ay.2 (show(-9223372036854775808:Int)<=v.tdiv 8/\v.tdiv 8<=9223372036854775807 by omega),ay.2 (show(-9223372036854775808:Int)<=v.tdiv 8 - 1/\v.tdiv 8 - 1<=9223372036854775807 by omega),ay.2 (show(-9223372036854775808:Int)<=(k:Int)+1/\(k:Int)+1<=9223372036854775807 by omega),(k+1,v.tdiv 8 - 1),⟨show k+1<=5 by omega,show v.tdiv 8 - 1<=9223372036854775807 by omega,?_⟩,⟨rfl,rfl,trivial⟩,rfl,show 5 - (k+1) < 5 - k by omega⟩
  show aQ id=if v.tdiv 8 - 1 < 0 then -1 else dQ (5 - (k+1)) ((k+1:Nat):Int) (v.tdiv 8 - 1)
  rw[if_neg (by omega),x3,show 5 - (k+1)=m by omega];rfl
 .have h:¬k<=4:=by
   have:¬(k:Int)<=4:=h;omega
  rw[show 5 - k=0 by omega]at x3
  have:aQ id = -1:=by rw[x3];split<;>rfl
  rw[this];exact⟨rfl,rfl⟩
theorem KN:aU aS.gd 80 Ob:=
 jW (cx:=aS) (n:=18) (cl:=[]) au trivial Tryz.func80 λd hd=>by
  obtain⟨id,⟨⟩⟩:=d;exact aP (aor id) (alm id hd) (by kernel_rfl)
abbrev TV:CT:={ ps:=[.int .i64],pre:=λd=>d.1<=9223372036854775807,res:=λd=>([],.one (.c (.v (.int .i64 (iE d.1))))) }
abbrev aln(id:Int):Nat->Option (St->jK):=λk=>match k with
 | 4=>some λ_=>.inv { α:=Nat×Int,slots:=λx=>[(3,.c (.v (.int .i64 x.1))),(0,.c (.v (.int .i64 x.2)))],res:=λ_=>[],inv:=λx=>x.1<=4/\0<=x.2/\x.2<=9223372036854775807/\0<=aQ id/\dQ (5 - x.1) x.1 x.2=aQ id,meas:=λx=>x.2.toNat }
 | _=>none
theorem agk(id:Int) (aG:TV.pre (id,())):
 let z1:=λ(x:Nat×Int)=>x.fst<=4/\0<=x.snd/\x.snd<=9223372036854775807/\0<=aQ id/\dQ (5 - x.fst) (x.fst:Int) x.snd=aQ id;id<=9223372036854775807/\br (!decide (0<=aQ id)) (qI (iE id) (0:Int)) ((∃(x:Nat×Int),(z1 x)/\(cI 0=cI (x.fst:Int)/\cI id=cI x.snd/\True)/\([]:List dP)=[])/\∀(x:Nat×Int),x.fst<=4/\0<=x.snd/\x.snd<=9223372036854775807/\0<=aQ id/\dQ (5 - x.fst) (x.fst:Int) x.snd=aQ id->br (decide (8<=x.snd)) ((8:Int)≠(0:Int)/\iR (x.snd.tdiv (8:Int))/\iR (x.snd.tdiv (8:Int) - (1:Int))/\iR ((x.fst:Int)+(1:Int))/\∃(x':Nat×Int),(z1 x')/\(cI ((x.fst:Int)+(1:Int))=cI (x'.fst:Int)/\cI (x.snd.tdiv (8:Int) - (1:Int))=cI x'.snd/\True)/\([]:List dP)=[]/\x'.snd.toNat < x.snd.toNat) (qI (iE id) (x.fst:Int))):=by
 conv=>zeta
 delta dP cI qI iR;have hp:id<=9223372036854775807:=aG;refine⟨hp,ah.2 ⟨λh=>?_,λh=>?_⟩⟩
 .have h:¬0<=aQ id:=by simpa using h
  have e:iE id=0:=by unfold iE;rw[if_pos (by omega)]
  rw[e];exact⟨rfl,rfl⟩
 have h:0<=aQ id:=by simpa using h
 have hl:=jX h;have em:iE id=aQ id:=by unfold iE;rw[if_neg (by omega)]
 refine⟨⟨(0,id),⟨by omega,hl.1,hp,h,by unfold aQ;rw[if_neg (by omega)];rfl⟩,⟨rfl,rfl,trivial⟩,rfl⟩,λx hx=>?_⟩
 obtain⟨k,v⟩:=x;obtain⟨x1,x2,x3,_,x4⟩:=hx;have x1:k<=4:=x1;have x2:0<=v:=x2;have x3:v<=9223372036854775807:=x3;have x4:dQ (5 - k) k v=aQ id:=x4;obtain⟨m,hm⟩:∃m,5 - k=m+1:=⟨4 - k,by omega⟩
 rw[hm,dQ]at x4;refine bC.2 ⟨λh2=>?_,λh2=>?_⟩
 .have h2:¬v < 8:=by
   have:8<=v:=h2;omega
  rw[if_neg h2]at x4;split at x4
  .omega
  have e:v.tdiv 8=v / 8:=A94 x2;have hm0:m≠0:=by
   intro q;subst q;simp[dQ]at x4;omega
  refine⟨by decide,ay.2 (show(-9223372036854775808:Int)<=v.tdiv 8/\v.tdiv 8<=9223372036854775807 by omega),ay.2 (show(-9223372036854775808:Int)<=v.tdiv 8 - 1/\v.tdiv 8 - 1<=9223372036854775807 by omega),ay.2 (show(-9223372036854775808:Int)<=(k:Int)+1/\(k:Int)+1<=9223372036854775807 by omega),(k+1,v.tdiv 8 - 1),⟨show k+1<=4 by omega,show 0<=v.tdiv 8 - 1 by omega,show v.tdiv 8 - 1<=9223372036854775807 by omega,h,?_⟩,⟨rfl,rfl,trivial⟩,rfl,show(v.tdiv 8 - 1).toNat < v.toNat by omega⟩
  show dQ (5 - (k+1)) ((k+1:Nat):Int) (v.tdiv 8 - 1)=aQ id;rw[<-x4,show 5 - (k+1)=m by omega];rfl
 .have h2:v < 8:=by
   have:¬8<=v:=h2;omega
  rw[if_pos h2]at x4;rw[em,<-x4];exact⟨rfl,rfl⟩
theorem Oc:aU aS.gd 196 TV:=
 jW (cx:=aS) (n:=15) (cl:=[(80,Ob)]) au ⟨KN,trivial⟩ Tryz.func196 λd hd=>by
  obtain⟨id,⟨⟩⟩:=d;exact aP (aln id) (agk id hd) (by kernel_rfl)
abbrev abr:CT:={ ps:=[dS],pre:=λd=>d.1.1<=9223372036854775807,res:=λd=>([],.iJ [.c (.v (.int .i64 (bW d.1.1 d.1.2.2.2.2.2.1).1)),.c (.v (.bool (bW d.1.1 d.1.2.2.2.2.2.1).2))]) }
theorem agl(id fn pc:Int) (rg:List Int) (st ch ph su fa:Int) (he:List Int) (aG:abr.pre ((id,fn,pc,rg,st,ch,ph,su,fa,he,()),())):
 let z1:=[cI ((bW id ch).fst),cB ((bW id ch).snd)];id<=9223372036854775807/\((!!decide (0<=aQ id))=true->id<=9223372036854775807)/\br (!decide (0<=aQ id) || decide (iE id=4) || decide (ch < 0) || decide (7<=ch)) (rT z1 [cI 0,cB false]) (iR (id+1)/\iR ((8:Int) * (id+1))/\iR ((8:Int) * (id+1)+ch)/\rT z1 [cI ((8:Int) * (id+1)+ch),cB true]):=by
 conv=>zeta
 delta cI cB rT iR;have hp:id<=9223372036854775807:=aG;refine⟨hp,λ_=>hp,ah.2 ⟨λh=>?_,λh=>?_⟩⟩
 .have e:bW id ch=(0,false):=by
   unfold bW;rw[if_pos];unfold iE at h;simp only[xk,CO,dN,eH]at h;split at h<;>omega
  rw[e];exact⟨rfl,rfl⟩
 .simp only[l7,wI,dN,eH]at h;obtain⟨⟨⟨h1,h2⟩,h3⟩,h4⟩:=h;unfold iE at h2;rw[if_neg (by omega)]at h2
  have e:bW id ch=(8 * (id+1)+ch,true):=by
   unfold bW;rw[if_neg (by omega)]
  have:=jX h1;rw[e];exact⟨ay.2 (by omega),ay.2 (by omega),ay.2 (by omega),rfl,rfl⟩
theorem abt:aU aS.gd 160 abr:=
 jW (cx:=aS) (n:=31) (cl:=[(80,Ob),(196,TV)]) au ⟨KN,Oc,trivial⟩ Tryz.func160 λd hd=>by
  obtain⟨⟨id,fn,pc,rg,st,ch,ph,su,fa,he,⟨⟩⟩,⟨⟩⟩:=d;exact aP (λ_=>none) (agl id fn pc rg st ch ph su fa he hd) (by kernel_rfl)
abbrev KO:CT:={ ps:=[.sl (.int .i64),.int .i64],pre:=λd=>d.1.length<=1000000,res:=λd=>([],vB (dO d.1 d.2.1)) }
abbrev alo(l:List Int) (x:Int):Nat->Option (St->jK):=λk=>match k with
 | 2=>some λ_=>.inv { α:=Nat,slots:=λk=>[(5,.c (.v (.int .i64 k)))],res:=λk=>[],inv:=λk=>k<=(l).length/\∀j < k,∀y,l[j]?=some y->¬y=x,meas:=λk=>(l).length - k }
 | _=>none
theorem agm(l:List Int) (x:Int) (aG:KO.pre (l,x,())):
 let z1:=λ(x_1:Nat)=>(x_1<=l.length/\∀(j:Nat),j < x_1->∀(y:Int),l[j]?=some y->¬y=x);(∃x_1,(z1 x_1)/\(cI 0=cI (x_1:Int)/\True)/\([]:List dP)=[])/\∀(x_1:Nat),(z1 x_1)->br (decide ((x_1:Int) < (l.length:Int))) ((0<=(x_1:Int)/\(x_1:Int) < (l.length:Int))/\∀(d:Int),l[(x_1:Int).toNat]?=some d->br (decide (d=x)) (qB (dO l x) true) (iR ((x_1:Int)+(1:Int))/\∃x',(x'<=l.length/\∀(j:Nat),j < x'->∀(y:Int),l[j]?=some y->¬y=x)/\(cI ((x_1:Int)+(1:Int))=cI (x':Int)/\True)/\([]:List dP)=[]/\l.length - x' < l.length - x_1)) (qB (dO l x) false):=by
 conv=>zeta
 delta dP cI qB iR;have hp:l.length<=1000000:=aG;refine⟨⟨0,⟨by omega,λj hj=>by omega⟩,⟨rfl,trivial⟩,rfl⟩,λk hk=>ah.2 ⟨λh=>?_,λh=>?_⟩⟩
 .simp only[dN]at h;have hN:(k:Int).toNat=k:=by omega
  rw[hN];refine⟨by omega,λd hd=>ah.2 ⟨λh2=>⟨rfl,?_⟩,λh2=>⟨ay.2 (by omega),k+1,⟨by omega,λj hj y hy=>?_⟩,⟨rfl,trivial⟩,rfl,by omega⟩⟩⟩
  .have e:dO l x=true:=by
    unfold dO;exact Ls.2 ⟨d,gZ hd,h2⟩
   rw[e]
  .by_cases iY:j=k
   .subst iY;rw[hd]at hy;cases hy;simpa using h2
   .exact hk.2 j (by omega) y hy
 .simp only[eH]at h;have e:dO l x=false:=by
   unfold dO;rw[Xh];intro i hi;obtain⟨j,hj⟩:=Ai hi;simpa using hk.2 j (by have:=(A8.1 hj).1;omega) i hj
  rw[e];exact⟨rfl,rfl⟩
theorem Oe:aU aS.gd 191 KO:=
 jW (cx:=aS) (n:=18) (cl:=[]) au trivial Tryz.func191 λd hd=>by
  obtain⟨l,x,⟨⟩⟩:=d;exact aP (alo l x) (agm l x hd) (by kernel_rfl)
abbrev abu:CT:={ ps:=[.int .i64],pre:=λd=>True,res:=λd=>([],vB (bU d.1)) }
theorem alp(n:Int):
 qB (bU n) (decide ((-2147483648)<=n) && decide (n<=2147483647)):=by
 delta qB;refine⟨rfl,?_⟩;rw[show bU n=(decide (-2147483648<=n) && decide (n<=2147483647)) by unfold bU;rw[Gy];simp]
theorem agn:aU aS.gd 81 abu:=
 jW (cx:=aS) (n:=9) (cl:=[]) au trivial Tryz.func81 λd hd=>by
  obtain⟨n,⟨⟩⟩:=d;exact aP (λ_=>none) (alp n) (by kernel_rfl)
abbrev KP:CT:={ ps:=[oW,dS],pre:=λd=>0<=d.2.1.2.1/\d.2.1.2.1 < d.1.2.2.2.1.length,res:=λd=>([],.one (.c (.sl lY (codeF d.1.2.2.2.1 d.2.1.2.1)))) }
theorem agp(vs:List VD) (ms cs:List ByteArray) (fs:List FD) (ts:List SD) (id fn pc:Int) (rg:List Int) (st ch ph su fa:Int) (he:List Int) (aG:KP.pre ((vs,ms,cs,fs,ts,()),(id,fn,pc,rg,st,ch,ph,su,fa,he,()),())):
 (0<=fn/\fn < (fs.length:Int))/\∀(d:ByteArray×(lY.sl.pair Sh.unit).den),fs[fn.toNat]?=some d->rE (bg.one (SV.c (SC.sl lY (codeF fs fn)))) (bg.one (SV.c (SC.sl lY d.snd.fst))):=by
 delta rE I6;have hp:0<=fn/\fn < (fs.length:Int):=aG;refine⟨hp,λd hd=>⟨rfl,?_⟩⟩
 obtain⟨y,hy,ey⟩:=oD hp;rw[hd]at hy;cases hy;rw[ey]
theorem Og:aU aS.gd 123 KP:=
 dY (cx:=aS) (n:=12) (cl:=[]) (rc:=[]) au trivial Tryz.func123 λd hd=>by
  obtain⟨⟨vs,ms,cs,fs,ts,⟨⟩⟩,⟨id,fn,pc,rg,st,ch,ph,su,fa,he,⟨⟩⟩,⟨⟩⟩:=d;exact aP (λ_=>none) (agp vs ms cs fs ts id fn pc rg st ch ph su fa he hd) (by kernel_rfl)
abbrev abv:CT:={ ps:=[dS,lY],pre:=λd=>d.1.2.2.2.2.2.2.2.2.2.1.length<=1000000/\d.1.1<=9223372036854775807,res:=λd=>([],.one (.c (.v (.int .i64 (jm d.1.1 d.1.2.2.2.2.2.1 d.1.2.2.2.2.2.2.1 d.1.2.2.2.2.2.2.2.2.2.1 d.2.1))))) }
theorem agq(id fn pc:Int) (rg:List Int) (st ch ph su fa:Int) (he:List Int) (op a b c obj n fo ord:Int) (aG:abv.pre ((id,fn,pc,rg,st,ch,ph,su,fa,he,()),(op,a,b,c,obj,n,fo,ord,()),())):
 let z2:=jm id ch ph he (op,a,b,c,obj,n,fo,ord,());let z1:=qI z2 (0:Int);br (!decide (ph=0)) z1 ((decide (op=16)=true->he.length<=1000000)/\((decide (op=18) && !(decide (op=16) && !dO he obj))=true->he.length<=1000000)/\br (decide (op=16) && !dO he obj || decide (op=18) && !dO he n) (qI z2 (27:Int)) (br (decide (op=21)) (id<=9223372036854775807/\br (!(bW id ch).snd) (qI z2 (28:Int)) z1) z1)):=by
 conv=>zeta
 delta qI;obtain⟨h1,h2⟩:he.length<=1000000/\id<=9223372036854775807:=aG;unfold jm;refine ah.2 ⟨λh=>⟨rfl,?_⟩,λh=>⟨λ_=>h1,λ_=>h1,ah.2 ⟨λq=>⟨rfl,?_⟩,λq=>bC.2 ⟨λq2=>⟨h2,ah.2 ⟨λq3=>⟨rfl,?_⟩,λq3=>⟨rfl,?_⟩⟩⟩,λq2=>⟨rfl,?_⟩⟩⟩⟩⟩
 .have h:ph≠0:=by simpa using h
  rw[if_pos h]
 all_goals
  have h:¬ph≠0:=by simpa using h
  rw[if_neg h]
 .by_cases e:op=18
  .subst e;simp at q;simp[q]
  .by_cases e2:op=16
   .subst e2;simp at q;simp[q]
   .simp[e,e2]at q
 .subst q2;simp at q3;simp[q3]
 .subst q2;simp at q3;simp[q3]
 .by_cases e:op=18
  .subst e;simp at q;simp[q]
  .by_cases e2:op=16
   .subst e2;simp at q;simp[q]
   .simp[e,e2,q2]
theorem abw:aU aS.gd 153 abv:=
 dY (cx:=aS) (n:=44) (cl:=[(191,KO),(160,abr)]) (rc:=[]) au ⟨Oe,abt,trivial⟩ Tryz.func153 λd hd=>by
  obtain⟨⟨id,fn,pc,rg,st,ch,ph,su,fa,he,⟨⟩⟩,⟨op,a,b,c,obj,n,fo,ord,⟨⟩⟩,⟨⟩⟩:=d;exact aP (λ_=>none) (agq id fn pc rg st ch ph su fa he op a b c obj n fo ord hd) (by kernel_rfl)
abbrev QJ:CT:={ ps:=[oW,.int .i64],pre:=λd=>bnd (d.1,()),res:=λd=>([],.one (.c (.v (.int .i64 (bQ (aC d.1.1 d.1.2.1 d.1.2.2.1 d.1.2.2.2.1 d.1.2.2.2.2.1).1 d.2.1))))) }
theorem alq(vs:List VD) (ms cs:List ByteArray) (fs:List FD) (ts:List SD) (bound:Int) (aG:QJ.pre ((vs,ms,cs,fs,ts,()),bound,())):
 let z2:=aC vs ms cs fs ts;let z1:=bQ z2.fst bound;(vs.length<=1000000/\ms.length<=1000000/\cs.length<=1000000/\fs.length<=1000000/\ts.length<=1000000/\(∀(x:ByteArray×(lY.sl.pair Sh.unit).den),x∈fs->List.length x.snd.fst<=1000000)/\(dM fs).length<=1000000)/\br (!decide (z2.fst=0)) (qI z1 (z2.fst)) (br (decide (bound < 1) || decide (32 < bound)) (qI z1 (2:Int)) (qI z1 (0:Int))):=by
 conv=>zeta
 delta qI I6;have hb:bnd ((vs,ms,cs,fs,ts,()),()):=aG;refine⟨hb,ah.2 ⟨λh=>?_,λh=>ah.2 ⟨λh2=>?_,λh2=>?_⟩⟩⟩
 .have h:(aC vs ms cs fs ts).1≠0:=by simpa using h
  unfold bQ;rw[if_pos h];exact⟨rfl,rfl⟩
 .have h:¬(aC vs ms cs fs ts).1≠0:=by simpa using h
  have h2:bound < 1\/32 < bound:=by simpa using h2
  unfold bQ;rw[if_neg h,if_pos h2];exact⟨rfl,rfl⟩
 .have h:¬(aC vs ms cs fs ts).1≠0:=by simpa using h
  have h2:¬(bound < 1\/32 < bound):=by simp only[l7,eH]at h2;omega
  unfold bQ;rw[if_neg h,if_neg h2];exact⟨rfl,rfl⟩
theorem agr:aU aS.gd 79 QJ:=
 jW (cx:=aS) (n:=23) (cl:=[(66,FQ)]) au ⟨KC,trivial⟩ Tryz.func79 λd hd=>by
  obtain⟨⟨vs,ms,cs,fs,ts,⟨⟩⟩,bound,⟨⟩⟩:=d;exact aP (λ_=>none) (alq vs ms cs fs ts bound hd) (by kernel_rfl)
abbrev QK:CT:={ ps:=[oW,.int .i64,dS],pre:=λd=>True/\d.2.2.1.2.2.2.2.2.2.2.2.2.1.length<=1000000/\d.2.2.1.1<=9223372036854775807/\d.2.2.1.2.2.2.1.length=8,res:=λd=>([],vB (iQ d.1.2.1 d.1.2.2.2.1 d.2.1 d.2.2.1)) }
abbrev alr(vs:List VD) (ms cs:List ByteArray) (fs:List FD) (ts:List SD) (bound id fn pc:Int) (rg:List Int) (st ch ph su fa:Int) (he:List Int):Nat->Option (St->jK):=λk=>match k with
 | 4=>some λ_=>.inv { α:=Nat,slots:=λk=>[(7,.c (.v (.int .i64 k)))],res:=λ_=>[],inv:=λk=>k<=8/\∀j < k,∀r,rg[j]?=some r->bU r=true,meas:=λk=>8 - k }
 | 11=>some λ_=>.inv { α:=Nat,slots:=λk=>[(8,.c (.v (.int .i64 k)))],res:=λ_=>[],inv:=λk=>k<=he.length/\(∀j < k,∀m,he[j]?=some m->0<=m/\m < ms.length)/\∀j,j+1 < k->∀x y,he[j]?=some x->he[j+1]?=some y->x < y,meas:=λk=>he.length - k }
 | _=>none
theorem ags(vs:List VD) (ms cs:List ByteArray) (fs:List FD) (ts:List SD) (bound id fn pc:Int) (rg:List Int) (st ch ph su fa:Int) (he:List Int) (aG:QK.pre ((vs,ms,cs,fs,ts,()),bound,(id,fn,pc,rg,st,ch,ph,su,fa,he,()),())):
 let z8:=(id,fn,pc,rg,st,ch,ph,su,fa,he,());let z4:=iQ ms fs bound z8;let z3:=qB z4 false;let z1:=[g0 (ak.blk 27 [SC.sl Hg vs,SC.sl Sh.str ms,SC.sl Sh.str cs,SC.sl Dw fs,SC.sl mO ts]),g0 (ak.obj 56 dS z8)];let z10:=λ(x:Nat)=>(x:Int)+(1:Int);let z2:=λ(x:Nat) (d bJ:Int)=>decide (0 < (x:Int)) && !(decide (d < 0) || decide ((ms.length:Int)<=bJ));let z9:=0<=fn/\fn < (fs.length:Int);let z7:=0<=pc/\pc < (↑(codeF fs fn).length:Int);let z6:=λ(d:ID)=>decide (d.fst=18)=true->he.length<=1000000;let z5:=λ(d:ID)=>decide (d.fst=18) && !dO he d.snd.snd.snd.snd.snd.fst;id<=9223372036854775807/\((!(!decide (0<=aQ id) || decide (fn < 0) || decide ((fs.length:Int)<=fn) || decide (pc < 0)))=true->0<=fn/\fn < (fs.length:Int))/\br (!decide (0<=aQ id) || decide (fn < 0) || decide ((fs.length:Int)<=fn) || decide (pc < 0) || decide ((↑(codeF fs fn).length:Int) < pc)) z3 ((∃x,(x<=8/\∀(j:Nat),j < x->∀(r:Int),rg[j]?=some r->bU r=true)/\(cI 0=cI (x:Int)/\True)/\sm z1)/\∀(x:Nat),(x<=8/\∀(j:Nat),j < x->∀(r:Int),rg[j]?=some r->bU r=true)->br (decide ((x:Int) < (8:Int))) ((0<=(x:Int)/\(x:Int) < (8:Int))/\(x:Int).toNat < 8/\∀(d:Int),rg[(x:Int).toNat]?=some d->True/\br (!bU d) z3 (iR (z10 x)/\∃x',(x'<=8/\∀(j:Nat),j < x'->∀(r:Int),rg[j]?=some r->bU r=true)/\(cI (z10 x)=cI (x':Int)/\True)/\sm z1/\8 - x' < 8 - x)) (((decide (0 < ch) && !(decide (st < 0) || decide (bound < st) || decide (ch < 0) || decide (7 < ch)))=true->id<=9223372036854775807)/\br (decide (st < 0) || decide (bound < st) || decide (ch < 0) || decide (7 < ch) || decide (0 < ch) && decide (iE id=4)) z3 ((∃x,(x<=he.length/\(∀(j:Nat),j < x->∀(m:Int),he[j]?=some m->0<=m/\m < (ms.length:Int))/\∀(j:Nat),j+1 < x->∀(x y:Int),he[j]?=some x->he[j+1]?=some y->x < y)/\(cI 0=cI (x:Int)/\True)/\sm z1)/\∀(x:Nat),(x<=he.length/\(∀(j:Nat),j < x->∀(m:Int),he[j]?=some m->0<=m/\m < (ms.length:Int))/\∀(j:Nat),j+1 < x->∀(x y:Int),he[j]?=some x->he[j+1]?=some y->x < y)->br (decide ((x:Int) < (he.length:Int))) ((0<=(x:Int)/\(x:Int) < (he.length:Int))/\∀(d:Int),he[(x:Int).toNat]?=some d->((!decide (d < 0))=true->0<=(x:Int)/\(x:Int) < (he.length:Int))/\∀(bJ:Int),((!decide (d < 0))=true->he[(x:Int).toNat]?=some bJ)->((z2 x d bJ)=true->iR ((x:Int) - (1:Int)))/\((z2 x d bJ)=true->0<=(x:Int) - (1:Int)/\(x:Int) - 1 < (he.length:Int))/\∀(kW:Int),((z2 x d bJ)=true->he[((x:Int) - (1:Int)).toNat]?=some kW)->((z2 x d bJ)=true->0<=(x:Int)/\(x:Int) < (he.length:Int))/\∀(wC:Int),((z2 x d bJ)=true->he[(x:Int).toNat]?=some wC)->br (decide (d < 0) || decide ((ms.length:Int)<=bJ) || decide (0 < (x:Int)) && decide (wC<=kW)) z3 (iR (z10 x)/\∃x',(x'<=he.length/\(∀(j:Nat),j < x'->∀(m:Int),he[j]?=some m->0<=m/\m < (ms.length:Int))/\∀(j:Nat),j+1 < x'->∀(x y:Int),he[j]?=some x->he[j+1]?=some y->x < y)/\(cI (z10 x)=cI (x':Int)/\True)/\sm z1/\he.length - x' < he.length - x)) (br (decide (ph=0)) (qB z4 true) (((!(!decide (ph=1) && !decide (ph=2)))=true->0<=fn/\fn < (fs.length:Int))/\br (!decide (ph=1) && !decide (ph=2) || decide (pc=(↑(codeF fs fn).length:Int))) z3 ((z9/\z7/\∀(d:ID),(codeF fs fn)[pc.toNat]?=some d->(z6 d)/\qB z4 (z5 d))/\z9/\z7/\∀(d:ID),(codeF fs fn)[pc.toNat]?=some d->(z6 d)/\qB z4 (z5 d))))))):=by
 conv=>zeta
 delta cI g0 qB sm I6 iR;obtain⟨_,BG,hid,hrg⟩:True/\he.length<=1000000/\id<=9223372036854775807/\rg.length=8:=aG;have both:∀{A:Prop},A->A/\A:=λq=>⟨q,q⟩
 have fF:¬dB ms fs bound (id,fn,pc,rg,st,ch,ph,su,fa,he,())->([]:List Go.l9.ak)=[]/\bg.one (SV.c (SC.v (Value.bool (iQ ms fs bound (id,fn,pc,rg,st,ch,ph,su,fa,he,())))))=bg.one (SV.c (SC.v (Value.bool false))):=λq=>⟨rfl,by rw[wX q]⟩
 refine⟨hid,λg=>by
  simp only[CO,l7,eH,wI,dN]at g;show(0:Int)<=fn/\fn < (fs.length:Int);omega,ah.2 ⟨λh=>?_,λh=>?_⟩⟩
 .refine fF λq=>?_
  obtain⟨q1,q2,q3,_⟩:=q;simp only[xk,CO,dN,eH]at h;omega
 simp only[l7,wI,dN,eH]at h;obtain⟨⟨⟨⟨h1,h2⟩,h3⟩,h4⟩,h5⟩:=h;have hfn:0<=fn/\fn < (fs.length:Int):=by omega
 have hpc:0<=pc/\pc<=((codeF fs fn).length:Int):=by omega
 refine⟨⟨0,⟨by omega,λj hj=>by omega⟩,⟨rfl,trivial⟩,rfl⟩,λk hk=>ah.2 ⟨λh=>?_,λh=>?_⟩⟩
 .simp only[dN]at h;refine⟨by omega,by omega,λd hd=>⟨trivial,ah.2 ⟨λh6=>?_,λh6=>⟨ay.2 (by omega),k+1,⟨by omega,λj hj r hr=>?_⟩,⟨rfl,trivial⟩,rfl,by omega⟩⟩⟩⟩
  .refine fF λq=>?_
   have:=q.2.2.2.1 k (by omega) d hd
   rw[this]at h6;cases h6
  .by_cases iY:j=k
   .subst iY;have hd:rg[j]?=some d:=hd;rw[hd]at hr;cases hr;simpa using h6
   .exact hk.2 j (by omega) r hr
 simp only[eH]at h;have hr:∀k < 8,∀r,rg[k]?=some r->bU r=true:=λj hj r hr=>hk.2 j (by omega) r hr
 have hdm:iE id=aQ id:=by unfold iE;rw[if_neg (by omega)]
 rw[hdm];refine⟨λ_=>hid,ah.2 ⟨λh7=>?_,λh7=>?_⟩⟩
 .refine fF λq=>?_
  obtain⟨_,_,_,_,q5,q6,q7,_⟩:=q;simp at h7;omega
 simp only[l7,A72,eH]at h7;obtain⟨⟨⟨⟨a1,a2⟩,a3⟩,a4⟩,a5⟩:=h7;refine⟨⟨0,⟨by omega,λj hj=>by omega,λj hj=>by omega⟩,⟨rfl,trivial⟩,rfl⟩,λm hm=>ah.2 ⟨λh8=>?_,λh8=>?_⟩⟩
 .simp only[dN]at h8;refine⟨by omega,λd hd=>⟨λ_=>by omega,λd1 hd1=>⟨λ_=>ay.2 (by omega),λg=>by simp at g;omega,λd2 hd2=>⟨λ_=>by omega,λd3 hd3=>ah.2 ⟨λh9=>?_,λh9=>⟨ay.2 (by omega),m+1,⟨by omega,λj hj r hr=>?_,λj hj x y hx hy=>?_⟩,⟨rfl,trivial⟩,rfl,by omega⟩⟩⟩⟩⟩⟩
  .refine fF λq=>?_
   have hd:he[m]?=some d:=hd;have hq:=q.2.2.2.2.2.2.2.1 d (gZ hd);have hd1:=hd1 (by simp;omega)
   have hd1:he[m]?=some d1:=hd1;rw[hd]at hd1;cases hd1
   by_cases m0:m=0
   .subst m0;simp at h9;omega
   have g:(decide (0 < (m:Int)) && !(decide (d < 0) || decide ((ms.length:Int)<=d)))=true:=by simp;omega
   have hd2:=hd2 g;have hd3:=hd3 g;rw[show((m:Int) - 1).toNat=m - 1 by omega]at hd2
   have hd2:he[m - 1]?=some d2:=hd2;have hd3:he[m - 1+1]?=some d3:=by rw[show m - 1+1=m by omega];exact hd3
   have:=KG q.2.2.2.2.2.2.1 hd2 hd3;simp at h9;omega
  all_goals
   have hd:he[m]?=some d:=hd;have q0:0<=d:=by simp at h9;omega
   have hd1:=hd1 (by simp;omega)
   have hd1:he[m]?=some d1:=hd1;rw[hd]at hd1;cases hd1
  .by_cases iY:j=m
   .subst iY;rw[hd]at hr;cases hr;simp at h9;omega
   .exact hm.2.1 j (by omega) r hr
  .by_cases iY:j+1=m
   .have g:(decide (0 < (m:Int)) && !(decide (d < 0) || decide ((ms.length:Int)<=d)))=true:=by simp at h9 ⊢;omega
    have hd2:=hd2 g;have hd3:=hd3 g;rw[show((m:Int) - 1).toNat=j by omega]at hd2
    have hd2:he[j]?=some d2:=hd2;have hd3:he[m]?=some d3:=hd3;rw[iY,hd]at hy;cases hy;rw[hd]at hd3;cases hd3;rw[hd2]at hx;cases hx;simp at h9;omega
   .exact hm.2.2 j (by omega) x y hx hy
 simp only[eH]at h8;have hmm:∀m∈he,0<=m/\m < (ms.length:Int):=λy hy=>by
  obtain⟨j,hj⟩:=Ai hy;exact hm.2.1 j (by have:=(A8.1 hj).1;omega) y hj
 have hss:SS he:=F5 λj x y hx hy=>hm.2.2 j (by have:=(A8.1 hy).1;omega) x y hx hy
 have base:(ph=0\/((ph=1\/ph=2)/\∃i,lZ fs fn pc=some i/\i.1=18/\dO he i.2.2.2.2.2.1=false))↔dB ms fs bound (id,fn,pc,rg,st,ch,ph,su,fa,he,()):=
  ⟨λq=>⟨by omega,hfn,hpc,hr,by omega,⟨by omega,by omega,λe=>by omega⟩,hss,hmm,q⟩,λq=>q.2.2.2.2.2.2.2.2⟩
 have fB:∀b:Bool,(b=true↔(ph=0\/((ph=1\/ph=2)/\∃i,lZ fs fn pc=some i/\i.1=18/\dO he i.2.2.2.2.2.1=false)))->bg.one (SV.c (SC.v (Value.bool (iQ ms fs bound (id,fn,pc,rg,st,ch,ph,su,fa,he,())))))=bg.one (SV.c (SC.v (Value.bool b))):=λb hb=>by
  have:iQ ms fs bound (id,fn,pc,rg,st,ch,ph,su,fa,he,())=b:=by
   rw[Gy,hb,base,jQ]
  rw[this]
 refine bC.2 ⟨λh9=>⟨rfl,fB _ (by simp[h9])⟩,λh9=>⟨λ_=>hfn,ah.2 ⟨λg=>⟨rfl,fB _ ?_⟩,λg=>both ⟨hfn,?_,λd hd=>⟨λ_=>BG,rfl,fB _ ?_⟩⟩⟩⟩⟩
 .by_cases g2:pc=((codeF fs fn).length:Int)
  .have ha:lZ fs fn pc=none:=CJ (by omega)
   simp[h9,ha]
  .simp[g2]at g;simp[h9,g]
 .simp at g;omega
 .have ha:lZ fs fn pc=some d:=hd;simp at g;have:ph=1\/ph=2:=by omega
  simp[h9,ha,this]
theorem abx:aU aS.gd 175 QK:=
 dY (cx:=aS) (n:=161) (cl:=[(80,Ob),(123,KP),(81,abu),(196,TV),(191,KO)]) (rc:=[]) au ⟨KN,Og,agn,Oc,Oe,trivial⟩ Tryz.func175 λd hd=>by
  obtain⟨⟨vs,ms,cs,fs,ts,⟨⟩⟩,bound,⟨id,fn,pc,rg,st,ch,ph,su,fa,he,⟨⟩⟩,⟨⟩⟩:=d;exact aP (alr vs ms cs fs ts bound id fn pc rg st ch ph su fa he) (ags vs ms cs fs ts bound id fn pc rg st ch ph su fa he hd) (by kernel_rfl)
abbrev aby:CT:={ ps:=[oW,.int .i64,dS],pre:=λd=>bnd (d.1,())/\d.2.2.1.2.2.2.2.2.2.2.2.2.1.length<=1000000/\d.2.2.1.1<=9223372036854775807/\d.2.2.1.2.2.2.1.length=8,res:=λd=>([],vB (decide (bQ (aC d.1.1 d.1.2.1 d.1.2.2.1 d.1.2.2.2.1 d.1.2.2.2.2.1).1 d.2.1=0) && ny d.1.2.1 d.1.2.2.2.1 d.2.1 d.2.2.1)) }
theorem agt(vs:List VD) (ms cs:List ByteArray) (fs:List FD) (ts:List SD) (bound id fn pc:Int) (rg:List Int) (st ch ph su fa:Int) (he:List Int) (aG:aby.pre ((vs,ms,cs,fs,ts,()),bound,(id,fn,pc,rg,st,ch,ph,su,fa,he,()),())):
 let z8:=bQ (aC vs ms cs fs ts).fst bound=0;let z7:=(id,fn,pc,rg,st,ch,ph,su,fa,he,());let z4:=decide z8 && ny ms fs bound z7;let z3:=qB z4 false;let z11:=0<=fn/\fn < (fs.length:Int);let z9:=pc=(↑(codeF fs fn).length:Int);let z5:=!decide z9 && (decide (fa=0) && decide (ph=0));let z6:=0<=pc/\pc < (↑(codeF fs fn).length:Int);let z10:=decide (su=1) || decide (su=4);let z2:=λ(d:ID)=>((decide (fa=0) && je d.fst)=true->he.length<=1000000/\id<=9223372036854775807)/\qB z4 (decide (fa=0) && je d.fst && decide (jm id ch ph he d=0) && (decide (su=1) && decide (st < bound) || decide (su=4) && decide (1<=st)));let z1:=λ(d:ID)=>br (!decide (su=3) || !decide (ph=0)) z3 (br (decide (fa=26)) ((decide (d.fst=6)=true->0<=d.snd.snd.fst/\d.snd.snd.fst < 8)/\(decide (d.fst=6)=true->Int.toNat d.snd.snd.fst < 8)/\∀(bJ:Int),(decide (d.fst=6)=true->rg[Int.toNat d.snd.snd.fst]?=some bJ)->qB z4 (decide (d.fst=6) && decide (bJ=(0:Int)))) (br (decide (fa=29)) (qB z4 (!je d.fst)) (((!decide (fa=0) && je d.fst)=true->he.length<=1000000/\id<=9223372036854775807)/\qB z4 (!decide (fa=0) && je d.fst && decide (fa=jm id ch ph he d)))));(vs.length<=1000000/\ms.length<=1000000/\cs.length<=1000000/\fs.length<=1000000/\ts.length<=1000000/\(∀(x:ByteArray×(lY.sl.pair Sh.unit).den),x∈fs->List.length x.snd.fst<=1000000)/\(dM fs).length<=1000000)/\((!!decide z8)=true->True/\he.length<=1000000/\id<=9223372036854775807/\rg.length=8)/\br (!decide z8 || !iQ ms fs bound z7) z3 (z11/\br (decide (su=2)) ((z5=true->0<=fn/\fn < (fs.length:Int))/\(z5=true->0<=pc/\pc < (↑(codeF fs fn).length:Int))/\∀(d:ID),(z5=true->(codeF fs fn)[pc.toNat]?=some d)->qB z4 (decide (fa=0) && decide (ph=0) && (decide z9 || decide (d.fst=7)))) (br (decide z9) z3 ((z11/\z6/\∀(d:ID),(codeF fs fn)[pc.toNat]?=some d->True/\br z10 (z2 d) (z1 d))/\z11/\z6/\∀(d:ID),(codeF fs fn)[pc.toNat]?=some d->True/\br z10 (z2 d) (z1 d)))):=by
 conv=>zeta
 delta qB I6;obtain⟨hb,BG,hid,hrg⟩:bnd ((vs,ms,cs,fs,ts,()),())/\he.length<=1000000/\id<=9223372036854775807/\rg.length=8:=aG;have both:∀{A:Prop},A->A/\A:=λq=>⟨q,q⟩
 refine⟨hb,λ_=>⟨trivial,BG,hid,hrg⟩,ah.2 ⟨λh=>⟨rfl,?_⟩,λh=>?_⟩⟩
 .have e:(decide (bQ (aC vs ms cs fs ts).1 bound=0) && ny ms fs bound (id,fn,pc,rg,st,ch,ph,su,fa,he,()))=false:=by
   rw[xk]at h;rcases h with q | q
   .rw[show decide (bQ (aC vs ms cs fs ts).1 bound=0)=false by simpa using q];rfl
   .rw[F8 λq2=>(by rw[jQ.2 q2.1]at q;cases q),Bool.and_false]
  rw[e]
 rw[l7]at h;have hs0:bQ (aC vs ms cs fs ts).1 bound=0:=by simpa using h.1
 have hF:dB ms fs bound (id,fn,pc,rg,st,ch,ph,su,fa,he,()):=jQ.1 (by simpa using h.2)
 have hc:=(fG.1 hs0).1;have hfn:=hF.2.1;have hpc:=hF.2.2.1;refine⟨hfn,?_⟩;have W:∀b:Bool,(b=true↔(((su=1/\st < bound\/su=4/\1<=st)/\fa=0/\∃i,lZ fs fn pc=some i/\je i.1=true/\jm id ch ph he i=0) \/
  (su=2/\fa=0/\ph=0/\∀i,lZ fs fn pc=some i->i.1=7) \/
  (su=3/\ph=0/\∃i,lZ fs fn pc=some i/\(fa=26/\i.1=6/\rg.getD i.2.2.1.toNat 0=0\/fa=29/\je i.1=false\/fa≠26/\fa≠29/\fa≠0/\jm id ch ph he i=fa)))) ->
   bg.one (SV.c (SC.v (Value.bool (decide (bQ (aC vs ms cs fs ts).1 bound=0) && ny ms fs bound (id,fn,pc,rg,st,ch,ph,su,fa,he,())))))=bg.one (SV.c (SC.v (Value.bool b))):=λb hb=>by
  have:(decide (bQ (aC vs ms cs fs ts).1 bound=0) && ny ms fs bound (id,fn,pc,rg,st,ch,ph,su,fa,he,()))=b:=by
   rw[xq hs0,Hy,Gy,hb,kP];exact⟨λq=>q.2,λq=>⟨hF,q⟩⟩
  rw[this]
 refine bC.2 ⟨λh2=>⟨λ_=>hfn,λg=>?_,λd hd=>⟨rfl,W _ ?_⟩⟩,λh2=>bC.2 ⟨λhl=>⟨rfl,W _ ?_⟩,λhl=>both ⟨hfn,by omega,λi ha=>⟨trivial,ah.2 ⟨λh3=>⟨λ_=>⟨BG,hid⟩,rfl,W _ ?_⟩,λh3=>ah.2 ⟨λh4=>⟨rfl,W _ ?_⟩,λh4=>bC.2 ⟨λh5=>⟨λg=>?_,λg=>?_,λd1 hd1=>⟨rfl,W _ ?_⟩⟩,λh5=>bC.2 ⟨λh6=>⟨rfl,W _ ?_⟩,λh6=>⟨λ_=>⟨BG,hid⟩,rfl,W _ ?_⟩⟩⟩⟩⟩⟩⟩⟩⟩
 .simp at g;omega
 .by_cases hl:pc=((codeF fs fn).length:Int)
  .have ha:lZ fs fn pc=none:=CJ (by omega)
   rw[xq hl];simp[h2,ha]
  .by_cases g:fa=0/\ph=0
   .have ha:lZ fs fn pc=some d:=hd (by simp[g.1,g.2,hl])
    simp[h2,hl,ha,g.1,g.2]
   .have:¬(fa=0/\ph=0/\∀i,lZ fs fn pc=some i->i.1=7):=λq=>g ⟨q.1,q.2.1⟩
    simp only[h2];simp only[bY,dN];constructor
    .intro q;exact absurd ⟨q.1.1,q.1.2⟩ g
    .rintro(q | q | q)
     .omega
     .exact absurd q.2 this
     .omega
 .have ha:lZ fs fn pc=none:=CJ (by omega)
  simp[ha,h2]
 all_goals
  have ha:lZ fs fn pc=some i:=ha;obtain⟨r1,r2,r3,r4⟩:=kX (ql (Ci hc hfn ha)).1
 .simp only[ha];simp only[xk,dN]at h3;rcases h3 with e | e<;>(subst e;simp<;>grind)
 .simp only[ha];simp only[l7,eH]at h3;simp only[xk,CO,eH]at h4;simp[h2,h3.1,h3.2];intro e1 e2;exact absurd e2 (h4.resolve_left (λq=>q e1))
 .exact r2
 .omega
 .simp only[l7,wI,dN]at h4
  by_cases e6:i.1=6
  .have hd1:rg[i.2.2.1.toNat]?=some d1:=hd1 (xq e6);have e0:rg.getD i.2.2.1.toNat 0=d1:=by rw[Jf,hd1];rfl
   simp only[ha,h4.1,h4.2,h5,e6];simp only[WO,exists_eq_left',e6,e0];simp
  .simp[ha,h4.1,h4.2,h5,e6]
 .simp only[l7,wI,dN]at h4;simp[ha,h4.1,h4.2,h6]
 .simp only[l7,wI,dN]at h4;have hvo:je i.1=false->jm id ch ph he i=0:=λq=>by
   unfold jm;have:i.1≠18/\i.1≠16/\i.1≠21:=by
    refine⟨?_,?_,?_⟩<;>(intro e;rw[e]at q;cases q)
   simp[this.1,this.2.1,this.2.2]
  simp only[ha,h4.1,h4.2];cases hv:je i.1 with
  | false=>
    have:=hvo hv;simp[h5,h6,this];rw[h4.2]at this;intro q1 q2;rw[this]at q2;omega
  | true=>
    simp[h5,h6];intro q1;exact eq_comm
theorem abz:aU aS.gd 122 aby:=
 dY (cx:=aS) (n:=146) (cl:=[(79,QJ),(175,QK),(123,KP),(152,abp),(153,abv)]) (rc:=[]) au ⟨agr,abx,Og,abq,abw,trivial⟩ Tryz.func122 λd hd=>by
  obtain⟨⟨vs,ms,cs,fs,ts,⟨⟩⟩,bound,⟨id,fn,pc,rg,st,ch,ph,su,fa,he,⟨⟩⟩,⟨⟩⟩:=d;exact aP (λ_=>none) (agt vs ms cs fs ts bound id fn pc rg st ch ph su fa he hd) (by kernel_rfl)
instance (l:List Int):Decidable (SS l):=inferInstanceAs (Decidable (l.Pairwise (· < ·)))
abbrev als:CT:={ ps:=[.sl (.int .i64)],pre:=λd=>d.1.length<=1000000,res:=λd=>([],vB (kF d.1)) }
abbrev alu(l:List Int):Nat->Option (St->jK):=λk=>match k with
 | 2=>some λ_=>.inv { α:=Nat,slots:=λk=>[(3,.c (.v (.int .i64 k)))],res:=λ_=>[],inv:=λk=>(1<=k/\(k<=l.length\/k=1))/\∀j,j+1 < k->∀x y,l[j]?=some x->l[j+1]?=some y->x < y,meas:=λk=>l.length - k }
 | _=>none
theorem agu(l:List Int) (aG:als.pre (l,())):
 (∃x,((1<=x/\(x<=l.length\/x=1))/\∀(j:Nat),j+1 < x->∀(x y:Int),l[j]?=some x->l[j+1]?=some y->x < y)/\(cI 1=cI (x:Int)/\True)/\([]:List dP)=[])/\∀(x:Nat),((1<=x/\(x<=l.length\/x=1))/\∀(j:Nat),j+1 < x->∀(x y:Int),l[j]?=some x->l[j+1]?=some y->x < y)->br (decide ((x:Int) < (l.length:Int))) (iR ((x:Int) - (1:Int))/\(0<=(x:Int) - (1:Int)/\(x:Int) - 1 < (l.length:Int))/\∀(d:Int),l[((x:Int) - (1:Int)).toNat]?=some d->(0<=(x:Int)/\(x:Int) < (l.length:Int))/\∀(bJ:Int),l[(x:Int).toNat]?=some bJ->br (decide (bJ<=d)) (qB (kF l) false) (iR ((x:Int)+(1:Int))/\∃x',((1<=x'/\(x'<=l.length\/x'=1))/\∀(j:Nat),j+1 < x'->∀(x y:Int),l[j]?=some x->l[j+1]?=some y->x < y)/\(cI ((x:Int)+(1:Int))=cI (x':Int)/\True)/\([]:List dP)=[]/\l.length - x' < l.length - x)) (qB (kF l) true):=by
 delta dP cI qB iR;have hp:l.length<=1000000:=aG;refine⟨⟨1,⟨⟨by omega,.inr rfl⟩,λj hj=>by omega⟩,⟨rfl,trivial⟩,rfl⟩,λk hk=>ah.2 ⟨λh=>?_,λh=>?_⟩⟩
 .simp only[dN]at h;have hk1:=hk.1.1;refine⟨ay.2 (by omega),by omega,λd hd=>⟨by omega,λe he=>?_⟩⟩
  have hd:l[k - 1]?=some d:=by rw[<-hd];congr 1;omega
  have he:l[k]?=some e:=by simpa using he
  have he':l[k - 1+1]?=some e:=by rw[show k - 1+1=k by omega];exact he
  refine ah.2 ⟨λh2=>?_,λh2=>⟨ay.2 (by omega),k+1,⟨⟨by omega,.inl (by omega)⟩,λj hj x y hx hy=>?_⟩,⟨by simp,trivial⟩,rfl,by omega⟩⟩
  .simp only[dN]at h2;have:kF l=false:=Aw λhs=>by have:=KG hs hd he';omega
   rw[this];exact⟨rfl,rfl⟩
  .simp only[eH]at h2
   by_cases iY:j+1=k
   .have hj':j=k - 1:=by omega
    subst hj';rw[hd]at hx;rw[he']at hy;cases hx;cases hy;omega
   .exact hk.2 j (by omega) x y hx hy
 .simp only[eH]at h;have:kF l=true:=xq (F5 λj x y hx hy=>hk.2 j (by have:=(A8.1 hy).1;omega) x y hx hy)
  rw[this];exact⟨rfl,rfl⟩
theorem abA:aU aS.gd 180 als:=
 jW (cx:=aS) (n:=20) (cl:=[]) au trivial Tryz.func180 λd hd=>by
  obtain⟨l,⟨⟩⟩:=d;exact⟨alu l,cast (by kernel_rfl) (agu l hd)⟩
end
end Go.Proofs.YtjhenjhcbcalpaaGreatDoor
