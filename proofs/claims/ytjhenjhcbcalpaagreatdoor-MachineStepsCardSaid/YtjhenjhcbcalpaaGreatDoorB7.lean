/- Part 7 of the proof. Conditions: the rows'. -/
import Derived.Test.YtjhenjhcbcalpaaGreatDoorB6
set_option linter.unusedSimpArgs false
set_option linter.unusedVariables false
set_option maxRecDepth 1000000
set_option maxHeartbeats 8000000
namespace Go.Proofs.YtjhenjhcbcalpaaGreatDoor
open Go Go.jw
noncomputable section
variable {i:ID}{l rg:List Int}{k:Nat}{vs:List VD}{ms cs:List ByteArray}{fs:List FD}{d:dh [mO,jT]}{ts:List SD}{n m y id ch pc bound:Int}
def Jc(s:ByteArray) (i:Nat):Int:=match s[i]? with | some u=>(u.toNat:Int) | none=>0
theorem KX{s:ByteArray}{i:Nat}{u:UInt8} (h:s[i]?=some u):Jc s i=u.toNat:=by simp[Jc,h]
def okB(c:Int):Bool:=uh c || decide (c=95) || decide (48<=c/\c<=57)
def dS(s:ByteArray):Bool:=decide (1<=s.size/\s.size<=16) && uh (Jc s 0) && (List.range s.size).all λi=>okB (Jc s i)
abbrev aqk:CT:={ ps:=[.str],pre:=λd=>True,res:=λd=>([],vB (dS d.1)) }
abbrev amx(s:ByteArray):Nat->Option (St->iE):=λk=>match k with
 | 4=>some λ_=>.inv { α:=Nat,slots:=λk=>[(20,.c (.v (.int .i64 k)))],res:=λk=>[],inv:=λk=>k<=((List.range s.size)).length/\∀j < k,okB (Jc s j)=true,meas:=λk=>((List.range s.size)).length - k }
 | _=>none
theorem agD(s:ByteArray):
 let z5:=(s.size:Int) < (1:Int);let z3:=!(decide z5 || decide (16 < (s.size:Int)));let z6:=List.range s.size;let z2:=λ(x:Nat)=>(x<=z6.length/\∀(j:Nat),j < x->okB (Jc s j)=true);let z4:=λ(u u_1:UInt8)=>!uh (u.toNat:Int) && !decide ((u_1.toNat:Int)=(95:Int));let z1:=λ(u_2 u u_1:UInt8)=>!decide ((u_2.toNat:Int) < (48:Int)) && (z4 u u_1);(z3=true->(0:Int)<=(0:Int)/\0 < (s.size:Int))/\∀(u:UInt8),(z3=true->s[0]?=some u)->(z3=true->True)/\br (decide z5 || decide (16 < (s.size:Int)) || !uh (u.toNat:Int)) (qB (dS s) false) ((∃x,(z2 x)/\(cI 0=cI (x:Int)/\True)/\([]:List dP)=[])/\∀(x:Nat),(z2 x)->br (decide ((x:Int) < (s.size:Int))) ((0<=(x:Int)/\(x:Int) < (s.size:Int))/\∀(u:UInt8),s[(x:Int).toNat]?=some u->True/\((!uh (u.toNat:Int))=true->0<=(x:Int)/\(x:Int) < (s.size:Int))/\∀(u_1:UInt8),((!uh (u.toNat:Int))=true->s[(x:Int).toNat]?=some u_1)->((z4 u u_1)=true->0<=(x:Int)/\(x:Int) < (s.size:Int))/\∀(u_2:UInt8),((z4 u u_1)=true->s[(x:Int).toNat]?=some u_2)->((z1 u_2 u u_1)=true->0<=(x:Int)/\(x:Int) < (s.size:Int))/\∀(u_3:UInt8),((z1 u_2 u u_1)=true->s[(x:Int).toNat]?=some u_3)->br (!uh (u.toNat:Int) && !decide ((u_1.toNat:Int)=(95:Int)) && (decide ((u_2.toNat:Int) < (48:Int)) || decide (57 < (u_3.toNat:Int)))) (qB (dS s) false) (iR ((x:Int)+(1:Int))/\∃x',(z2 x')/\(cI ((x:Int)+(1:Int))=cI (x':Int)/\True)/\([]:List dP)=[]/\z6.length - x' < z6.length - x)) (qB (dS s) true)):=by
 conv=>zeta
 delta dP cI qB iR;have hs2:(!(decide ((s.size:Int) < (1:Int)) || decide ((16:Int) < (s.size:Int))))=true↔(1<=s.size/\s.size<=16):=by
  simp only[Ep,lM,A8];omega
 refine⟨λh=>by have:=hs2.1 h;omega,λu hu=>⟨λ_=>trivial,ah.2 ⟨λh=>⟨rfl,?_⟩,λh=>?_⟩⟩⟩
 .have:dS s=false:=by
   unfold dS
   by_cases hs:1<=s.size/\s.size<=16
   .have e:=KX (hu (hs2.2 hs));simp only[wX,dG,Ep]at h;have h0:uh (Jc s 0)=false:=by
     rw[e];rcases h with(h | h) | h
     .omega
     .omega
     .exact h
    rw[h0];simp
   .rw[yS hs];rfl
  rw[this]
 .simp only[lM,A8,uP]at h;obtain⟨⟨h1,h2⟩,h3⟩:=h;have hs:1<=s.size/\s.size<=16:=by omega
  have e:=KX (hu (hs2.2 hs));have hl:(List.range s.size).length=s.size:=List.length_range;rw[hl];refine⟨⟨0,⟨by omega,λj hj=>by omega⟩,⟨rfl,trivial⟩,rfl⟩,λk hk=>ah.2 ⟨λh=>?_,λh=>?_⟩⟩
  .simp only[dG]at h;have hN:(k:Int).toNat=k:=by omega
   rw[hN];refine⟨by omega,λv hv=>⟨trivial,λ_=>by omega,λv1 hv1=>⟨λ_=>by omega,λv2 hv2=>⟨λ_=>by omega,λv3 hv3=>?_⟩⟩⟩⟩
   have ev:=KX hv;have bad:okB (Jc s k)=false->dS s=false:=by
    intro hb;unfold dS;have:((List.range s.size).all λi=>okB (Jc s i))=false:=by
     rw[List.all_eq_false];exact⟨k,by simp;omega,by rw[hb];simp⟩
    rw[this];simp
   have fin:okB (Jc s k)=true->(nM IntKind.i64 ((k:Int)+1)/\∃x',(x'<=s.size/\∀(j:Nat),j < x'->okB (Jc s j)=true)/\(SV.c (SC.v (Value.int IntKind.i64 ((k:Int)+1)))=SV.c (SC.v (Value.int IntKind.i64 (x':Int)))/\True)/\([]:List (Go.jw.Gd×Go.jw.aj))=[]/\s.size - x' < s.size - k):=λho=>
    ⟨au.2 (by omega),k+1,⟨by omega,λj hj=>by
     by_cases gu:j=k
     .rw[gu];exact ho
     .exact hk.2 j (by omega)⟩,⟨rfl,trivial⟩,rfl,by omega⟩
   cases hA:uh (v.toNat:Int) with
   | true=>
     refine ah.2 ⟨λh=>by simp at h,λ_=>fin ?_⟩
     rw[ev];unfold okB;rw[hA];rfl
   | false=>
     have hv1:=hv1 (by rw[hA];rfl)
     rw[hv]at hv1;cases hv1
     by_cases h95:(v.toNat:Int)=95
     .refine ah.2 ⟨λh=>by simp[h95]at h,λ_=>fin ?_⟩
      rw[ev];unfold okB;simp[h95]
     .have hd95:decide ((v.toNat:Int)=95)=false:=yS h95;have hv2:=hv2 (by rw[hA,hd95];rfl)
      rw[hv]at hv2;cases hv2
      by_cases h48:(v.toNat:Int) < 48
      .refine ah.2 ⟨λ_=>⟨rfl,?_⟩,λh=>by simp[h95,h48]at h⟩
       rw[bad (by rw[ev];unfold okB;rw[hA,hd95];simp;omega)]
      .have asv:decide ((v.toNat:Int) < 48)=false:=yS h48;have hv3:=hv3 (by rw[hA,hd95,asv];rfl)
       rw[hv]at hv3;cases hv3
       by_cases h57:57 < (v.toNat:Int)
       .refine ah.2 ⟨λ_=>⟨rfl,?_⟩,λh=>by simp[h95,h57]at h⟩
        rw[bad (by rw[ev];unfold okB;rw[hA,hd95];simp;omega)]
       .refine ah.2 ⟨λh=>by simp[h95,h48,h57]at h,λ_=>fin ?_⟩
        rw[ev];unfold okB;rw[hA,hd95];simp;omega
  .simp only[A8]at h;have:dS s=true:=by
    unfold dS;rw[vg hs,e,h3];simp only[Hl];rw[P7];intro i hi;simp at hi;exact hk.2 i (by omega)
   rw[this];exact⟨rfl,rfl⟩
theorem abB:aN aK.gd 208 aqk:=
 jG (cx:=aK) (n:=47) (cl:=[(214,ajM)]) ay ⟨abt,trivial⟩ Tryz.func208 λd hd=>by
  obtain⟨s,⟨⟩⟩:=d;exact⟨amx s,cast (by kernel_rfl) (agD s)⟩
def gX(l:List ByteArray):Int×Int:=match(List.range l.length).find? (λi=>!dS (l.getD i ⟨#[]⟩) || uV (l.take i) (l.getD i ⟨#[]⟩)) with
 | some i=>(if dS (l.getD i ⟨#[]⟩) then 7 else 6,i)
 | none=>(0,-1)
theorem wR{l:List ByteArray} (hk:k < l.length) (h:∀j < k,dS (l.getD j ⟨#[]⟩)=true/\uV (l.take j) (l.getD j ⟨#[]⟩)=false) (hf:dS (l.getD k ⟨#[]⟩)=false\/uV (l.take k) (l.getD k ⟨#[]⟩)=true):
 gX l=(if dS (l.getD k ⟨#[]⟩) then 7 else 6,(k:Int)):=by
 unfold gX;rw[show(List.range l.length).find? (λi=>!dS (l.getD i ⟨#[]⟩) || uV (l.take i) (l.getD i ⟨#[]⟩))=some k from List.find?_range_eq_some.2 ⟨by rcases hf with hf | hf<;>rw[hf]<;>simp,by simpa using hk,λj hj=>by obtain⟨a,b⟩:=h j hj;rw[a,b];rfl⟩]
theorem OI{l:List ByteArray} (h:∀j < l.length,dS (l.getD j ⟨#[]⟩)=true/\uV (l.take j) (l.getD j ⟨#[]⟩)=false):gX l=(0,-1):=by
 unfold gX;rw[show(List.range l.length).find? (λi=>!dS (l.getD i ⟨#[]⟩) || uV (l.take i) (l.getD i ⟨#[]⟩))=none from Ye.2 λi hi=>by
  obtain⟨a,b⟩:=h i (by simpa using hi)
  rw[a,b];simp]
abbrev abC:CT:={ ps:=[.sl .str],pre:=λd=>d.1.length<=1000000,res:=λd=>([],.gY [.c (.v (.int .i64 (gX d.1).1)),.c (.v (.int .i64 (gX d.1).2))]) }
abbrev amy(l:List ByteArray):Nat->Option (St->iE):=λk=>match k with
 | 2=>some λ_=>.inv { α:=Nat,slots:=λk=>[(8,.c (.v (.int .i64 k)))],res:=λk=>[],inv:=λk=>k<=(l).length/\∀j < k,dS (l.getD j ⟨#[]⟩)=true/\uV (l.take j) (l.getD j ⟨#[]⟩)=false,meas:=λk=>(l).length - k }
 | _=>none
theorem agF(l:List ByteArray) (aA:abC.pre (l,())):
 let z1:=λ(x:Nat)=>(x<=l.length/\∀(j:Nat),j < x->dS (l.getD j { data:=#[]:ByteArray })=true/\uV (List.take j l) (l.getD j { data:=#[]:ByteArray })=false);let z2:=[cI ((gX l).fst),cI ((gX l).snd)];(∃x,(z1 x)/\(cI 0=cI (x:Int)/\True)/\([]:List dP)=[])/\∀(x:Nat),(z1 x)->br (decide ((x:Int) < (l.length:Int))) ((0<=(x:Int)/\(x:Int) < (l.length:Int))/\∀(d:ByteArray),l[(x:Int).toNat]?=some d->True/\br (!dS d) (rT z2 [cI 6,cI (x:Int)]) (((0:Int)<=(0:Int)/\0<=(x:Int)/\(x:Int)<=(l.length:Int))/\(List.drop 0 (List.take (x:Int).toNat l)).length<=1000000/\br (uV (List.drop 0 (List.take (x:Int).toNat l)) d) (rT z2 [cI 7,cI (x:Int)]) (iR ((x:Int)+(1:Int))/\∃x',(z1 x')/\(cI ((x:Int)+(1:Int))=cI (x':Int)/\True)/\([]:List dP)=[]/\l.length - x' < l.length - x))) (rT z2 [cI 0,cI (-1)]):=by
 conv=>zeta
 delta dP cI rT iR;have hp:l.length<=1000000:=aA;refine⟨⟨0,⟨by omega,λj hj=>by omega⟩,⟨rfl,trivial⟩,rfl⟩,λk hk=>ah.2 ⟨λh=>?_,λh=>?_⟩⟩
 .simp only[dG]at h;have hN:(k:Int).toNat=k:=by omega
  rw[hN];refine⟨by omega,λd hd=>?_⟩
  have hg:l.getD k ⟨#[]⟩=d:=by rw[Il,hd];rfl
  refine⟨trivial,ah.2 ⟨λh2=>⟨rfl,?_⟩,λh2=>⟨⟨by omega,by omega,by omega⟩,by simp;omega,ah.2 ⟨λh3=>⟨rfl,?_⟩,λh3=>⟨au.2 (by omega),k+1,⟨by omega,λj hj=>?_⟩,⟨rfl,trivial⟩,rfl,by omega⟩⟩⟩⟩⟩
  .have h2:dS d=false:=by simpa using h2
   rw[wR (by omega) hk.2 (.inl (by rw[hg];exact h2)),hg,h2];rfl
  .have h2:dS d=true:=by simpa using h2
   have h3:uV (l.take k) d=true:=by simpa using h3
   rw[wR (by omega) hk.2 (.inr (by rw[hg];exact h3)),hg,h2];rfl
  .by_cases gu:j=k
   .subst gu;rw[hg];exact⟨by simpa using h2,by simpa using h3⟩
   .exact hk.2 j (by omega)
 .simp only[A8]at h;rw[OI λj hj=>hk.2 j (by omega)];exact⟨rfl,rfl⟩
theorem abD:aN aK.gd 184 abC:=
 jG (cx:=aK) (n:=24) (cl:=[(208,aqk),(209,RX)]) ay ⟨abB,abA,trivial⟩ Tryz.func184 λd hd=>by
  obtain⟨l,⟨⟩⟩:=d;exact⟨amy l,cast (by kernel_rfl) (agF l hd)⟩
def ciS(vs:List VD) (ms cs:List ByteArray) (fs:List FD) (e op obj n m:Int):Int:=if e≠0 then e else if 0<=qh vs ms cs fs op/\(obj < 0\/qh vs ms cs fs op<=obj) then 11 else if op=18/\(n < 0\/(ms.length:Int)<=n) then 11 else if(op=4\/op=5)/\(n < 0\/m < n) then 12 else 0
abbrev sQ(i:ID):Int:=pY i.1 i.2.1 i.2.2.1 i.2.2.2.1 i.2.2.2.2.1 i.2.2.2.2.2.1 i.2.2.2.2.2.2.1 i.2.2.2.2.2.2.2.1
abbrev wS(vs:List VD) (ms cs:List ByteArray) (fs:List FD) (i:ID) (m:Int):Int:=ciS vs ms cs fs (sQ i) i.1 i.2.2.2.2.1 i.2.2.2.2.2.1 m
abbrev aql:CT:={ ps:=[oQ,jT,.int .i64],pre:=λd=>True,res:=λd=>([],.one (.c (.v (.int .i64 (wS d.1.1 d.1.2.1 d.1.2.2.1 d.1.2.2.2.1 d.2.1 d.2.2.1))))) }
theorem agG(vs:List VD) (ms cs:List ByteArray) (fs:List FD) (ts:List SD) (op a b c obj n fn ord m:Int):
 let z3:=pY op a b c obj n fn ord;let z2:=ciS vs ms cs fs z3 op obj n m;let z1:=qI z2 (11:Int);True/\br (!decide (pY op a b c obj n fn ord=0)) (qI z2 z3) (True/\br (decide (0<=qh vs ms cs fs op) && (decide (obj < 0) || decide (qh vs ms cs fs op<=obj))) z1 (br (decide (op=18) && (decide (n < 0) || decide ((ms.length:Int)<=n))) z1 (br ((decide (op=4) || decide (op=5)) && (decide (n < 0) || decide (m < n))) (qI z2 (12:Int)) (qI z2 (0:Int))))):=by
 conv=>zeta
 delta qI;generalize pY op a b c obj n fn ord=e;unfold ciS;generalize qh vs ms cs fs op=o;refine⟨trivial,ah.2 ⟨λh=>⟨rfl,?_⟩,λh=>⟨trivial,ah.2 ⟨λh2=>⟨rfl,?_⟩,λh2=>ah.2 ⟨λh3=>⟨rfl,?_⟩,λh3=>ah.2 ⟨λh4=>⟨rfl,?_⟩,λh4=>⟨rfl,?_⟩⟩⟩⟩⟩⟩⟩
 all_goals simp only[Ep,uP,cZ,wX,Yd,lM,dG,A8]at *
 all_goals (congr 4;(repeat' split)<;>first | rfl | omega | (exfalso;omega))
theorem abE:aN aK.gd 190 aql:=
 jG (cx:=aK) (n:=66) (cl:=[(168,al9),(211,ajN)]) ay ⟨Ov,abv,trivial⟩ Tryz.func190 λd hd=>by
  obtain⟨⟨vs,ms,cs,fs,ts,⟨⟩⟩,⟨op,a,b,c,obj,n,fn,ord,⟨⟩⟩,m,⟨⟩⟩:=d;exact⟨λ_=>none,cast (by kernel_rfl) (agG vs ms cs fs ts op a b c obj n fn ord m)⟩
def Dl(vs:List VD) (ms cs:List ByteArray) (fs:List FD):Int×Int×Int:=
 if(gX (iF vs)).1≠0 then((gX (iF vs)).1,-1,-1) else if(gX ms).1≠0 then((gX ms).1,-1,-1) else if(gX cs).1≠0 then((gX cs).1,-1,-1) else((gX (jH fs)).1,(gX (jH fs)).2,-1)
theorem amA{d:List ByteArray} (hd:[iF vs,ms,cs][k]?=some d) (h:(gX d).1≠0) (hn:∀j < k,∀x,[iF vs,ms,cs][j]?=some x->(gX x).1=0):
 Dl vs ms cs fs=((gX d).1,-1,-1):=by
 unfold Dl
 match k,hd,hn with
 | 0,hd,hn=>simp at hd;subst hd;rw[if_pos h]
 | 1,hd,hn=>
   simp at hd;subst hd;have h0:=hn 0 (by omega) (iF vs) rfl
   rw[if_neg (by rw[h0];simp),if_pos h]
 | 2,hd,hn=>
   simp at hd;subst hd;have h0:=hn 0 (by omega) (iF vs) rfl
   have h1:=hn 1 (by omega) ms rfl
   rw[if_neg (by rw[h0];simp),if_neg (by rw[h1];simp),if_pos h]
 | k+3,hd,hn=>simp at hd
theorem aqm(hn:∀(j:Nat) x,[iF vs,ms,cs][j]?=some x->(gX x).1=0):Dl vs ms cs fs=((gX (jH fs)).1,(gX (jH fs)).2,-1):=by
 unfold Dl;have h0:=hn 0 (iF vs) rfl;have h1:=hn 1 ms rfl;have h2:=hn 2 cs rfl;rw[if_neg (by rw[h0];simp),if_neg (by rw[h1];simp),if_neg (by rw[h2];simp)]
abbrev amB:CT:={ ps:=[oQ],pre:=λd=>d.1.1.length<=1000000/\d.1.2.1.length<=1000000/\d.1.2.2.1.length<=1000000/\d.1.2.2.2.1.length<=1000000,res:=λd=>([],.gY [.c (.v (.int .i64 ((Dl d.1.1 d.1.2.1 d.1.2.2.1 d.1.2.2.2.1).1))),.agg [.v (.int .i64 ((Dl d.1.1 d.1.2.1 d.1.2.2.1 d.1.2.2.2.1).2.1)),.v (.int .i64 ((Dl d.1.1 d.1.2.1 d.1.2.2.1 d.1.2.2.2.1).2.2))]]) }
abbrev amC(vs:List VD) (ms cs:List ByteArray) (fs:List FD) (ts:List SD):Nat->Option (St->iE):=λk=>match k with
 | 2=>some λ_=>.inv { α:=Nat,slots:=λk=>[(18,.c (.v (.int .i64 k)))],res:=λk=>[],inv:=λk=>k<=([iF vs,ms,cs]).length/\∀j < k,∀x,[iF vs,ms,cs][j]?=some x->(gX x).1=0,meas:=λk=>([iF vs,ms,cs]).length - k }
 | _=>none
abbrev BM:=[v6 (-1),v6 (-1)]
theorem agH(vs:List VD) (ms cs:List ByteArray) (fs:List FD) (ts:List SD) (aA:amB.pre ((vs,ms,cs,fs,ts,()),())):
 let z3:=[iF vs,ms,cs];let z1:=[g0 (aj.blk 27 [SC.sl Gj vs,SC.sl Sh.str ms,SC.sl Sh.str cs,SC.sl CY fs,SC.sl mO ts]),g0 (aj.blk 162 [v6 0,v6 0]),g0 aj.gone,g0 (aj.row 23 Sh.str.sl z3)];let z4:=Dl vs ms cs fs;let z2:=[cI (z4.fst),SV.agg [v6 (z4.snd.fst),v6 (z4.snd.snd)]];vs.length<=1000000/\(∃x,(x<=z3.length/\∀(j:Nat),j < x->∀(x:List ByteArray),z3[j]?=some x->(gX x).fst=0)/\(cI 0=cI (x:Int)/\True)/\sm z1)/\∀(x:Nat),(x<=z3.length/\∀(j:Nat),j < x->∀(x:List ByteArray),z3[j]?=some x->(gX x).fst=0)->br (decide ((x:Int) < (z3.length:Int))) ((0<=(x:Int)/\(x:Int) < (z3.length:Int))/\(x:Int).toNat < z3.length/\∀(d:List ByteArray),z3[(x:Int).toNat]?=some d->d.length<=1000000/\br (!decide ((gX d).fst=0)) (rT z2 [cI ((gX d).fst),SV.agg BM]) (iR ((x:Int)+(1:Int))/\∃x',(x'<=z3.length/\∀(j:Nat),j < x'->∀(x:List ByteArray),z3[j]?=some x->(gX x).fst=0)/\(cI ((x:Int)+(1:Int))=cI (x':Int)/\True)/\sm z1/\z3.length - x' < z3.length - x)) (fs.length<=1000000/\(jH fs).length<=1000000/\rT z2 [cI ((gX (jH fs)).fst),SV.agg [v6 ((gX (jH fs)).snd),v6 (-1)]]):=by
 conv=>zeta
 delta BM v6 cI g0 rT sm I6 iR;obtain⟨hp1,hp2,hp3,hp4⟩:vs.length<=1000000/\ms.length<=1000000/\cs.length<=1000000/\fs.length<=1000000:=aA;refine⟨hp1,?_⟩;refine⟨⟨0,⟨by omega,λj hj=>by omega⟩,⟨rfl,trivial⟩,rfl⟩,λk hk=>ah.2 ⟨λh=>?_,λh=>?_⟩⟩
 .have h3:k < 3:=by simp at h;omega
  have h:k < [iF vs,ms,cs].length:=h3;have hN:(k:Int).toNat=k:=by omega
  rw[hN];refine⟨⟨by omega,by omega⟩,h,λd hd=>⟨?_,ah.2 ⟨λh2=>⟨rfl,?_⟩,λh2=>⟨au.2 (by omega),k+1,⟨by omega,λj hj x hx=>?_⟩,⟨rfl,trivial⟩,rfl,by omega⟩⟩⟩⟩
  .have:d∈[iF vs,ms,cs]:=gQ hd;simp only[nG,List.not_mem_nil,or_false]at this;rcases this with rfl | rfl | rfl
   .simpa[iF]using hp1
   .exact hp2
   .exact hp3
  .rw[amA hd (by simpa using h2) hk.2]
  .by_cases gu:j=k
   .subst gu;rw[hd]at hx;cases hx;simpa using h2
   .exact hk.2 j (by omega) x hx
 .have h:¬k < [iF vs,ms,cs].length:=by
   have:¬k < 3:=by simp at h;omega
   exact this
  refine⟨hp4,by simpa[jH]using hp4,rfl,?_⟩
  rw[aqm λj x hx=>hk.2 j (by have:=(eX.1 hx).1;omega) x hx]
theorem abG:aN aK.gd 143 amB:=
 jG (cx:=aK) (n:=41) (cl:=[(183,RP),(184,abC),(185,RQ)]) ay ⟨abw,abD,abx,trivial⟩ Tryz.func143 λd hd=>by
  obtain⟨⟨vs,ms,cs,fs,ts,⟨⟩⟩,⟨⟩⟩:=d;exact⟨amC vs ms cs fs ts,cast (by kernel_rfl) (agH vs ms cs fs ts hd)⟩
def AX(vs:List VD) (ms cs:List ByteArray) (fs:List FD):Int:=if 8 < vs.length\/4 < ms.length\/4 < cs.length\/8 < fs.length then 4 else if vs.all λv=>bY v.2.1 then 0 else 2
abbrev aqn:CT:={ ps:=[oQ],pre:=λd=>True,res:=λd=>([],.gY [.c (.v (.int .i64 (AX d.1.1 d.1.2.1 d.1.2.2.1 d.1.2.2.2.1))),.agg [.v (.int .i64 (-1)),.v (.int .i64 (-1))]]) }
abbrev amD(vs:List VD) (ms cs:List ByteArray) (fs:List FD) (ts:List SD):Nat->Option (St->iE):=λk=>match k with
 | 5=>some λ_=>.inv { α:=Nat,slots:=λk=>[(34,.c (.v (.int .i64 k)))],res:=λk=>[],inv:=λk=>k<=(vs).length/\∀j < k,∀v,vs[j]?=some v->bY v.2.1=true,meas:=λk=>(vs).length - k }
 | _=>none
abbrev abH:=[cI 0,SV.agg [v6 (-1),v6 (-1)]]
theorem agJ(vs:List VD) (ms cs:List ByteArray) (fs:List FD) (ts:List SD):
 let z3:=[cI (AX vs ms cs fs),SV.agg BM];let z2:=λ(x:Nat)=>(x<=vs.length/\∀(j:Nat),j < x->∀(v:ByteArray×Int×Unit),vs[j]?=some v->bY v.snd.fst=true);let z1:=[g0 (aj.blk 27 [SC.sl Gj vs,SC.sl Sh.str ms,SC.sl Sh.str cs,SC.sl CY fs,SC.sl mO ts]),g0 (aj.blk 162 [v6 0,v6 0]),g0 (aj.blk 162 BM)];br (decide (8 < (vs.length:Int)) || decide (4 < (ms.length:Int)) || decide (4 < (cs.length:Int)) || decide (8 < (fs.length:Int))) (rT z3 [cI 4,SV.agg BM]) ((∃x,(z2 x)/\(cI 0=cI (x:Int)/\True)/\sm z1)/\∀(x:Nat),(z2 x)->br (decide ((x:Int) < (vs.length:Int))) ((0<=(x:Int)/\(x:Int) < (vs.length:Int))/\∀(d:ByteArray×(I6.pair Sh.unit).den),vs[(x:Int).toNat]?=some d->True/\br (!bY (d.snd.fst,()).fst) (rT z3 [cI 2,SV.agg BM]) (iR ((x:Int)+(1:Int))/\∃x',(z2 x')/\(cI ((x:Int)+(1:Int))=cI (x':Int)/\True)/\sm z1/\vs.length - x' < vs.length - x)) (rT z3 abH)):=by
 conv=>zeta
 delta BM abH v6 cI g0 rT sm I6 iR
 by_cases hc:8 < vs.length\/4 < ms.length\/4 < cs.length\/8 < fs.length
 .have e:AX vs ms cs fs=4:=by unfold AX;rw[if_pos hc]
  rw[e];refine ah.2 ⟨λ_=>⟨rfl,rfl⟩,λh=>?_⟩
  simp only[lM,A8]at h;omega
 refine ah.2 ⟨λh=>?_,λh=>⟨⟨0,⟨by omega,λj hj=>by omega⟩,⟨rfl,trivial⟩,rfl⟩,λk hk=>ah.2 ⟨λh2=>?_,λh2=>?_⟩⟩⟩
 .simp only[wX,dG]at h;omega
 .simp only[dG]at h2;have hN:(k:Int).toNat=k:=by omega
  rw[hN];refine⟨by omega,λd hd=>⟨trivial,ah.2 ⟨λh3=>⟨rfl,?_⟩,λh3=>⟨au.2 (by omega),k+1,⟨by omega,λj hj v hv=>?_⟩,⟨rfl,trivial⟩,rfl,by omega⟩⟩⟩⟩
  .have h3:bY d.2.1=false:=by simpa using h3
   have e:AX vs ms cs fs=2:=by
    unfold AX;rw[if_neg hc,if_neg];intro hh;rw[P7]at hh;have:=hh d (gQ hd);rw[h3]at this;cases this
   rw[e]
  .have h3:bY d.2.1=true:=by simpa using h3
   by_cases gu:j=k
   .subst gu;rw[hd]at hv;cases hv;exact h3
   .exact hk.2 j (by omega) v hv
 .simp only[A8]at h2;have e:AX vs ms cs fs=0:=by
   unfold AX;rw[if_neg hc,if_pos];rw[P7];intro v hv;obtain⟨j,hj⟩:=yT hv;exact hk.2 j (by have:=(eX.1 hj).1;omega) v hj
  rw[e];exact⟨rfl,rfl⟩
theorem abI:aN aK.gd 144 aqn:=
 jG (cx:=aK) (n:=45) (cl:=[(186,abu)]) ay ⟨OG,trivial⟩ Tryz.func144 λd hd=>by
  obtain⟨⟨vs,ms,cs,fs,ts,⟨⟩⟩,⟨⟩⟩:=d;exact⟨amD vs ms cs fs ts,cast (by kernel_rfl) (agJ vs ms cs fs ts)⟩
def DX(n:Nat) (t:SD):Int:=if t.1 < 0\/(n:Int)<=t.1 then 11 else if bY t.2.1 then 0 else 2
def DY(fs:List FD) (ts:List SD):Int:=if ts.length < 1\/8 < ts.length then 4 else match ts.find? (λt=>decide (DX fs.length t≠0)) with | some t=>DX fs.length t | none=>0
theorem yF{α:Type}{l:List α}{p:α->Bool}{d:α} (hd:l[k]?=some d) (hp:p d=true) (hn:∀j < k,∀t,l[j]?=some t->p t=false):l.find? p=some d:=by
 induction l generalizing k with
 | nil=>simp at hd
 | cons x l ih=>
   cases k with
   | zero=>simp at hd;subst hd;simp[hp]
   | succ k=>
     have h0:=hn 0 (by omega) x (by simp)
     rw[List.find?_cons,h0];exact ih (by simpa using hd) λj hj t ht=>hn (j+1) (by omega) t (by simpa using ht)
theorem UQ{α:Type}{l:List α}{p:α->Bool} (hn:∀(j:Nat) t,l[j]?=some t->p t=false):l.find? p=none:=by
 rw[Ye];intro x hx;obtain⟨j,hj⟩:=yT hx;rw[hn j x hj];simp
theorem Ae{d:SD} (hc:¬(ts.length < 1\/8 < ts.length)) (hd:ts[k]?=some d) (h:DX fs.length d≠0) (hn:∀j < k,∀t,ts[j]?=some t->DX fs.length t=0):DY fs ts=DX fs.length d:=by
 unfold DY;rw[if_neg hc,yF hd (by simpa using h) λj hj t ht=>by simpa using hn j hj t ht]
theorem UR(hc:¬(ts.length < 1\/8 < ts.length)) (hn:∀(j:Nat) t,ts[j]?=some t->DX fs.length t=0):DY fs ts=0:=by
 unfold DY;rw[if_neg hc,UQ λj t ht=>by simpa using hn j t ht]
abbrev aqo:CT:={ ps:=[oQ],pre:=λd=>True,res:=λd=>([],.gY [.c (.v (.int .i64 (DY d.1.2.2.2.1 d.1.2.2.2.2.1))),.agg [.v (.int .i64 (-1)),.v (.int .i64 (-1))]]) }
abbrev amE(vs:List VD) (ms cs:List ByteArray) (fs:List FD) (ts:List SD):Nat->Option (St->iE):=λk=>match k with
 | 5=>some λ_=>.inv { α:=Nat,slots:=λk=>[(22,.c (.v (.int .i64 k)))],res:=λk=>[],inv:=λk=>k<=(ts).length/\∀j < k,∀t,ts[j]?=some t->DX fs.length t=0,meas:=λk=>(ts).length - k }
 | _=>none
theorem agK(vs:List VD) (ms cs:List ByteArray) (fs:List FD) (ts:List SD):
 let z3:=[cI (DY fs ts),SV.agg BM];let z2:=λ(x:Nat)=>(x<=ts.length/\∀(j:Nat),j < x->∀(t:Int×Int×Unit),ts[j]?=some t->DX fs.length t=0);let z1:=[g0 (aj.blk 27 [SC.sl Gj vs,SC.sl Sh.str ms,SC.sl Sh.str cs,SC.sl CY fs,SC.sl mO ts]),g0 (aj.blk 162 [v6 0,v6 0]),g0 (aj.blk 162 BM)];br (decide ((ts.length:Int) < (1:Int)) || decide (8 < (ts.length:Int))) (rT z3 [cI 4,SV.agg BM]) ((∃x,(z2 x)/\(cI 0=cI (x:Int)/\True)/\sm z1)/\∀(x:Nat),(z2 x)->br (decide ((x:Int) < (ts.length:Int))) ((0<=(x:Int)/\(x:Int) < (ts.length:Int))/\∀(d:Int×(I6.pair Sh.unit).den),ts[(x:Int).toNat]?=some d->br (decide (d.fst < 0) || decide ((fs.length:Int)<=d.fst)) (rT z3 [cI 11,SV.agg BM]) (True/\br (!bY (d.snd.fst,()).fst) (rT z3 [cI 2,SV.agg BM]) (iR ((x:Int)+(1:Int))/\∃x',(z2 x')/\(cI ((x:Int)+(1:Int))=cI (x':Int)/\True)/\sm z1/\ts.length - x' < ts.length - x))) (rT z3 abH)):=by
 conv=>zeta
 delta BM abH v6 cI g0 rT sm I6 iR
 by_cases hc:ts.length < 1\/8 < ts.length
 .have e:DY fs ts=4:=by unfold DY;rw[if_pos hc]
  rw[e];refine ah.2 ⟨λ_=>⟨rfl,rfl⟩,λh=>?_⟩
  simp only[lM,A8]at h;omega
 refine ah.2 ⟨λh=>?_,λh=>⟨⟨0,⟨by omega,λj hj=>by omega⟩,⟨rfl,trivial⟩,rfl⟩,λk hk=>ah.2 ⟨λh2=>?_,λh2=>?_⟩⟩⟩
 .simp only[wX,dG]at h;omega
 .simp only[dG]at h2;have hN:(k:Int).toNat=k:=by omega
  rw[hN];refine⟨by omega,λd hd=>ah.2 ⟨λh3=>⟨rfl,?_⟩,λh3=>⟨trivial,ah.2 ⟨λh4=>⟨rfl,?_⟩,λh4=>⟨au.2 (by omega),k+1,⟨by omega,λj hj v hv=>?_⟩,⟨rfl,trivial⟩,rfl,by omega⟩⟩⟩⟩⟩
  .have h3:d.1 < 0\/(fs.length:Int)<=d.1:=by simpa using h3
   have e:DX fs.length d=11:=by unfold DX;rw[if_pos h3]
   rw[Ae hc hd (by rw[e];simp) hk.2,e]
  .have h3:¬(d.1 < 0\/(fs.length:Int)<=d.1):=by simpa using h3
   have h4:bY d.2.1=false:=by simpa using h4
   have e:DX fs.length d=2:=by unfold DX;rw[if_neg h3,if_neg (by rw[h4];simp)]
   rw[Ae hc hd (by rw[e];simp) hk.2,e]
  .have h3:¬(d.1 < 0\/(fs.length:Int)<=d.1):=by simpa using h3
   have h4:bY d.2.1=true:=by simpa using h4
   by_cases gu:j=k
   .subst gu;rw[hd]at hv;cases hv;unfold DX;rw[if_neg h3,if_pos h4]
   .exact hk.2 j (by omega) v hv
 .simp only[A8]at h2;rw[UR hc λj t hj=>hk.2 j (by have:=(eX.1 hj).1;omega) t hj];exact⟨rfl,rfl⟩
theorem abJ:aN aK.gd 146 aqo:=
 jG (cx:=aK) (n:=45) (cl:=[(186,abu)]) ay ⟨OG,trivial⟩ Tryz.func146 λd hd=>by
  obtain⟨⟨vs,ms,cs,fs,ts,⟨⟩⟩,⟨⟩⟩:=d;exact⟨amE vs ms cs fs ts,cast (by kernel_rfl) (agK vs ms cs fs ts)⟩
abbrev abK:CT:={ ps:=[CY],pre:=λd=>True,res:=λd=>([],vB (decide (64 < d.1.2.1.length))) }
theorem agL(nm:ByteArray) (l:List ID):
 qB (decide (64 < l.length)) (decide (64 < (l.length:Int))):=by
 delta qB;refine⟨rfl,?_⟩
 congr 4
 rw[Et];simp only[dG];omega
theorem abL:aN aK.gd 188 abK:=
 jG (cx:=aK) (n:=7) (cl:=[]) ay trivial Tryz.func188 λd hd=>by
  obtain⟨⟨nm,l,⟨⟩⟩,⟨⟩⟩:=d;exact⟨λ_=>none,cast (by kernel_rfl) (agL nm l)⟩
def dU(fs:List FD):Int:=match fs.findIdx? (λf=>decide (64 < f.2.1.length)) with | some k=>(k:Int) | none=>-1
theorem Gl{d:FD} (hd:fs[k]?=some d) (h2:64 < d.2.1.length) (hn:∀j < k,∀f,fs[j]?=some f->f.2.1.length<=64):dU fs=k:=by
 have iT:k < fs.length:=(eX.1 hd).1;have:fs.findIdx? (λf=>decide (64 < f.2.1.length))=some k:=by
  rw[A55];refine⟨iT,by rw[(eX.1 hd).2];simpa using h2,λj hj=>?_⟩
  have:=hn j hj fs[j] (mP (by omega))
  simpa using this
 simp[dU,this]
theorem BN(hn:∀(j:Nat) f,fs[j]?=some f->f.2.1.length<=64):dU fs = -1:=by
 have:fs.findIdx? (λf=>decide (64 < f.2.1.length))=none:=by
  rw[A76];intro y hy;obtain⟨j,hj⟩:=yT hy;simpa using hn j y hj
 simp[dU,this]
abbrev KY:CT:={ ps:=[.sl CY],pre:=λd=>d.1.length<=1000000,res:=λd=>([],.one (.c (.v (.int .i64 (dU d.1))))) }
abbrev amF(fs:List FD):Nat->Option (St->iE):=λk=>match k with
 | 2=>some λ_=>.inv { α:=Nat,slots:=λk=>[(8,.c (.v (.int .i64 k)))],res:=λk=>[],inv:=λk=>k<=(fs).length/\∀j < k,∀f,fs[j]?=some f->f.2.1.length<=64,meas:=λk=>(fs).length - k }
 | _=>none
theorem agN(fs:List FD) (aA:KY.pre (fs,())):
 let z1:=λ(x:Nat)=>(x<=fs.length/\∀(j:Nat),j < x->∀(f:ByteArray×List ID×Unit),fs[j]?=some f->f.snd.fst.length<=64);(∃x,(z1 x)/\(cI 0=cI (x:Int)/\True)/\([]:List dP)=[])/\∀(x:Nat),(z1 x)->br (decide ((x:Int) < (fs.length:Int))) ((0<=(x:Int)/\(x:Int) < (fs.length:Int))/\∀(d:ByteArray×(jT.sl.pair Sh.unit).den),fs[(x:Int).toNat]?=some d->True/\br (decide (64 < List.length (d.snd.fst,()).fst)) (qI (dU fs) (x:Int)) (iR ((x:Int)+(1:Int))/\∃x',(z1 x')/\(cI ((x:Int)+(1:Int))=cI (x':Int)/\True)/\([]:List dP)=[]/\fs.length - x' < fs.length - x)) (qI (dU fs) (-1:Int)):=by
 conv=>zeta
 delta dP cI qI I6 iR;have hp:fs.length<=1000000:=aA;refine⟨⟨0,⟨by omega,λj hj=>by omega⟩,⟨rfl,trivial⟩,rfl⟩,λk hk=>ah.2 ⟨λh=>?_,λh=>?_⟩⟩
 .simp only[dG]at h;have hN:(k:Int).toNat=k:=by omega
  rw[hN];refine⟨by omega,λd hd=>⟨trivial,ah.2 ⟨λh2=>⟨rfl,?_⟩,λh2=>⟨au.2 (by omega),k+1,⟨by omega,λj hj f hf=>?_⟩,⟨rfl,trivial⟩,rfl,by omega⟩⟩⟩⟩
  .have h2:64 < d.2.1.length:=by simpa using h2
   rw[Gl hd h2 hk.2]
  .have h2:¬64 < d.2.1.length:=by simpa using h2
   by_cases gu:j=k
   .subst gu;rw[hd]at hf;cases hf;omega
   .exact hk.2 j (by omega) f hf
 .simp only[A8]at h;rw[BN λj f hf=>hk.2 j (by have:=(eX.1 hf).1;omega) f hf];exact⟨rfl,rfl⟩
theorem XI:KL Tryz.prog aK.gd 187 [.func (.func 188) #[] #[]] KY:=
 (oO (cx:=aK) (n:=19) (cl:=[(188,abK)]) (il:=ilN) (hl:=hlN) (ml:=mlN) (rc:=[]) (lits:=[]) (suf:=[.func (.func 188) #[] #[]]) (by kernel_rfl) ay ⟨abL,trivial⟩ trivial trivial trivial Tryz.func187 (by kernel_rfl) (by kernel_rfl) rfl (by kernel_rfl) (by kernel_rfl) (by simp) λd hd=>by
  obtain⟨fs,⟨⟩⟩:=d;exact⟨amF fs,cast (by kernel_rfl) (agN fs hd)⟩)
def KZ(vs:List VD) (ms cs:List ByteArray) (fs:List FD) (d:dh [mO,jT]):Int:=wS vs ms cs fs d.2.1 (((fs.getD d.1.1.toNat (⟨#[]⟩,[],())).2.1.length:Nat):Int)
def Gm(vs:List VD) (ms cs:List ByteArray) (fs:List FD):Int×Int×Int:=match(dR fs).find? (λd=>decide (d.1.1=dU fs) || decide (KZ vs ms cs fs d≠0)) with
 | some d=>if d.1.1=dU fs then(4,dU fs,-1) else(KZ vs ms cs fs d,d.1.1,d.1.2.1)
 | none=>if 0<=dU fs then(4,dU fs,-1) else(0,-1,-1)
theorem UU{e:FD} (he:fs[d.1.1.toNat]?=some e):KZ vs ms cs fs d=wS vs ms cs fs d.2.1 (e.2.1.length:Int):=by
 unfold KZ;rw[Il,he];rfl
theorem wU:∀(l:List FD) (n:Nat){d:dh [mO,jT]},d∈kE n l->∃(k:Nat) (x:FD) (j:Nat) (e:ID),l[k]?=some x/\x.2.1[j]?=some e/\d=((((n+k:Nat):Int),(j:Int),()),e,())
 | [],n,d,h=>by simp[kE]at h
 | x :: l,n,d,h=>by
   simp only[kE,Du]at h;rcases h with h | h
   .unfold qQ at h;obtain⟨p,hp,rfl⟩:=Yr.1 h;have:=List.mk_mem_zipIdx_iff_getElem?.1 (show(p.1,p.2)∈x.2.1.zipIdx from hp)
    exact⟨0,x,p.2,p.1,rfl,this,rfl⟩
   .obtain⟨k,y,j,e,h1,h2,rfl⟩:=wU l (n+1) h;exact⟨k+1,y,j,e,by simpa using h1,h2,by rw[show n+1+k=n+(k+1) by omega]⟩
theorem OJ{i:Nat} (hd:(dR fs)[i]?=some d):0<=d.1.1/\d.1.1 < fs.length:=by
 obtain⟨k,x,j,e,h1,h2,rfl⟩:=wU fs 0 (gQ hd);have:=(eX.1 h1).1;show 0<=((0+k:Nat):Int)/\((0+k:Nat):Int) < _;omega
theorem UW{i:Nat} (hd:(dR fs)[i]?=some d) (hb:d.1.1=dU fs\/KZ vs ms cs fs d≠0)
 (hn:∀j < i,∀d,(dR fs)[j]?=some d->d.1.1≠dU fs/\KZ vs ms cs fs d=0):Gm vs ms cs fs=if d.1.1=dU fs then(4,dU fs,-1) else(KZ vs ms cs fs d,d.1.1,d.1.2.1):=by
 unfold Gm;rw[yF hd (by simpa using hb) λj hj t ht=>by obtain⟨a,b⟩:=hn j hj t ht;simp[a,b]]
theorem RY(hn:∀(j:Nat) d,(dR fs)[j]?=some d->d.1.1≠dU fs/\KZ vs ms cs fs d=0):Gm vs ms cs fs=if 0<=dU fs then(4,dU fs,-1) else(0,-1,-1):=by
 unfold Gm;rw[UQ λj t ht=>by obtain⟨a,b⟩:=hn j t ht;simp[a,b]]
abbrev amG:CT:={ ps:=[oQ],pre:=λd=>d.1.2.2.2.1.length<=1000000/\∀x∈d.1.2.2.2.1,x.2.1.length<=1000000,res:=λd=>([],.gY [.c (.v (.int .i64 ((Gm d.1.1 d.1.2.1 d.1.2.2.1 d.1.2.2.2.1).1))),.agg [.v (.int .i64 ((Gm d.1.1 d.1.2.1 d.1.2.2.1 d.1.2.2.2.1).2.1)),.v (.int .i64 ((Gm d.1.1 d.1.2.1 d.1.2.2.1 d.1.2.2.2.1).2.2))]]) }
abbrev amH(vs:List VD) (ms cs:List ByteArray) (fs:List FD) (ts:List SD):Nat->Option (St->iE):=λk=>match k with
 | 5=>some λ_=>.rng { α:=Nat,res:=λ_=>[],inv:=λi n=>n=i/\∀j < n,∀d,(dR fs)[j]?=some d->d.1.1≠dU fs/\KZ vs ms cs fs d=0 }
 | _=>none
abbrev aqp:List (Nat×Nat×CT):=[(187,188,KY)]
theorem agO(vs:List VD) (ms cs:List ByteArray) (fs:List FD) (ts:List SD) (aA:amG.pre ((vs,ms,cs,fs,ts,()),())):
 let z5:=[g0 (aj.blk 27 [SC.sl Gj vs,SC.sl Sh.str ms,SC.sl Sh.str cs,SC.sl CY fs,SC.sl mO ts]),g0 (aj.blk 38 [v6 0]),g0 (aj.blk 162 [v6 0,v6 0]),g0 (aj.blk 3 [v6 (dU fs)])];let z11:=Gm vs ms cs fs;let z9:=[cI (z11.fst),SV.agg [v6 (z11.snd.fst),v6 (z11.snd.snd)]];let z10:=[cI 4,SV.agg [v6 (dU fs),v6 (-1)]];let z3:=((rT z9 z10)/\rT z9 z10)/\rT z9 z10;let z8:=rT z9 abH;let z4:=λ(d:mO.den×dh [I6.pair (I6.pair (I6.pair (I6.pair (I6.pair (I6.pair mO)))))])=>(d.snd.fst.fst,d.snd.fst.snd.fst,d.snd.fst.snd.snd.fst,d.snd.fst.snd.snd.snd.fst,d.snd.fst.snd.snd.snd.snd.fst,d.snd.fst.snd.snd.snd.snd.snd.fst,d.snd.fst.snd.snd.snd.snd.snd.snd.fst,d.snd.fst.snd.snd.snd.snd.snd.snd.snd.fst,());let z6:=λ(d:mO.den×dh [I6.pair (I6.pair (I6.pair (I6.pair (I6.pair (I6.pair mO)))))])=>(d.snd.fst.snd.snd.snd.snd.fst,d.snd.fst.snd.snd.snd.snd.snd.fst,d.snd.fst.snd.snd.snd.snd.snd.snd.fst,d.snd.fst.snd.snd.snd.snd.snd.snd.snd.fst,());let z7:=λ(d:mO.den×dh [I6.pair (I6.pair (I6.pair (I6.pair (I6.pair (I6.pair mO)))))])=>(d.snd.fst.snd.snd.snd.snd.snd.fst,d.snd.fst.snd.snd.snd.snd.snd.snd.fst,d.snd.fst.snd.snd.snd.snd.snd.snd.snd.fst,());let z2:=λ(d:mO.den×dh [I6.pair (I6.pair (I6.pair (I6.pair (I6.pair (I6.pair mO)))))])=>pY (z4 d).fst (d.snd.fst.snd.fst,d.snd.fst.snd.snd.fst,d.snd.fst.snd.snd.snd.fst,d.snd.fst.snd.snd.snd.snd.fst,d.snd.fst.snd.snd.snd.snd.snd.fst,d.snd.fst.snd.snd.snd.snd.snd.snd.fst,d.snd.fst.snd.snd.snd.snd.snd.snd.snd.fst,()).fst (d.snd.fst.snd.snd.fst,d.snd.fst.snd.snd.snd.fst,d.snd.fst.snd.snd.snd.snd.fst,d.snd.fst.snd.snd.snd.snd.snd.fst,d.snd.fst.snd.snd.snd.snd.snd.snd.fst,d.snd.fst.snd.snd.snd.snd.snd.snd.snd.fst,()).fst (d.snd.fst.snd.snd.snd.fst,d.snd.fst.snd.snd.snd.snd.fst,d.snd.fst.snd.snd.snd.snd.snd.fst,d.snd.fst.snd.snd.snd.snd.snd.snd.fst,d.snd.fst.snd.snd.snd.snd.snd.snd.snd.fst,()).fst (z6 d).fst (z7 d).fst (d.snd.fst.snd.snd.snd.snd.snd.snd.fst,d.snd.fst.snd.snd.snd.snd.snd.snd.snd.fst,()).fst (d.snd.fst.snd.snd.snd.snd.snd.snd.snd.fst,()).fst;let z1:=λ(d:mO.den×dh [I6.pair (I6.pair (I6.pair (I6.pair (I6.pair (I6.pair mO)))))]) (dH:ByteArray×(jT.sl.pair Sh.unit).den)=>[cI (ciS vs ms cs fs (z2 d) (z4 d).fst (z6 d).fst (z7 d).fst ((List.length dH.snd.fst):Int)),SV.agg [v6 d.fst.fst,v6 d.fst.snd.fst]];fs.length<=1000000/\(fs.length<=1000000/\∀(x:ByteArray×(jT.sl.pair Sh.unit).den),x∈fs->List.length x.snd.fst<=1000000)/\some Tryz.prog=some Tryz.prog/\(∃x,(x=0/\∀(j:Nat),j < x->∀(d:mO.den×dh [I6.pair (I6.pair (I6.pair (I6.pair (I6.pair (I6.pair mO)))))]),(dR fs)[j]?=some d->d.fst.fst≠dU fs/\KZ vs ms cs fs d=0)/\sm z5)/\(∀(i x:Nat) (d:mO.den×dh [I6.pair (I6.pair (I6.pair (I6.pair (I6.pair (I6.pair mO)))))]),(x=i/\∀(j:Nat),j < x->∀(d:mO.den×dh [I6.pair (I6.pair (I6.pair (I6.pair (I6.pair (I6.pair mO)))))]),(dR fs)[j]?=some d->d.fst.fst≠dU fs/\KZ vs ms cs fs d=0)->(dR fs)[i]?=some d->br (decide (d.fst.fst=dU fs)) (br (decide (0<=dU fs)) z3 z8) ((0<=d.fst.fst/\d.fst.fst < (fs.length:Int))/\∀(dH:ByteArray×(jT.sl.pair Sh.unit).den),fs[Int.toNat d.fst.fst]?=some dH->True/\br (!decide (ciS vs ms cs fs (z2 d) (z4 d).fst (z6 d).fst (z7 d).fst ((List.length dH.snd.fst):Int)=(0:Int))) ((rT z9 (z1 d dH))/\rT z9 (z1 d dH)) (∃x',(x'=i+1/\∀(j:Nat),j < x'->∀(d:mO.den×dh [I6.pair (I6.pair (I6.pair (I6.pair (I6.pair (I6.pair mO)))))]),(dR fs)[j]?=some d->d.fst.fst≠dU fs/\KZ vs ms cs fs d=0)/\sm z5)))/\∀(x:Nat),(x=aT (dR fs)/\∀(j:Nat),j < x->∀(d:mO.den×dh [I6.pair (I6.pair (I6.pair (I6.pair (I6.pair (I6.pair mO)))))]),(dR fs)[j]?=some d->d.fst.fst≠dU fs/\KZ vs ms cs fs d=0)->br (decide (0<=dU fs)) z3 z8:=by
 conv=>zeta
 delta v6 cI g0 rT sm I6;refine⟨aA.1,aA,rfl,⟨0,⟨rfl,λj hj=>by omega⟩,rfl⟩,λi x d hi hd=>?_,λx hx=>?_⟩
 .obtain⟨rfl,hi⟩:=hi;refine ah.2 ⟨λh=>?_,λh=>?_⟩
  .have h:d.1.1=dU fs:=by simpa using h
   obtain⟨hb1,hb2⟩:=OJ hd;have hl:(0:Int)<=dU fs:=by rw[<-h];exact hb1
   rw[UW hd (.inl h) hi,if_pos h];exact ah.2 ⟨λ_=>⟨⟨⟨rfl,rfl⟩,rfl,rfl⟩,rfl,rfl⟩,λhh=>absurd hl (A86 hh)⟩
  .have h:¬d.1.1=dU fs:=by simpa using h
   obtain⟨hb1,hb2⟩:=OJ hd;refine⟨⟨hb1,hb2⟩,λe he=>⟨trivial,ah.2 ⟨λh2=>?_,λh2=>⟨x+1,⟨rfl,λj hj d' hd'=>?_⟩,rfl⟩⟩⟩⟩
   .have h2:KZ vs ms cs fs d≠0:=by rw[UU he];simpa using h2
    rw[UW hd (.inr h2) hi,if_neg h,UU he];exact⟨⟨rfl,rfl⟩,rfl,rfl⟩
   .by_cases hji:j=x
    .subst hji;rw[hd]at hd';cases hd';exact⟨h,by rw[UU he];simpa using h2⟩
    .exact hi j (by omega) d' hd'
 .obtain⟨rfl,hx⟩:=hx;refine ah.2 ⟨λh=>?_,λh=>?_⟩
  .have h:(0:Int)<=dU fs:=by simpa using h
   rw[RY λj d hd=>hx j (by rw[bI];exact(eX.1 hd).1) d hd,if_pos h]
   exact⟨⟨⟨rfl,rfl⟩,rfl,rfl⟩,rfl,rfl⟩
  .have h:¬(0:Int)<=dU fs:=by simpa using h
   rw[RY λj d hd=>hx j (by rw[bI];exact(eX.1 hd).1) d hd,if_neg h]
   exact⟨rfl,rfl⟩
theorem abM:aN aK.gd 145 amG:=
 (oO (cx:=aK) (n:=39) (cl:=[(189,KW),(190,aql)]) (il:=ilN) (hl:=aqp) (ml:=mlN) (rc:=[]) (lits:=[]) (suf:=[]) (by kernel_rfl) ay ⟨abr,abE,trivial⟩ trivial ⟨XI,trivial⟩ trivial Tryz.func145 (by kernel_rfl) (by kernel_rfl) rfl (by kernel_rfl) (by kernel_rfl) (by simp) λd hd=>by
  obtain⟨⟨vs,ms,cs,fs,ts,⟨⟩⟩,⟨⟩⟩:=d;exact⟨amH vs ms cs fs ts,cast (by kernel_rfl) (agO vs ms cs fs ts hd)⟩).met
abbrev bnd(d:dh [oQ]):Prop:=d.1.1.length<=1000000/\d.1.2.1.length<=1000000/\d.1.2.2.1.length<=1000000/\d.1.2.2.2.1.length<=1000000/\d.1.2.2.2.2.1.length<=1000000/\(∀x∈d.1.2.2.2.1,x.2.1.length<=1000000)/\(dR d.1.2.2.2.1).length<=1000000
def aB(vs:List VD) (ms cs:List ByteArray) (fs:List FD) (ts:List SD):Int×Int×Int:=
 if(Dl vs ms cs fs).1≠0 then Dl vs ms cs fs else if AX vs ms cs fs≠0 then(AX vs ms cs fs,-1,-1) else if(Gm vs ms cs fs).1≠0 then Gm vs ms cs fs else if DY fs ts≠0 then(DY fs ts,-1,-1) else(0,-1,-1)
abbrev Jd:CT:={ ps:=[oQ],pre:=λd=>bnd d,res:=λd=>([],.gY [.c (.v (.int .i64 (aB d.1.1 d.1.2.1 d.1.2.2.1 d.1.2.2.2.1 d.1.2.2.2.2.1).1)),.c (.v (.int .i64 (aB d.1.1 d.1.2.1 d.1.2.2.1 d.1.2.2.2.1 d.1.2.2.2.2.1).2.1)),.c (.v (.int .i64 (aB d.1.1 d.1.2.1 d.1.2.2.1 d.1.2.2.2.1 d.1.2.2.2.2.1).2.2))]) }
theorem amI(vs:List VD) (ms cs:List ByteArray) (fs:List FD) (ts:List SD) (aA:Jd.pre ((vs,ms,cs,fs,ts,()),())):
 let z10:=Dl vs ms cs fs;let z7:=z10.fst=0;let z5:=decide z7;let z6:=decide (AX vs ms cs fs=0);let z11:=Gm vs ms cs fs;let z8:=z11.fst=0;let z9:=aB vs ms cs fs ts;let z4:=[cI (z9.fst),cI (z9.snd.fst),cI (z9.snd.snd)];let z3:=rT z4 [cI 0,cI (-1),cI (-1)];let z2:=True/\br (!decide (DY fs ts=0)) (rT z4 [cI (DY fs ts),cI (-1),cI (-1)]) z3;let z1:=(fs.length<=1000000/\∀(x:ByteArray×(jT.sl.pair Sh.unit).den),x∈fs->List.length x.snd.fst<=1000000)/\br (decide z8) z2 (br (!decide z8) (rT z4 [cI (z11.fst),cI (z11.snd.fst),cI (z11.snd.snd)]) z3);(vs.length<=1000000/\ms.length<=1000000/\cs.length<=1000000/\fs.length<=1000000)/\br z5 (True/\br z6 z1 (br z6 z2 (br (!decide (AX vs ms cs fs=0)) (rT z4 [cI (AX vs ms cs fs),cI (-1),cI (-1)]) z3))) (br z5 z1 (br z5 z2 (br (!decide z7) (rT z4 [cI (z10.fst),cI (z10.snd.fst),cI (z10.snd.snd)]) z3))):=by
 conv=>zeta
 delta cI rT I6;obtain⟨h1,h2,h3,h4,h5,h6,h7⟩:bnd ((vs,ms,cs,fs,ts,()),()):=aA;have hA:∀x∈fs,x.2.1.length<=1000000:=h6;have hB:fs.length<=1000000/\∀x∈fs,x.2.1.length<=1000000:=⟨h4,h6⟩;have hC:vs.length<=1000000/\ms.length<=1000000/\cs.length<=1000000/\fs.length<=1000000:=⟨h1,h2,h3,h4⟩;clear h1 h2 h3 h4 h5 h6 h7 hA;unfold aB;simp only[ah]
 repeat' (first | exact hB | exact hC | (refine And.intro ?_ ?_) | (intro _))
 all_goals first | trivial | rfl | (clear hB hC;simp_all;done)
theorem DZ:aN aK.gd 74 Jd:=
 jG (cx:=aK) (n:=40) (cl:=[(143,amB),(144,aqn),(145,amG),(146,aqo)]) ay ⟨abG,abI,abM,abJ,trivial⟩ Tryz.func74 λd hd=>by
  obtain⟨⟨vs,ms,cs,fs,ts,⟨⟩⟩,⟨⟩⟩:=d;exact⟨λ_=>none,cast (by kernel_rfl) (amI vs ms cs fs ts hd)⟩
abbrev abN:CT:={ ps:=[oQ],pre:=λd=>bnd d,res:=λd=>([],vB (decide ((aB d.1.1 d.1.2.1 d.1.2.2.1 d.1.2.2.2.1 d.1.2.2.2.2.1).1=0))) }
theorem abO{hi:Int}:∀(l:List Int) (lo:Int),SS l->(∀x∈l,lo<=x/\x < hi)->lo<=hi->(l.length:Int)<=hi - lo
 | [],lo,_,_,h=>by simp;omega
 | x :: l,lo,hs,hb,h=>by
   obtain⟨h1,h2⟩:=X7.1 hs;obtain⟨b1,b2⟩:=hb x (by simp)
   have:=abO l (x+1) h2 (λy hy=>⟨by have:=h1 y hy;omega,(hb y (by simp[hy])).2⟩) (by omega)
   simp only[sZ];omega
theorem abP{n:Nat} (hs:SS l) (hb:∀x∈l,0<=x/\x < (n:Int)):l.length<=n:=by
 have:=abO l 0 hs hb (by omega)
 omega
theorem nU(h:(aB vs ms cs fs ts).1=0):AX vs ms cs fs=0/\(Gm vs ms cs fs).1=0/\DY fs ts=0:=by
 unfold aB at h;split at h
 .rename_i h1;exact absurd h h1
 .split at h
  .rename_i h1;exact absurd h h1
  .split at h
   .rename_i h1;exact absurd h h1
   .split at h
    .rename_i h1;exact absurd h h1
    .rename_i h1 h2 h3 h4;exact⟨by omega,by omega,by omega⟩
theorem amJ(h:(Gm vs ms cs fs).1=0):∀d∈dR fs,KZ vs ms cs fs d=0:=by
 unfold Gm at h;split at h
 .rename_i d hd;have hp:=Qk hd;split at h
  .cases h
  .rename_i h1;simp only[wX,dG]at hp;rcases hp with hp | hp
   .exact absurd hp h1
   .exact absurd h hp
 .rename_i hd;intro d hm;have:=Ye.1 hd d hm;simp only[wX,dG,not_or]at this;omega
theorem aI{α:Type 1}{Q:α->Prop}{V:Prop} (a:α) (v:V) (h:V=Q a):∃a,Q a:=⟨a,cast h v⟩
def XJ(vs:List VD) (ms cs:List ByteArray) (fs:List FD) (ts:List SD):Bool:=decide (vs.length<=20/\ms.length<=20/\cs.length<=20/\fs.length<=20/\ts.length<=20) && fs.all λf=>decide (f.2.1.length<=100)
abbrev aqr:CT:={ ps:=[oQ],pre:=λd=>True,res:=λd=>([],vB (XJ d.1.1 d.1.2.1 d.1.2.2.1 d.1.2.2.2.1 d.1.2.2.2.2.1)) }
abbrev aqs(vs:List VD) (ms cs:List ByteArray) (fs:List FD) (ts:List SD):Nat->Option (St->iE):=λk=>match k with
 | 4=>some λ_=>.inv { α:=Nat,slots:=λk=>[(3,.c (.v (.int .i64 k)))],res:=λk=>[],inv:=λk=>k<=(fs).length/\∀j < k,∀f,fs[j]?=some f->f.2.1.length<=100,meas:=λk=>(fs).length - k }
 | _=>none
theorem amK(vs:List VD) (ms cs:List ByteArray) (fs:List FD) (ts:List SD):
 let z3:=qB (XJ vs ms cs fs ts) false;let z1:=λ(x:Nat)=>(x<=fs.length/\∀(j:Nat),j < x->∀(f:ByteArray×List ID×Unit),fs[j]?=some f->f.snd.fst.length<=100);let z2:=[g0 (aj.blk 27 [SC.sl Gj vs,SC.sl Sh.str ms,SC.sl Sh.str cs,SC.sl CY fs,SC.sl mO ts])];br (decide (20 < (vs.length:Int)) || decide (20 < (ms.length:Int)) || decide (20 < (cs.length:Int)) || decide (20 < (fs.length:Int)) || decide (20 < (ts.length:Int))) z3 ((∃x,(z1 x)/\(cI 0=cI (x:Int)/\True)/\sm z2)/\∀(x:Nat),(z1 x)->br (decide ((x:Int) < (fs.length:Int))) ((0<=(x:Int)/\(x:Int) < (fs.length:Int))/\∀(d:ByteArray×(jT.sl.pair Sh.unit).den),fs[(x:Int).toNat]?=some d->br (decide (100 < ((List.length d.snd.fst):Int))) z3 (iR ((x:Int)+(1:Int))/\∃x',(z1 x')/\(cI ((x:Int)+(1:Int))=cI (x':Int)/\True)/\sm z2/\fs.length - x' < fs.length - x)) (qB (XJ vs ms cs fs ts) true)):=by
 conv=>zeta
 delta cI g0 qB sm I6 iR
 by_cases hc:¬(vs.length<=20/\ms.length<=20/\cs.length<=20/\fs.length<=20/\ts.length<=20)
 .have e:XJ vs ms cs fs ts=false:=by unfold XJ;rw[yS hc];rfl
  rw[e];refine ah.2 ⟨λ_=>⟨rfl,rfl⟩,λh=>?_⟩
  simp only[lM,A8]at h;omega
 have hc:=Hg.1 hc;refine ah.2 ⟨λh=>?_,λ_=>?_⟩
 .simp only[wX,dG]at h;omega
 refine⟨⟨0,⟨by omega,λj hj=>by omega⟩,⟨rfl,trivial⟩,rfl⟩,λk hk=>ah.2 ⟨λh=>?_,λh=>?_⟩⟩
 .simp only[dG]at h;have hN:(k:Int).toNat=k:=by omega
  rw[hN];refine⟨by omega,λd hd=>ah.2 ⟨λh2=>⟨rfl,?_⟩,λh2=>⟨au.2 (by omega),k+1,⟨by omega,λj hj f hf=>?_⟩,⟨rfl,trivial⟩,rfl,by omega⟩⟩⟩
  .have h2:¬d.2.1.length<=100:=by simp only[dG]at h2;omega
   have e:XJ vs ms cs fs ts=false:=by
    unfold XJ;rw[show(fs.all λf=>decide (f.2.1.length<=100))=false from List.all_eq_false.2 ⟨d,gQ hd,by simpa using h2⟩,Bool.and_false]
   rw[e]
  .by_cases gu:j=k
   .subst gu;rw[hd]at hf;cases hf;simp only[A8]at h2;omega
   .exact hk.2 j (by omega) f hf
 .simp only[A8]at h;have e:XJ vs ms cs fs ts=true:=by
   unfold XJ;rw[vg hc,Hl,P7];intro f hf;obtain⟨j,hj⟩:=yT hf;simpa using hk.2 j (by have:=(eX.1 hj).1;omega) f hj
  rw[e];exact⟨rfl,rfl⟩
theorem agP:aN aK.gd 10 aqr:=
 jG (cx:=aK) (n:=47) (cl:=[]) ay trivial Tryz.func10 λd hd=>by
  obtain⟨⟨vs,ms,cs,fs,ts,⟨⟩⟩,⟨⟩⟩:=d;exact aI (aqs vs ms cs fs ts) (amK vs ms cs fs ts) (by kernel_rfl)
abbrev ajO:CT:={ ps:=[oQ],pre:=λd=>True,res:=λd=>([],.one (.c (.v (.int .i64 (DY d.1.2.2.2.1 d.1.2.2.2.2.1))))) }
abbrev amL(vs:List VD) (ms cs:List ByteArray) (fs:List FD) (ts:List SD):Nat->Option (St->iE):=λk=>match k with
 | 4=>some λ_=>.inv { α:=Nat,slots:=λk=>[(3,.c (.v (.int .i64 k)))],res:=λk=>[],inv:=λk=>k<=(ts).length/\∀j < k,∀t,ts[j]?=some t->DX fs.length t=0,meas:=λk=>(ts).length - k }
 | _=>none
theorem agQ(vs:List VD) (ms cs:List ByteArray) (fs:List FD) (ts:List SD):
 let z1:=λ(x:Nat)=>(x<=ts.length/\∀(j:Nat),j < x->∀(t:Int×Int×Unit),ts[j]?=some t->DX fs.length t=0);let z2:=[g0 (aj.blk 27 [SC.sl Gj vs,SC.sl Sh.str ms,SC.sl Sh.str cs,SC.sl CY fs,SC.sl mO ts])];let z3:=λ(x:Nat)=>0<=(x:Int)/\(x:Int) < (ts.length:Int);br (decide ((ts.length:Int) < (1:Int)) || decide (8 < (ts.length:Int))) (qI (DY fs ts) (4:Int)) ((∃x,(z1 x)/\(cI 0=cI (x:Int)/\True)/\sm z2)/\∀(x:Nat),(z1 x)->br (decide ((x:Int) < (ts.length:Int))) ((z3 x)/\∀(d:Int×(I6.pair Sh.unit).den),ts[(x:Int).toNat]?=some d->((!decide (d.fst < 0))=true->0<=(x:Int)/\(x:Int) < (ts.length:Int))/\∀(dH:Int×(I6.pair Sh.unit).den),((!decide (d.fst < 0))=true->ts[(x:Int).toNat]?=some dH)->br (decide (d.fst < 0) || decide ((fs.length:Int)<=dH.fst)) (qI (DY fs ts) (11:Int)) ((z3 x)/\∀(d:Int×(I6.pair Sh.unit).den),ts[(x:Int).toNat]?=some d->True/\br (!bY (d.snd.fst,()).fst) (qI (DY fs ts) (2:Int)) (iR ((x:Int)+(1:Int))/\∃x',(z1 x')/\(cI ((x:Int)+(1:Int))=cI (x':Int)/\True)/\sm z2/\ts.length - x' < ts.length - x))) (qI (DY fs ts) (0:Int))):=by
 conv=>zeta
 delta cI g0 qI sm I6 iR
 by_cases hc:ts.length < 1\/8 < ts.length
 .have e:DY fs ts=4:=by unfold DY;rw[if_pos hc]
  rw[e];refine ah.2 ⟨λ_=>⟨rfl,rfl⟩,λh=>?_⟩
  simp only[lM,A8]at h;omega
 refine ah.2 ⟨λh=>?_,λh=>⟨⟨0,⟨by omega,λj hj=>by omega⟩,⟨rfl,trivial⟩,rfl⟩,λk hk=>ah.2 ⟨λh2=>?_,λh2=>?_⟩⟩⟩
 .simp only[wX,dG]at h;omega
 .simp only[dG]at h2;have hN:(k:Int).toNat=k:=by omega
  rw[hN];refine⟨by omega,λd hd=>⟨λ_=>by omega,λd1 hd1=>ah.2 ⟨λh3=>⟨rfl,?_⟩,λh3=>⟨by omega,λd2 hd2=>⟨trivial,ah.2 ⟨λh4=>⟨rfl,?_⟩,λh4=>⟨au.2 (by omega),k+1,⟨by omega,λj hj v hv=>?_⟩,⟨rfl,trivial⟩,rfl,by omega⟩⟩⟩⟩⟩⟩⟩
  .have h3:d.1 < 0\/(fs.length:Int)<=d.1:=by
    by_cases hn:d.1 < 0
    .exact .inl hn
    .have:=hd1 (by simp[hn])
     rw[hd]at this;cases this;exact by simpa using h3
   have e:DX fs.length d=11:=by unfold DX;rw[if_pos h3]
   rw[Ae hc hd (by rw[e];simp) hk.2,e]
  all_goals
   rw[hd]at hd2;cases hd2;have h3:¬(d.1 < 0\/(fs.length:Int)<=d.1):=by
    simp only[lM,A8]at h3;have:=hd1 (by rw[yS h3.1];rfl)
    rw[hd]at this;cases this;exact λq=>q.elim (λq=>h3.1 q) (λq=>h3.2 q)
  .have h4:bY d.2.1=false:=by simpa using h4
   have e:DX fs.length d=2:=by unfold DX;rw[if_neg h3,if_neg (by rw[h4];simp)]
   rw[Ae hc hd (by rw[e];simp) hk.2,e]
  .have h4:bY d.2.1=true:=by simpa using h4
   by_cases gu:j=k
   .subst gu;rw[hd]at hv;cases hv;unfold DX;rw[if_neg h3,if_pos h4]
   .exact hk.2 j (by omega) v hv
 .simp only[A8]at h2;rw[UR hc λj t hj=>hk.2 j (by have:=(eX.1 hj).1;omega) t hj];exact⟨rfl,rfl⟩
theorem abQ:aN aK.gd 136 ajO:=
 jG (cx:=aK) (n:=48) (cl:=[(134,RN)]) ay ⟨OH,trivial⟩ Tryz.func136 λd hd=>by
  obtain⟨⟨vs,ms,cs,fs,ts,⟨⟩⟩,⟨⟩⟩:=d;exact aI (amL vs ms cs fs ts) (agQ vs ms cs fs ts) (by kernel_rfl)
def exS(vs:List VD) (ms cs:List ByteArray) (fs:List FD) (op obj n:Int):Bool:=!decide (0<=qh vs ms cs fs op/\(obj < 0\/qh vs ms cs fs op<=obj)) && !decide (op=18/\(n < 0\/(ms.length:Int)<=n))
abbrev ajP:CT:={ ps:=[oQ,jT],pre:=λd=>True,res:=λd=>([],vB (exS d.1.1 d.1.2.1 d.1.2.2.1 d.1.2.2.2.1 d.2.1.1 d.2.1.2.2.2.2.1 d.2.1.2.2.2.2.2.1)) }
theorem agR(vs:List VD) (ms cs:List ByteArray) (fs:List FD) (ts:List SD) (op a b c obj n fn ord:Int):
 let z7:=exS vs ms cs fs op obj n;let z4:=qB z7 (decide (0<=obj) && decide (obj < (vs.length:Int)));let z5:=qB z7 (decide (0<=obj) && decide (obj < (ms.length:Int)));let z6:=qB z7 (decide (0<=obj) && decide (obj < (cs.length:Int)));let z3:=br (decide (op=21)) (qB z7 (decide (0<=obj) && decide (obj < (fs.length:Int)))) (qB z7 true);let z2:=br (decide (op=18)) (br (decide (n < 0) || decide ((ms.length:Int)<=n)) (qB z7 false) z6) (br (decide (op=19)) (br (decide (op=19)) z6 z3) (br (decide (op=20)) z6 z3));let z1:=br (decide (op=15)) (br (decide (op=15)) z5 z2) (br (decide (op=16)) (br (decide (op=16)) z5 z2) (br (decide (op=17)) z5 z2));br (decide (op=8)) (br (decide (op=8)) z4 z1) (br (decide (op=9)) (br (decide (op=9)) z4 z1) (br (decide (op=10)) (br (decide (op=10)) z4 z1) (br (decide (op=11)) (br (decide (op=11)) z4 z1) (br (decide (op=12)) (br (decide (op=12)) z4 z1) (br (decide (op=14)) z4 z1))))):=by
 conv=>zeta
 delta qB;simp only[ah]
 repeat' (first | (refine And.intro ?_ ?_) | (intro _))
 all_goals first | rfl | (simp_all[exS,qh];done) | (simp_all[exS,qh];omega) | (simp_all[exS,qh];rw[Et];simp<;>omega)
theorem abR:aN aK.gd 179 ajP:=
 jG (cx:=aK) (n:=61) (cl:=[]) ay trivial Tryz.func179 λd hd=>by
  obtain⟨⟨vs,ms,cs,fs,ts,⟨⟩⟩,⟨op,a,b,c,obj,n,fn,ord,⟨⟩⟩,⟨⟩⟩:=d;exact aI (λ_=>none) (agR vs ms cs fs ts op a b c obj n fn ord) (by kernel_rfl)
abbrev ajQ:CT:={ ps:=[.str],pre:=λd=>True,res:=λd=>([],vB (dS d.1)) }
abbrev amM(s:ByteArray):Nat->Option (St->iE):=λk=>match k with
 | 4=>some λ_=>.inv { α:=Nat,slots:=λk=>[(3,.c (.v (.int .i64 k)))],res:=λk=>[],inv:=λk=>k<=((List.range s.size)).length/\∀j < k,(uh (Jc s j)=true\/(j≠0/\okB (Jc s j)=true)),meas:=λk=>((List.range s.size)).length - k }
 | _=>none
theorem agS(s:ByteArray):
 let z2:=List.range s.size;let z1:=λ(x:Nat)=>(x<=z2.length/\∀(j:Nat),j < x->uh (Jc s j)=true\/j≠0/\okB (Jc s j)=true);br (decide ((s.size:Int) < (1:Int)) || decide (16 < (s.size:Int))) (qB (dS s) false) ((∃x,(z1 x)/\(cI 0=cI (x:Int)/\True)/\([]:List dP)=[])/\∀(x:Nat),(z1 x)->br (decide ((x:Int) < (s.size:Int))) ((0<=(x:Int)/\(x:Int) < (s.size:Int))/\∀(u:UInt8),s[(x:Int).toNat]?=some u->br (!(decide (97<=(u.toNat:Int)) && decide ((u.toNat:Int)<=(122:Int)) || decide (65<=(u.toNat:Int)) && decide ((u.toNat:Int)<=(90:Int))) && (decide ((x:Int)=(0:Int)) || !decide ((u.toNat:Int)=(95:Int)) && (decide ((u.toNat:Int) < (48:Int)) || decide (57 < (u.toNat:Int))))) (qB (dS s) false) (iR ((x:Int)+(1:Int))/\∃x',(z1 x')/\(cI ((x:Int)+(1:Int))=cI (x':Int)/\True)/\([]:List dP)=[]/\z2.length - x' < z2.length - x)) (qB (dS s) true)):=by
 conv=>zeta
 delta dP cI qB iR;have hl:(List.range s.size).length=s.size:=List.length_range;rw[hl]
 by_cases hs:¬(1<=s.size/\s.size<=16)
 .have:dS s=false:=by unfold dS;rw[yS hs];rfl
  rw[this];refine ah.2 ⟨λ_=>⟨rfl,rfl⟩,λh=>?_⟩
  simp only[lM,A8]at h;omega
 have hs:=Hg.1 hs;refine ah.2 ⟨λh=>?_,λ_=>⟨⟨0,⟨by omega,λj hj=>by omega⟩,⟨rfl,trivial⟩,rfl⟩,λk hk=>ah.2 ⟨λh=>?_,λh=>?_⟩⟩⟩
 .simp only[wX,dG]at h;omega
 .simp only[dG]at h;have hN:(k:Int).toNat=k:=by omega
  rw[hN];refine⟨by omega,λu hu=>?_⟩
  have eu:=KX hu;have eL:uh (Jc s k)=(decide (97<=(u.toNat:Int)) && decide ((u.toNat:Int)<=122) || decide (65<=(u.toNat:Int)) && decide ((u.toNat:Int)<=90)):=by
   rw[eu];unfold uh;rw[Et];simp
  rw[<-eL];refine ah.2 ⟨λh2=>⟨rfl,?_⟩,λh2=>⟨au.2 (by omega),k+1,⟨by omega,λj hj=>?_⟩,⟨rfl,trivial⟩,rfl,by omega⟩⟩
  .have:dS s=false:=by
    simp only[cZ,wX,Ep,dG,A8]at h2;obtain⟨a,b⟩:=h2;unfold dS;rcases b with b | b
    .have:k=0:=by omega
     subst this;rw[a];simp
    .have hb:okB (Jc s k)=false:=by
      unfold okB;rw[a,eu];simp;omega
     rw[show((List.range s.size).all λi=>okB (Jc s i))=false from List.all_eq_false.2 ⟨k,by simp;omega,by rw[hb];simp⟩,Bool.and_false]
   rw[this]
  .by_cases gu:j=k
   .subst gu;cases hA:uh (Jc s j) with
    | true=>exact .inl rfl
    | false=>
      rw[hA]at h2;refine .inr ?_;simp at h2;refine⟨by omega,?_⟩
      unfold okB;rw[eu];simp;omega
   .exact hk.2 j (by omega)
 .simp only[A8]at h;have:dS s=true:=by
   unfold dS;have h0:uh (Jc s 0)=true:=(hk.2 0 (by omega)).elim id λq=>absurd rfl q.1
   rw[vg hs,h0];simp only[Hl];rw[P7];intro i hi;simp at hi;rcases hk.2 i (by omega) with q | q
   .unfold okB;rw[q];rfl
   .exact q.2
  rw[this];exact⟨rfl,rfl⟩
theorem abS:aN aK.gd 178 ajQ:=
 jG (cx:=aK) (n:=55) (cl:=[]) ay trivial Tryz.func178 λd hd=>by
  obtain⟨s,⟨⟩⟩:=d;exact aI (amM s) (agS s) (by kernel_rfl)
abbrev RZ:CT:={ ps:=[.sl .str],pre:=λd=>d.1.length<=1000000,res:=λd=>([],.gY [.c (.v (.int .i64 (if(gX d.1).1=0 then 0 else(gX d.1).2))),.c (.v (.int .i64 (gX d.1).1))]) }
abbrev amN(l:List ByteArray):Nat->Option (St->iE):=λk=>match k with
 | 2=>some λ_=>.inv { α:=Nat,slots:=λk=>[(4,.c (.v (.int .i64 k)))],res:=λ_=>[],inv:=λk=>k<=l.length/\∀j < k,dS (l.getD j ⟨#[]⟩)=true/\uV (l.take j) (l.getD j ⟨#[]⟩)=false,meas:=λk=>l.length - k }
 | 7=>some λs=>.inv { α:=Nat,slots:=λk=>[(5,.c (.v (.int .i64 k)))],res:=λ_=>[],inv:=λk=>k<=(UD s 4).toNat/\∀j < k,¬l.getD j ⟨#[]⟩=l.getD ((UD s 4).toNat) ⟨#[]⟩,meas:=λk=>(UD s 4).toNat - k }
 | _=>none
theorem agT(l:List ByteArray) (aA:RZ.pre (l,())):
 let z1:=λ(x:Nat)=>(x<=l.length/\∀(j:Nat),j < x->dS (l.getD j { data:=#[]:ByteArray })=true/\uV (List.take j l) (l.getD j { data:=#[]:ByteArray })=false);let z4:=λ(x:Nat)=>0<=(x:Int)/\(x:Int) < (l.length:Int);let z3:=[cI (if(gX l).fst=0 then(0:Int) else(gX l).snd),cI ((gX l).fst)];let z2:=λ(x_1 x:Nat)=>(x_1<=(x:Int).toNat/\∀(j:Nat),j < x_1->¬l.getD j { data:=#[]:ByteArray }=l.getD (x:Int).toNat { data:=#[]:ByteArray });let z5:=λ(x_1:Nat)=>(x_1:Int)+(1:Int);(∃x,(z1 x)/\(cI 0=cI (x:Int)/\True)/\([]:List dP)=[])/\∀(x:Nat),(z1 x)->br (decide ((x:Int) < (l.length:Int))) ((z4 x)/\∀(d:ByteArray),l[(x:Int).toNat]?=some d->True/\br (!dS d) (rT z3 [cI (x:Int),cI 6]) ((∃x_1,(z2 x_1 x)/\(cI 0=cI (x_1:Int)/\True)/\([]:List dP)=[])/\∀(x_1:Nat),(z2 x_1 x)->br (decide ((x_1:Int) < (x:Int))) ((z4 x_1)/\∀(dH:ByteArray),l[(x_1:Int).toNat]?=some dH->(z4 x)/\∀(dN:ByteArray),l[(x:Int).toNat]?=some dN->br (decide (dH=dN)) (rT z3 [cI (x:Int),cI 7]) (iR (z5 x_1)/\∃x',(x'<=(x:Int).toNat/\∀(j:Nat),j < x'->¬l.getD j { data:=#[]:ByteArray }=l.getD (x:Int).toNat { data:=#[]:ByteArray })/\(cI (z5 x_1)=cI (x':Int)/\True)/\([]:List dP)=[]/\(x:Int).toNat - x' < (x:Int).toNat - x_1)) (iR (z5 x)/\∃x',(z1 x')/\(cI (z5 x)=cI (x':Int)/\True)/\([]:List dP)=[]/\l.length - x' < l.length - x))) (rT z3 [cI 0,cI 0]):=by
 conv=>zeta
 delta dP cI rT iR;have hp:l.length<=1000000:=aA;refine⟨⟨0,⟨by omega,λj hj=>by omega⟩,⟨rfl,trivial⟩,rfl⟩,λk hk=>ah.2 ⟨λh=>?_,λh=>?_⟩⟩
 .simp only[dG]at h;have hN:(k:Int).toNat=k:=by omega
  rw[hN];refine⟨by omega,λd hd=>?_⟩
  have hg:l.getD k ⟨#[]⟩=d:=by rw[Il,hd];rfl
  refine⟨trivial,ah.2 ⟨λh2=>⟨rfl,?_⟩,λh2=>⟨⟨0,⟨by omega,λj hj=>by omega⟩,⟨rfl,trivial⟩,rfl⟩,λm hm=>ah.2 ⟨λh3=>?_,λh3=>⟨au.2 (by omega),k+1,⟨by omega,λj hj=>?_⟩,⟨rfl,trivial⟩,rfl,by omega⟩⟩⟩⟩⟩
  .have h2:dS d=false:=by simpa using h2
   rw[wR (by omega) hk.2 (.inl (by rw[hg];exact h2)),hg,h2];rfl
  .simp only[dG]at h3;have hM:(m:Int).toNat=m:=by omega
   rw[hM];refine⟨by omega,λd1 hd1=>⟨by omega,λd2 hd2=>?_⟩⟩
   rw[hd]at hd2;cases hd2;have hg1:l.getD m ⟨#[]⟩=d1:=by rw[Il,hd1];rfl
   refine ah.2 ⟨λh4=>⟨rfl,?_⟩,λh4=>⟨au.2 (by omega),m+1,⟨by omega,λj hj=>?_⟩,⟨rfl,trivial⟩,rfl,by omega⟩⟩
   .have h3':uV (l.take k) d=true:=MR.2 ⟨d1,gQ (i:=m) (by rw[aki (by omega)];exact hd1),h4⟩
    have h2v:dS d=true:=by simpa using h2
    rw[wR (by omega) hk.2 (.inr (by rw[hg];exact h3')),hg,h2v];rfl
   .by_cases hjm:j=m
    .subst hjm;rw[hg1,hg];simpa using h4
    .exact hm.2 j (by omega)
  .simp only[A8]at h3
   by_cases gu:j=k
   .subst gu;rw[hg];refine⟨by simpa using h2,?_⟩
    unfold uV;rw[Wi];intro y hy;obtain⟨i,hi⟩:=yT hy;have hij:i < j:=by
     have:=(eX.1 hi).1;simp at this;omega
    rw[aki hij]at hi;have:=hm.2 i (by omega)
    rw[hg,Il,hi]at this;simpa using this
   .exact hk.2 j (by omega)
 .simp only[A8]at h;rw[OI λj hj=>hk.2 j (by omega)];exact⟨rfl,rfl⟩
theorem abT:aN aK.gd 133 RZ:=
 jG (cx:=aK) (n:=34) (cl:=[(178,ajQ)]) ay ⟨abS,trivial⟩ Tryz.func133 λd hd=>by
  obtain⟨l,⟨⟩⟩:=d;exact aI (amN l) (agT l hd) (by kernel_rfl)
abbrev abU:CT:={ ps:=[oQ],pre:=λd=>d.1.1.length<=1000000/\d.1.2.2.2.1.length<=1000000,res:=λd=>([.row 9 .str (iF d.1.1),.row 9 .str (jH d.1.2.2.2.1)],.gY [.c (.row 0),.c (.row 1)]) }
abbrev amO(vs:List VD) (ms cs:List ByteArray) (fs:List FD) (ts:List SD):Nat->Option (St->iE):=λk=>match k with
 | 3=>some λ_=>.inv { α:=Nat,slots:=λk=>[(6,.c (.v (.int .i64 k))),(4,.c (.row 1))],res:=λk=>[(1,.row 9 .str (iF (vs.take k)))],inv:=λk=>k<=vs.length,meas:=λk=>vs.length - k,nil:=[(4,9,.str)] }
 | 7=>some λ_=>.inv { α:=Nat,slots:=λk=>[(7,.c (.v (.int .i64 k))),(5,.c (.row 2))],res:=λk=>[(2,.row 9 .str (jH (fs.take k)))],inv:=λk=>k<=fs.length,meas:=λk=>fs.length - k,nil:=[(5,9,.str)] }
 | _=>none
theorem agU(vs:List VD) (ms cs:List ByteArray) (fs:List FD) (ts:List SD) (aA:abU.pre ((vs,ms,cs,fs,ts,()),())):
 let z3:=[SC.sl Gj vs,SC.sl Sh.str ms,SC.sl Sh.str cs,SC.sl CY fs,SC.sl mO ts];let z5:=λ(x:Nat)=>iF (List.take x vs);let z2:=λ(x:Nat)=>[g0 (aj.blk 27 z3),g0 (aj.row 9 Sh.str (z5 x))];let z4:=λ(x:Nat)=>(x:Int)+(1:Int);let z1:=λ(x x_1:Nat)=>[g0 (aj.blk 27 z3),g0 (aj.row 9 Sh.str (z5 x)),g0 (aj.row 9 Sh.str (jH (List.take x_1 fs)))];(∃x,x<=vs.length/\(cI 0=cI (x:Int)/\SV.c (SC.row (Nat.succ 0))=SV.c (SC.row 1)/\True)/\[g0 (aj.blk 27 z3),g0 (aj.row 9 Sh.str [])]=(z2 x))/\∀(x:Nat),x<=vs.length->br (decide ((x:Int) < (vs.length:Int))) ((0<=(x:Int)/\(x:Int) < (vs.length:Int))/\∀(d:ByteArray×(I6.pair Sh.unit).den),vs[(x:Int).toNat]?=some d->jY (List.length (z5 x)+List.length ([d.fst])) 16/\iR (z4 x)/\∃x',x'<=vs.length/\(cI (z4 x)=cI (x':Int)/\SV.c (SC.row 1)=SV.c (SC.row 1)/\True)/\[g0 (aj.blk 27 z3),g0 (aj.row 9 Sh.str (iF (List.take x vs)++[d.fst]))]=(z2 x')/\vs.length - x' < vs.length - x) ((∃x_1,x_1<=fs.length/\(cI 0=cI (x_1:Int)/\SV.c (SC.row (Nat.succ 0).succ)=SV.c (SC.row 2)/\True)/\[g0 (aj.blk 27 z3),g0 (aj.row 9 Sh.str (z5 x)),g0 (aj.row 9 Sh.str [])]=(z1 x x_1))/\∀(x_1:Nat),x_1<=fs.length->br (decide ((x_1:Int) < (fs.length:Int))) ((0<=(x_1:Int)/\(x_1:Int) < (fs.length:Int))/\∀(d:ByteArray×(jT.sl.pair Sh.unit).den),fs[(x_1:Int).toNat]?=some d->jY (List.length (jH (List.take x_1 fs))+List.length ([d.fst])) 16/\iR (z4 x_1)/\∃x',x'<=fs.length/\(cI (z4 x_1)=cI (x':Int)/\SV.c (SC.row 2)=SV.c (SC.row 2)/\True)/\[g0 (aj.blk 27 z3),g0 (aj.row 9 Sh.str (z5 x)),g0 (aj.row 9 Sh.str (jH (List.take x_1 fs)++[d.fst]))]=(z1 x x')/\fs.length - x' < fs.length - x_1) ([aj.row 9 Sh.str (iF vs),aj.row 9 Sh.str (jH fs)]=[aj.row 9 Sh.str (z5 x),aj.row 9 Sh.str (jH (List.take x_1 fs))]/\aW.gY [SV.c (SC.row 0),SV.c (SC.row 1)]=aW.gY [SV.c (SC.row 0),SV.c (SC.row (Nat.succ 0))])):=by
 conv=>zeta
 delta cI g0 I6 iR;obtain⟨hp1,hp2⟩:vs.length<=1000000/\fs.length<=1000000:=aA;refine⟨⟨0,by omega,⟨rfl,rfl,trivial⟩,rfl⟩,λk hk=>ah.2 ⟨λh=>?_,λh=>⟨⟨0,by omega,⟨rfl,rfl,trivial⟩,rfl⟩,λm hm=>ah.2 ⟨λh2=>?_,λh2=>?_⟩⟩⟩⟩
 .simp only[dG]at h;refine⟨by omega,λd hd=>?_⟩
  have hd:vs[k]?=some d:=by simpa using hd
  have e:iF (vs.take (k+1))=iF (vs.take k)++[d.1]:=by
   unfold iF;rw[Hf,hd];simp
  refine⟨?_,au.2 (by omega),k+1,by omega,⟨rfl,rfl,trivial⟩,?_,by omega⟩
  .have:(iF (vs.take k)).length<=1000000:=by simp[iF];omega
   exact bJ.2 (by simp only[sZ,AY];omega)
  .rw[e]
 .simp only[dG]at h2;refine⟨by omega,λd hd=>?_⟩
  have hd:fs[m]?=some d:=by simpa using hd
  have e:jH (fs.take (m+1))=jH (fs.take m)++[d.1]:=by
   unfold jH;rw[Hf,hd];simp
  refine⟨?_,au.2 (by omega),m+1,by omega,⟨rfl,rfl,trivial⟩,?_,by omega⟩
  .have:(jH (fs.take m)).length<=1000000:=by simp[jH];omega
   exact bJ.2 (by simp only[sZ,AY];omega)
  .rw[e]
 .simp only[A8]at h h2;rw[qV (by omega),qV (by omega)];exact⟨rfl,rfl⟩
theorem abV:aN aK.gd 132 abU:=
 jG (cx:=aK) (n:=42) (cl:=[]) ay trivial Tryz.func132 λd hd=>by
  obtain⟨⟨vs,ms,cs,fs,ts,⟨⟩⟩,⟨⟩⟩:=d;exact aI (amO vs ms cs fs ts) (agU vs ms cs fs ts hd) (by kernel_rfl)
def Af(vs:List VD) (ms cs:List ByteArray) (fs:List FD) (l:List ID):Int×Int:=if 64 < l.length then(4,-1) else match l.findIdx? (λi=>decide (wS vs ms cs fs i l.length≠0)) with
 | some k=>(wS vs ms cs fs (l.getD k (0,0,0,0,0,0,0,0,())) l.length,k)
 | none=>(0,-1)
theorem Ag{l:List ID}{d:ID} (hl:¬64 < l.length) (hd:l[k]?=some d) (hb:wS vs ms cs fs d l.length≠0) (hn:∀j < k,∀i,l[j]?=some i->wS vs ms cs fs i l.length=0):Af vs ms cs fs l=(wS vs ms cs fs d l.length,(k:Int)):=by
 have iT:k < l.length:=(eX.1 hd).1;have:l.findIdx? (λi=>decide (wS vs ms cs fs i l.length≠0))=some k:=by
  rw[A55];refine⟨iT,by rw[(eX.1 hd).2];simpa using hb,λj hj=>?_⟩
  have:=hn j hj l[j] (mP (by omega))
  simpa using this
 unfold Af;rw[if_neg hl,this];show(wS vs ms cs fs (l.getD k _) l.length,(k:Int))=_;rw[Il,hd];rfl
theorem agV{l:List ID} (hl:¬64 < l.length) (hn:∀(j:Nat) i,l[j]?=some i->wS vs ms cs fs i l.length=0):Af vs ms cs fs l=(0,-1):=by
 have:l.findIdx? (λi=>decide (wS vs ms cs fs i l.length≠0))=none:=by
  rw[A76];intro y hy;obtain⟨j,hj⟩:=yT hy;simpa using hn j y hj
 unfold Af;rw[if_neg hl,this]
theorem aqt{d:ID} (h:sQ d≠0):wS vs ms cs fs d m=sQ d:=by unfold wS ciS;rw[if_pos h]
theorem asw{d:ID} (h:sQ d=0) (h2:exS vs ms cs fs d.1 d.2.2.2.2.1 d.2.2.2.2.2.1=false):wS vs ms cs fs d m=11:=by
 unfold exS at h2;unfold wS ciS;rw[if_neg (by simpa using h)]
 split
 .rfl
 .rename_i h3;rw[yS h3]at h2;rw[Ql,Hl,uP]at h2;rw[if_pos (MI h2)]
theorem asx{d:ID} (h:sQ d=0) (h2:exS vs ms cs fs d.1 d.2.2.2.2.1 d.2.2.2.2.2.1=true):wS vs ms cs fs d m=if(d.1=4\/d.1=5)/\(d.2.2.2.2.2.1 < 0\/m < d.2.2.2.2.2.1) then 12 else 0:=by
 unfold exS at h2;rw[cZ,Ep,Ep]at h2;unfold wS ciS;rw[if_neg (by simpa using h),if_neg (A86 h2.1),if_neg (A86 h2.2)]
abbrev ajR:CT:={ ps:=[oQ,CY],pre:=λd=>True,res:=λd=>([],.gY [.c (.v (.int .i64 (Af d.1.1 d.1.2.1 d.1.2.2.1 d.1.2.2.2.1 d.2.1.2.1).1)),.c (.v (.int .i64 (Af d.1.1 d.1.2.1 d.1.2.2.1 d.1.2.2.2.1 d.2.1.2.1).2))]) }
abbrev amP(vs:List VD) (ms cs:List ByteArray) (fs:List FD) (ts:List SD) (nm:ByteArray) (l:List ID):Nat->Option (St->iE):=λk=>match k with
 | 4=>some λ_=>.inv { α:=Nat,slots:=λk=>[(6,.c (.v (.int .i64 k)))],res:=λk=>[],inv:=λk=>k<=(l).length/\∀j < k,∀i,l[j]?=some i->wS vs ms cs fs i l.length=0,meas:=λk=>(l).length - k }
 | _=>none
theorem agW(vs:List VD) (ms cs:List ByteArray) (fs:List FD) (ts:List SD) (nm:ByteArray) (l:List ID):
 let z10:=[cI ((Af vs ms cs fs l).fst),cI ((Af vs ms cs fs l).snd)];let z1:=λ(x:Nat)=>(x<=l.length/\∀(j:Nat),j < x->∀(i:Int×Int×Int×Int×Int×Int×Int×Int×Unit),l[j]?=some i->ciS vs ms cs fs (pY i.fst i.snd.fst i.snd.snd.fst i.snd.snd.snd.fst i.snd.snd.snd.snd.fst i.snd.snd.snd.snd.snd.fst i.snd.snd.snd.snd.snd.snd.fst i.snd.snd.snd.snd.snd.snd.snd.fst) i.fst i.snd.snd.snd.snd.fst i.snd.snd.snd.snd.snd.fst (l.length:Int)=(0:Int));let z5:=[g0 (aj.blk 27 [SC.sl Gj vs,SC.sl Sh.str ms,SC.sl Sh.str cs,SC.sl CY fs,SC.sl mO ts]),g0 (aj.blk 77 [SC.v (Value.string nm),SC.sl jT l])];let z2:=λ(d:ID)=>(d.fst,d.snd.fst,d.snd.snd.fst,d.snd.snd.snd.fst,d.snd.snd.snd.snd.fst,d.snd.snd.snd.snd.snd.fst,d.snd.snd.snd.snd.snd.snd.fst,d.snd.snd.snd.snd.snd.snd.snd.fst,());let z3:=λ(d:ID)=>(d.snd.fst,d.snd.snd.fst,d.snd.snd.snd.fst,d.snd.snd.snd.snd.fst,d.snd.snd.snd.snd.snd.fst,d.snd.snd.snd.snd.snd.snd.fst,d.snd.snd.snd.snd.snd.snd.snd.fst,());let z4:=λ(d:ID)=>(d.snd.snd.fst,d.snd.snd.snd.fst,d.snd.snd.snd.snd.fst,d.snd.snd.snd.snd.snd.fst,d.snd.snd.snd.snd.snd.snd.fst,d.snd.snd.snd.snd.snd.snd.snd.fst,());let z6:=λ(d:ID)=>(d.snd.snd.snd.fst,d.snd.snd.snd.snd.fst,d.snd.snd.snd.snd.snd.fst,d.snd.snd.snd.snd.snd.snd.fst,d.snd.snd.snd.snd.snd.snd.snd.fst,());let z7:=λ(d:ID)=>(d.snd.snd.snd.snd.fst,d.snd.snd.snd.snd.snd.fst,d.snd.snd.snd.snd.snd.snd.fst,d.snd.snd.snd.snd.snd.snd.snd.fst,());let z8:=λ(d:ID)=>(d.snd.snd.snd.snd.snd.fst,d.snd.snd.snd.snd.snd.snd.fst,d.snd.snd.snd.snd.snd.snd.snd.fst,());let z9:=λ(d:ID)=>(d.snd.snd.snd.snd.snd.snd.fst,d.snd.snd.snd.snd.snd.snd.snd.fst,());br (decide (64 < (l.length:Int))) (rT z10 [cI 4,cI (-1)]) ((∃x,(z1 x)/\(cI 0=cI (x:Int)/\True)/\sm z5)/\∀(x:Nat),(z1 x)->br (decide ((x:Int) < (l.length:Int))) ((0<=(x:Int)/\(x:Int) < (l.length:Int))/\∀(d:ID),l[(x:Int).toNat]?=some d->True/\br (!decide (pY (z2 d).fst (z3 d).fst (z4 d).fst (z6 d).fst (z7 d).fst (z8 d).fst (z9 d).fst (d.snd.snd.snd.snd.snd.snd.snd.fst,()).fst=0)) (rT z10 [cI (pY (z2 d).fst (z3 d).fst (z4 d).fst (z6 d).fst (z7 d).fst (z8 d).fst (z9 d).fst (d.snd.snd.snd.snd.snd.snd.snd.fst,()).fst),cI (x:Int)]) (True/\br (!exS vs ms cs fs (z2 d).fst (z7 d).fst (z8 d).fst) (rT z10 [cI 11,cI (x:Int)]) (br ((decide (d.fst=4) || decide (d.fst=5)) && (decide (d.snd.snd.snd.snd.snd.fst < 0) || decide ((l.length:Int) < d.snd.snd.snd.snd.snd.fst))) (rT z10 [cI 12,cI (x:Int)]) (iR ((x:Int)+(1:Int))/\∃x',(z1 x')/\(cI ((x:Int)+(1:Int))=cI (x':Int)/\True)/\sm z5/\l.length - x' < l.length - x)))) (rT z10 [cI 0,cI (-1)])):=by
 conv=>zeta
 delta cI g0 rT sm I6 iR
 by_cases hc:64 < l.length
 .have e:Af vs ms cs fs l=(4,-1):=by unfold Af;rw[if_pos hc]
  rw[e];refine ah.2 ⟨λ_=>⟨rfl,rfl⟩,λh=>?_⟩
  simp only[A8]at h;omega
 refine ah.2 ⟨λh=>?_,λ_=>⟨⟨0,⟨by omega,λj hj=>by omega⟩,⟨rfl,trivial⟩,rfl⟩,λk hk=>ah.2 ⟨λh=>?_,λh=>?_⟩⟩⟩
 .simp only[dG]at h;omega
 .simp only[dG]at h;have hN:(k:Int).toNat=k:=by omega
  rw[hN];refine⟨by omega,λd hd=>⟨trivial,ah.2 ⟨λh2=>⟨rfl,?_⟩,λh2=>⟨trivial,ah.2 ⟨λh3=>⟨rfl,?_⟩,λh3=>ah.2 ⟨λh4=>⟨rfl,?_⟩,λh4=>⟨au.2 (by omega),k+1,⟨by omega,λj hj i hi=>?_⟩,⟨rfl,trivial⟩,rfl,by omega⟩⟩⟩⟩⟩⟩⟩
  .have h2:sQ d≠0:=by simpa using h2
   rw[Ag hc hd (by rw[aqt h2];exact h2) hk.2,aqt h2]
  all_goals have h2:sQ d=0:=by simpa using h2
  .have h3:exS vs ms cs fs d.1 d.2.2.2.2.1 d.2.2.2.2.2.1=false:=by simpa using h3
   have e:=asw (m:=(l.length:Int)) h2 h3;rw[Ag hc hd (by rw[e];simp) hk.2,e]
  all_goals have h3:exS vs ms cs fs d.1 d.2.2.2.2.1 d.2.2.2.2.2.1=true:=by simpa using h3
  all_goals have e:=asx (m:=(l.length:Int)) h2 h3
  .rw[if_pos (by simpa using h4)]at e
   rw[Ag hc hd (by rw[e];simp) hk.2,e]
  .by_cases gu:j=k
   .subst gu;rw[hd]at hi;cases hi;rw[if_neg (λq=>by
     have:((decide (d.1=4) || decide (d.1=5)) && (decide (d.2.2.2.2.2.1 < 0) || decide ((l.length:Int) < d.2.2.2.2.2.1)))=true:=by simpa using q
     rw[h4]at this;cases this)]at e
    exact e
   .exact hk.2 j (by omega) i hi
 .simp only[A8]at h;rw[agV hc λj i hj=>hk.2 j (by have:=(eX.1 hj).1;omega) i hj];exact⟨rfl,rfl⟩
theorem abW:aN aK.gd 135 ajR:=
 jG (cx:=aK) (n:=58) (cl:=[(176,amc),(179,ajP)]) ay ⟨Ox,abR,trivial⟩ Tryz.func135 λd hd=>by
  obtain⟨⟨vs,ms,cs,fs,ts,⟨⟩⟩,⟨nm,l,⟨⟩⟩,⟨⟩⟩:=d;exact aI (amP vs ms cs fs ts nm l) (agW vs ms cs fs ts nm l) (by kernel_rfl)
theorem BO:∀(i:Nat) (l:List FD) (n:Nat){x:FD},l[i]?=some x->kE n l=kE n (l.take i)++(qQ (n+i) x++kE (n+i+1) (l.drop (i+1)))
 | 0,[],n,x,h=>by simp at h
 | 0,y :: l,n,x,h=>by
   simp at h;subst h;simp[kE]
 | i+1,[],n,x,h=>by simp at h
 | i+1,y :: l,n,x,h=>by
   have:=BO i l (n+1) (x:=x) (by simpa using h)
   simp only[akk,List.drop_succ_cons,kE];rw[this,yU,show n+1+i=n+(i+1) by omega]
theorem Si{n:Nat}{x:FD} (h:(qQ n x)[k]?=some d):∃e,x.2.1[k]?=some e/\d=(((n:Int),(k:Int),()),e,()):=by
 unfold qQ at h;rw[Es,aen]at h;cases he:x.2.1[k]? with
 | none=>rw[he]at h;simp at h
 | some e=>rw[he]at h;simp at h;exact⟨e,rfl,h.symm⟩
theorem Ah{l:List ID} (h:(Af vs ms cs fs l).1=0):l.length<=64/\∀(j:Nat) i,l[j]?=some i->wS vs ms cs fs i l.length=0:=by
 by_cases hl:64 < l.length
 .unfold Af at h;rw[if_pos hl]at h;simp at h
 refine⟨by omega,?_⟩
 cases hf:l.findIdx? (λi=>decide (wS vs ms cs fs i l.length≠0)) with
 | none=>
   rw[A76]at hf;intro j i hj;simpa using hf i (gQ hj)
 | some k=>
   unfold Af at h;rw[if_neg hl,hf]at h;rw[A55]at hf;obtain⟨hk,h1,_⟩:=hf;have e:l.getD k (0,0,0,0,0,0,0,0,())=l[k]:=by rw[Il,mP hk];rfl
   have h:wS vs ms cs fs (l.getD k (0,0,0,0,0,0,0,0,())) l.length=0:=h;rw[e]at h;simp[h]at h1
theorem agX{l:List ID} (hl:¬64 < l.length) (h:(Af vs ms cs fs l).1≠0):∃(k:Nat) (e:ID),l[k]?=some e/\wS vs ms cs fs e l.length≠0/\(∀j < k,∀i,l[j]?=some i->wS vs ms cs fs i l.length=0)/\Af vs ms cs fs l=(wS vs ms cs fs e l.length,(k:Int)):=by
 cases hf:l.findIdx? (λi=>decide (wS vs ms cs fs i l.length≠0)) with
 | none=>
   unfold Af at h;rw[if_neg hl,hf]at h;exact absurd rfl h
 | some k=>
   rw[A55]at hf;obtain⟨hk,h1,h2⟩:=hf;have hn:∀j < k,∀i,l[j]?=some i->wS vs ms cs fs i l.length=0:=λj hj i hi=>by
    have:=h2 j hj;rw[(eX.1 hi).2]at this;simpa using this
   have h1:wS vs ms cs fs l[k] l.length≠0:=by simpa using h1
   exact⟨k,l[k],mP hk,h1,hn,Ag hl (mP hk) h1 hn⟩
theorem Je{x:FD} (hx:fs[k]?=some x) (j:Int) (e:ID):KZ vs ms cs fs (((k:Int),j,()),e,())=wS vs ms cs fs e x.2.1.length:=UU (d:=(((k:Int),j,()),e,())) (by simpa using hx)
theorem Sj{i:Nat} (hn:∀j < i,∀f,fs[j]?=some f->f.2.1.length<=64):dU fs = -1\/(i:Int)<=dU fs:=by
 unfold dU;cases hf:fs.findIdx? (λf=>decide (64 < f.2.1.length)) with
 | none=>exact .inl rfl
 | some k=>
   refine .inr ?_;rw[A55]at hf;obtain⟨hk,h1,_⟩:=hf;show(i:Int)<=(k:Int)
   by_cases hki:k < i
   .have:=hn k hki _ (mP hk);simp at h1;omega
   .omega
theorem abX{i:Nat}{f:FD} (hf:fs[i]?=some f) (h:(Af vs ms cs fs f.2.1).1≠0) (hn:∀j < i,∀g,fs[j]?=some g->(Af vs ms cs fs g.2.1).1=0):
 Gm vs ms cs fs=((Af vs ms cs fs f.2.1).1,(i:Int),(Af vs ms cs fs f.2.1).2):=by
 have hb:=Sj (fs:=fs) (i:=i) λj hj g hg=>(Ah (hn j hj g hg)).1
 have aA:(kE 0 (fs.take i)).find? (λd=>decide (d.1.1=dU fs) || decide (KZ vs ms cs fs d≠0))=none:=by
  rw[Ye];intro d hd;obtain⟨k,x,j,e,h1,h2,rfl⟩:=wU _ _ hd;have hk:k < i:=by have:=(eX.1 h1).1;simp at this;omega
  rw[aki hk]at h1;have hz:=(Ah (hn k hk x h1)).2 j e h2;rw[show(0+k:Nat)=k by omega,Je h1,hz]
  have:¬((k:Int)=dU fs):=by omega
  simp[this]
 have hcut:=BO i fs 0 hf;have key:∀{k:Nat}{e:ID},f.2.1[k]?=some e->((i:Int)=dU fs\/wS vs ms cs fs e f.2.1.length≠0)->(∀j < k,∀u,f.2.1[j]?=some u->(i:Int)≠dU fs/\wS vs ms cs fs u f.2.1.length=0) ->
  (dR fs).find? (λd=>decide (d.1.1=dU fs) || decide (KZ vs ms cs fs d≠0))=some (((i:Int),(k:Int),()),e,()):=by
  intro k e he hbad hok;unfold dR;rw[hcut,List.find?_append,aA,Option.none_or,List.find?_append,show(0+i:Nat)=i by omega]
  rw[yF (k:=k) (Jb he) (by rw[Je hf];simpa using hbad) λj hj t ht=>by
   obtain⟨u,hu,rfl⟩:=Si ht;obtain⟨a,b⟩:=hok j hj u hu;rw[Je hf,b];simp[a]]
  rfl
 by_cases hl:64 < f.2.1.length
 .have e1:dU fs=i:=Gl hf hl λj hj g hg=>(Ah (hn j hj g hg)).1
  have iT:0 < f.2.1.length:=by omega
  have:=key (k:=0) (mP iT) (.inl e1.symm) (λj hj=>by omega)
  unfold Gm;rw[this];show(if(i:Int)=dU fs then _ else _)=_
  rw[if_pos e1.symm,e1];unfold Af;rw[if_pos hl]
 .obtain⟨k,e,h1,h2,h3,h4⟩:=agX hl h;have hne:(i:Int)≠dU fs:=by
   intro q;have:=BN (fs:=fs);unfold dU at q;cases hfi:fs.findIdx? (λf=>decide (64 < f.2.1.length)) with
   | none=>rw[hfi]at q;simp at q
   | some m=>
     rw[hfi]at q;rw[A55]at hfi;obtain⟨hm,a,_⟩:=hfi;have q:i=m:=by have q:(i:Int)=(m:Int):=q;omega
     subst q;rw[(eX.1 hf).2]at a;simp at a;omega
  have:=key h1 (.inr h2) (λj hj u hu=>⟨hne,h3 j hj u hu⟩)
  unfold Gm;rw[this];show(if(i:Int)=dU fs then _ else(KZ vs ms cs fs _,(i:Int),(k:Int)))=_
  rw[if_neg hne,Je hf,h4]
theorem agY(hn:∀(j:Nat) g,fs[j]?=some g->(Af vs ms cs fs g.2.1).1=0):Gm vs ms cs fs=(0,-1,-1):=by
 have hl:dU fs = -1:=BN λj g hg=>(Ah (hn j g hg)).1
 rw[RY λj d hd=>?_,if_neg (by rw[hl];simp)]
 obtain⟨k,x,m,e,h1,h2,rfl⟩:=wU _ _ (gQ hd);rw[show(0+k:Nat)=k by omega,Je h1,hl]
 exact⟨by show¬((k:Int) = -1);omega,(Ah (hn k x h1)).2 m e h2⟩
theorem Jf:∀(l:List FD) (n m:Nat),(∀x∈l,x.2.1.length<=m)->(kE n l).length<=l.length * m
 | [],n,m,h=>by simp[kE]
 | x :: l,n,m,h=>by
   have:=Jf l (n+1) m λy hy=>h y (by simp[hy])
   have:=h x (by simp)
   have e:(qQ n x).length=x.2.1.length:=by simp[qQ]
   simp only[kE,kK,sZ,xQ];omega
theorem XK(h:XJ vs ms cs fs ts=true):bnd ((vs,ms,cs,fs,ts,()),()):=by
 unfold XJ at h;rw[cZ,dG,P7]at h;obtain⟨⟨h1,h2,h3,h4,h5⟩,h6⟩:=h;have h6:∀x∈fs,x.2.1.length<=100:=λx hx=>by simpa using h6 x hx
 have:=Jf fs 0 100 h6;refine⟨?_,?_,?_,?_,?_,λx hx=>?_,?_⟩
 .show vs.length<=_;omega
 .show ms.length<=_;omega
 .show cs.length<=_;omega
 .show fs.length<=_;omega
 .show ts.length<=_;omega
 .have:=h6 x hx;omega
 .show(kE 0 fs).length<=_;omega
theorem La(h:(Dl vs ms cs fs).1≠0):aB vs ms cs fs ts=Dl vs ms cs fs:=by unfold aB;rw[if_pos h]
theorem abY(z:(Dl vs ms cs fs).1=0) (h:AX vs ms cs fs≠0):aB vs ms cs fs ts=(AX vs ms cs fs,-1,-1):=by unfold aB;rw[if_neg (λq=>q z),if_pos h]
theorem amQ(z:(Dl vs ms cs fs).1=0) (z2:AX vs ms cs fs=0) (h:(Gm vs ms cs fs).1≠0):aB vs ms cs fs ts=Gm vs ms cs fs:=by unfold aB;rw[if_neg (λq=>q z),if_neg (λq=>q z2),if_pos h]
theorem amR(z:(Dl vs ms cs fs).1=0) (z2:AX vs ms cs fs=0) (z3:(Gm vs ms cs fs).1=0):aB vs ms cs fs ts=(DY fs ts,-1,-1):=by
 unfold aB;rw[if_neg (λq=>q z),if_neg (λq=>q z2),if_neg (λq=>q z3)]
 split
 .rfl
 .rename_i h;rw[Hg.1 h]
abbrev Gn:CT:={ ps:=[oQ],pre:=λd=>bnd d,res:=λd=>([],.gY [.c (.v (.int .i64 (aB d.1.1 d.1.2.1 d.1.2.2.1 d.1.2.2.2.1 d.1.2.2.2.2.1).1)),.c (.v (.int .i64 (aB d.1.1 d.1.2.1 d.1.2.2.1 d.1.2.2.2.1 d.1.2.2.2.2.1).2.1)),.c (.v (.int .i64 (aB d.1.1 d.1.2.1 d.1.2.2.1 d.1.2.2.2.1 d.1.2.2.2.2.1).2.2))]) }
abbrev aqu(vs:List VD) (ms cs:List ByteArray) (fs:List FD) (ts:List SD):Nat->Option (St->iE):=λk=>match k with
 | 17=>some λ_=>.inv { α:=Nat,slots:=λk=>[(15,.c (.v (.int .i64 k)))],res:=λ_=>[],inv:=λk=>k<=vs.length/\∀j < k,∀v,vs[j]?=some v->bY v.2.1=true,meas:=λk=>vs.length - k }
 | 22=>some λ_=>.inv { α:=Nat,slots:=λk=>[(16,.c (.v (.int .i64 k)))],res:=λ_=>[],inv:=λk=>k<=fs.length/\∀j < k,∀g,fs[j]?=some g->(Af vs ms cs fs g.2.1).1=0,meas:=λk=>fs.length - k }
 | _=>none
theorem amS(vs:List VD) (ms cs:List ByteArray) (fs:List FD) (ts:List SD) (aA:Gn.pre ((vs,ms,cs,fs,ts,()),())):
 let z6:=aB vs ms cs fs ts;let z4:=[cI (z6.fst),cI (z6.snd.fst),cI (z6.snd.snd)];let z7:=gX (jH fs);let z3:=λ(x:Nat)=>(x<=vs.length/\∀(j:Nat),j < x->∀(v:ByteArray×Int×Unit),vs[j]?=some v->bY v.snd.fst=true);let z1:=[g0 (aj.blk 27 [SC.sl Gj vs,SC.sl Sh.str ms,SC.sl Sh.str cs,SC.sl CY fs,SC.sl mO ts]),g0 (aj.row 9 Sh.str (iF vs)),g0 (aj.row 9 Sh.str (jH fs))];let z5:=λ(x:Nat)=>(x:Int)+(1:Int);let z2:=λ(x:Nat)=>(x<=fs.length/\∀(j:Nat),j < x->∀(g:ByteArray×List ID×Unit),fs[j]?=some g->(Af vs ms cs fs g.snd.fst).fst=0);(vs.length<=1000000/\fs.length<=1000000)/\(iF vs).length<=1000000/\br (!decide ((gX (iF vs)).fst=0)) (rT z4 [cI ((gX (iF vs)).fst),cI (-1),cI (-1)]) (ms.length<=1000000/\br (!decide ((gX ms).fst=0)) (rT z4 [cI ((gX ms).fst),cI (-1),cI (-1)]) (cs.length<=1000000/\br (!decide ((gX cs).fst=0)) (rT z4 [cI ((gX cs).fst),cI (-1),cI (-1)]) ((jH fs).length<=1000000/\br (!decide (z7.fst=0)) (rT z4 [cI (z7.fst),cI (if z7.fst=0 then(0:Int) else z7.snd),cI (-1)]) (br (decide (8 < (vs.length:Int)) || decide (4 < (ms.length:Int)) || decide (4 < (cs.length:Int)) || decide (8 < (fs.length:Int))) (rT z4 [cI 4,cI (-1),cI (-1)]) ((∃x,(z3 x)/\(cI 0=cI (x:Int)/\True)/\sm z1)/\∀(x:Nat),(z3 x)->br (decide ((x:Int) < (vs.length:Int))) ((0<=(x:Int)/\(x:Int) < (vs.length:Int))/\∀(d:ByteArray×(I6.pair Sh.unit).den),vs[(x:Int).toNat]?=some d->True/\br (!bY (d.snd.fst,()).fst) (rT z4 [cI 2,cI (-1),cI (-1)]) (iR (z5 x)/\∃x',(z3 x')/\(cI (z5 x)=cI (x':Int)/\True)/\sm z1/\vs.length - x' < vs.length - x)) ((∃x,(z2 x)/\(cI 0=cI (x:Int)/\True)/\sm z1)/\∀(x:Nat),(z2 x)->br (decide ((x:Int) < (fs.length:Int))) ((0<=(x:Int)/\(x:Int) < (fs.length:Int))/\∀(d:ByteArray×(jT.sl.pair Sh.unit).den),fs[(x:Int).toNat]?=some d->True/\br (!decide ((Af vs ms cs fs (d.snd.fst,()).fst).fst=0)) (rT z4 [cI ((Af vs ms cs fs (d.snd.fst,()).fst).fst),cI (x:Int),cI ((Af vs ms cs fs (d.snd.fst,()).fst).snd)]) (iR (z5 x)/\∃x',(z2 x')/\(cI (z5 x)=cI (x':Int)/\True)/\sm z1/\fs.length - x' < fs.length - x)) (True/\rT z4 [cI (DY fs ts),cI (-1),cI (-1)]))))))):=by
 conv=>zeta
 delta cI g0 rT sm I6 iR;obtain⟨h1,h2,h3,h4,h5,h6,h7⟩:bnd ((vs,ms,cs,fs,ts,()),()):=aA;have h1:vs.length<=1000000:=h1;have h4:fs.length<=1000000:=h4;refine⟨⟨h1,h4⟩,by simpa[iF]using h1,ah.2 ⟨λa=>⟨rfl,?_⟩,λa=>⟨h2,ah.2 ⟨λb=>⟨rfl,?_⟩,λb=>⟨h3,ah.2 ⟨λc=>⟨rfl,?_⟩,λc=>⟨by simpa[jH]using h4,ah.2 ⟨λd=>⟨rfl,?_⟩,λd=>?_⟩⟩⟩⟩⟩⟩⟩⟩
 all_goals try simp only[Ep,uP,dG,A8]at a
 all_goals try simp only[Ep,uP,dG,A8]at b
 all_goals try simp only[Ep,uP,dG,A8]at c
 all_goals try simp only[Ep,uP,dG,A8]at d
 .have e:Dl vs ms cs fs=((gX (iF vs)).1,-1,-1):=by unfold Dl;rw[if_pos a]
  rw[La (by rw[e];exact a),e]
 .have e:Dl vs ms cs fs=((gX ms).1,-1,-1):=by unfold Dl;rw[if_neg (λq=>q a),if_pos b]
  rw[La (by rw[e];exact b),e]
 .have e:Dl vs ms cs fs=((gX cs).1,-1,-1):=by unfold Dl;rw[if_neg (λq=>q a),if_neg (λq=>q b),if_pos c]
  rw[La (by rw[e];exact c),e]
 all_goals have e:Dl vs ms cs fs=((gX (jH fs)).1,(gX (jH fs)).2,-1):=by unfold Dl;rw[if_neg (λq=>q a),if_neg (λq=>q b),if_neg (λq=>q c)]
 .rw[La (by rw[e];exact d),e,if_neg d]
 have z:(Dl vs ms cs fs).1=0:=by rw[e];exact d
 clear e a b c d
 by_cases hc:8 < vs.length\/4 < ms.length\/4 < cs.length\/8 < fs.length
 .have e:AX vs ms cs fs=4:=by unfold AX;rw[if_pos hc]
  rw[abY z (by rw[e];simp),e]
  refine ah.2 ⟨λ_=>⟨rfl,rfl⟩,λh=>?_⟩
  simp only[lM,A8]at h;omega
 refine ah.2 ⟨λh=>?_,λ_=>⟨⟨0,⟨by omega,λj hj=>by omega⟩,⟨rfl,trivial⟩,rfl⟩,λk hk=>ah.2 ⟨λh=>?_,λh=>⟨⟨0,⟨by omega,λj hj=>by omega⟩,⟨rfl,trivial⟩,rfl⟩,λm hm=>ah.2 ⟨λh8=>?_,λh8=>⟨trivial,rfl,?_⟩⟩⟩⟩⟩⟩
 .simp only[wX,dG]at h;omega
 .simp only[dG]at h;have hN:(k:Int).toNat=k:=by omega
  rw[hN];refine⟨by omega,λd hd=>⟨trivial,ah.2 ⟨λh9=>⟨rfl,?_⟩,λh9=>⟨au.2 (by omega),k+1,⟨by omega,λj hj v hv=>?_⟩,⟨rfl,trivial⟩,rfl,by omega⟩⟩⟩⟩
  .have h9:bY d.2.1=false:=by simpa using h9
   have e:AX vs ms cs fs=2:=by
    unfold AX;rw[if_neg hc,if_neg];intro hh;rw[P7]at hh;have:=hh d (gQ hd);rw[h9]at this;cases this
   rw[abY z (by rw[e];simp),e]
  .have h9:bY d.2.1=true:=by simpa using h9
   by_cases gu:j=k
   .subst gu;rw[hd]at hv;cases hv;exact h9
   .exact hk.2 j (by omega) v hv
 all_goals
  simp only[A8]at h;have z2:AX vs ms cs fs=0:=by
   unfold AX;rw[if_neg hc,if_pos];rw[P7];intro v hv;obtain⟨j,hj⟩:=yT hv;exact hk.2 j (by have:=(eX.1 hj).1;omega) v hj
 .simp only[dG]at h8;have hN:(m:Int).toNat=m:=by omega
  rw[hN];refine⟨by omega,λd hd=>⟨trivial,ah.2 ⟨λh9=>⟨rfl,?_⟩,λh9=>⟨au.2 (by omega),m+1,⟨by omega,λj hj v hv=>?_⟩,⟨rfl,trivial⟩,rfl,by omega⟩⟩⟩⟩
  .have h9:(Af vs ms cs fs d.2.1).1≠0:=by simpa using h9
   have e:=abX hd h9 hm.2;rw[amQ z z2 (by rw[e];exact h9),e]
  .have h9:(Af vs ms cs fs d.2.1).1=0:=by simpa using h9
   by_cases gu:j=m
   .subst gu;rw[hd]at hv;cases hv;exact h9
   .exact hm.2 j (by omega) v hv
 .simp only[A8]at h8;have e:=agY (vs:=vs) (ms:=ms) (cs:=cs) λj g hj=>hm.2 j (by have:=(eX.1 hj).1;omega) g hj
  rw[amR z z2 (by rw[e])]
theorem Lc:aN aK.gd 66 Gn:=
 jG (cx:=aK) (n:=120) (cl:=[(132,abU),(133,RZ),(134,RN),(135,ajR),(136,ajO)]) ay ⟨abV,abT,OH,abW,abQ,trivial⟩ Tryz.func66 λd hd=>by
  obtain⟨⟨vs,ms,cs,fs,ts,⟨⟩⟩,⟨⟩⟩:=d;exact aI (aqu vs ms cs fs ts) (amS vs ms cs fs ts hd) (by kernel_rfl)
abbrev Ld:CT:={ ps:=[oQ],pre:=λd=>bnd d,res:=λd=>([],vB (decide ((aB d.1.1 d.1.2.1 d.1.2.2.1 d.1.2.2.2.1 d.1.2.2.2.2.1).1=0))) }
abbrev abZ:CT:={ ps:=[.sl (.int .i64),.int .i64],pre:=λd=>d.1.length<=4611686018427387904,res:=λd=>([],vB (dM d.1 d.2.1)) }
abbrev amT(l:List Int) (x:Int):Nat->Option (St->iE):=λk=>match k with
 | 2=>some λ_=>.inv { α:=Nat,slots:=λk=>[(5,.c (.v (.int .i64 k)))],res:=λ_=>[],inv:=λk=>k<=l.length/\∀j,j < k->∀b,l[j]?=some b->¬(b=x),meas:=λk=>l.length - k }
 | _=>none
theorem ag0(l:List Int) (x:Int) (aA:abZ.pre (l,x,())):
 let z1:=λ(x_1:Nat)=>(x_1<=l.length/\∀(j:Nat),j < x_1->∀(b:Int),l[j]?=some b->¬b=x);(∃x_1,(z1 x_1)/\(cI 0=cI (x_1:Int)/\True)/\([]:List dP)=[])/\∀(x_1:Nat),(z1 x_1)->br (decide ((x_1:Int) < (l.length:Int))) ((0<=(x_1:Int)/\(x_1:Int) < (l.length:Int))/\∀(d:Int),l[(x_1:Int).toNat]?=some d->br (decide (d=x)) (qB (dM l x) true) (iR ((x_1:Int)+(1:Int))/\∃x',(x'<=l.length/\∀(j:Nat),j < x'->∀(b:Int),l[j]?=some b->¬b=x)/\(cI ((x_1:Int)+(1:Int))=cI (x':Int)/\True)/\([]:List dP)=[]/\l.length - x' < l.length - x_1)) (qB (dM l x) false):=by
 conv=>zeta
 delta dP cI qB iR;have hp:l.length<=4611686018427387904:=aA;refine⟨⟨0,⟨by omega,λj hj=>by omega⟩,⟨rfl,trivial⟩,rfl⟩,λk hk=>ah.2 ⟨λh=>?_,λh=>?_⟩⟩
 .simp only[dG]at h;refine⟨by omega,λd hd=>ah.2 ⟨λh2=>?_,λh2=>?_⟩⟩
  .simp only[dG]at h2;have hm:dM l x=true:=MR.2 ⟨d,gQ hd,by simpa using h2⟩
   rw[hm];exact⟨rfl,rfl⟩
  .simp only[A8]at h2;have hd:l[k]?=some d:=by simpa using hd
   refine⟨au.2 (by omega),k+1,⟨by omega,λj hj b hb=>?_⟩,⟨by simp,trivial⟩,rfl,by omega⟩
   by_cases hjx:j=k
   .subst hjx;rw[hd]at hb;cases hb;exact h2
   .exact hk.2 j (by omega) b hb
 .simp only[A8]at h;have hm:dM l x=false:=by
   unfold dM;rw[Wi];intro b hb;obtain⟨j,hj⟩:=yT hb;have:=(eX.1 hj).1;simpa using hk.2 j (by omega) b hj
  rw[hm];exact⟨rfl,rfl⟩
theorem Gp:aN aK.gd 172 abZ:=
 jG (cx:=aK) (n:=18) (cl:=[]) ay trivial Tryz.func172 λd hd=>by
  obtain⟨l,x,⟨⟩⟩:=d;exact⟨amT l x,cast (by kernel_rfl) (ag0 l x hd)⟩
theorem ab1{p:Int->Bool}:∀{l:List Int}{k:Nat},k<=l.length->(∀j,j < k->∀b,l[j]?=some b->p b=true)->(∀b,l[k]?=some b->p b=false)->(l.takeWhile p).length=k
 | [],k,h,_,_=>by simp at h;simp[h]
 | a :: l,0,_,_,h2=>by simp[V9,h2 a rfl]
 | a :: l,k+1,h,h1,h2=>by
   have h0:=h1 0 (by omega) a rfl
   simp only[V9,h0,if_true,sZ];rw[ab1 (by simpa using h) (λj hj b hb=>h1 (j+1) (by omega) b hb) (λb hb=>h2 b hb)]
abbrev amU:CT:={ ps:=[.sl (.int .i64),.int .i64],pre:=λd=>d.1.length<=1000000,res:=λd=>([.row 3 (.int .i64) (d.1.take (zY d.1 d.2.1)++[d.2.1]++d.1.drop (zY d.1 d.2.1))],.one (.c (.row 0))) }
abbrev amV(l:List Int) (x:Int):Nat->Option (St->iE):=λk=>match k with
 | 2=>some λ_=>.inv { α:=Nat,slots:=λk=>[(5,.c (.v (.int .i64 k)))],res:=λ_=>[],inv:=λk=>k<=l.length/\∀j,j < k->∀b,l[j]?=some b->b < x,meas:=λk=>l.length - k }
 | _=>none
theorem ag1(l:List Int) (x:Int) (aA:amU.pre (l,x,())):
 let z1:=λ(x_1:Nat)=>(x_1<=l.length/\∀(j:Nat),j < x_1->∀(b:Int),l[j]?=some b->b < x);let z3:=λ(x_1:Nat)=>(x_1:Int) < (l.length:Int);let z4:=λ(x_1:Nat)=>List.take (x_1:Int).toNat l;let z2:=List.take (l.length:Int).toNat l;(∃x_1,(z1 x_1)/\(cI 0=cI (x_1:Int)/\True)/\([]:List dP)=[])/\∀(x_1:Nat),(z1 x_1)->(decide (z3 x_1)=true->0<=(x_1:Int)/\(x_1:Int) < (l.length:Int))/\∀(d:Int),(decide (z3 x_1)=true->l[(x_1:Int).toNat]?=some d)->br (decide (z3 x_1) && decide (d < x)) (iR ((x_1:Int)+(1:Int))/\∃x',(x'<=l.length/\∀(j:Nat),j < x'->∀(b:Int),l[j]?=some b->b < x)/\(cI ((x_1:Int)+(1:Int))=cI (x':Int)/\True)/\([]:List dP)=[]/\l.length - x' < l.length - x_1) (((0:Int)<=(0:Int)/\0<=(x_1:Int)/\(x_1:Int)<=(l.length:Int))/\jY (0+List.length (List.drop 0 (z4 x_1))) 8/\jY (List.length (([]++List.drop 0 (z4 x_1)))+List.length ([x])) 8/\(0<=(x_1:Int)/\(x_1:Int)<=(l.length:Int)/\(l.length:Int)<=(l.length:Int))/\jY (List.length ((([]++List.drop 0 (z4 x_1))++[x]))+List.length (List.drop (x_1:Int).toNat z2)) 8/\[aj.row 3 I6 (List.take (zY l x) l++[x]++List.drop (zY l x) l)]=[aj.row 3 I6 ((([]++List.drop 0 (z4 x_1))++[x])++List.drop (x_1:Int).toNat z2)]/\aW.one (SV.c (SC.row 0))=aW.one (SV.c (SC.row 0))):=by
 conv=>zeta
 delta dP cI I6 iR;have hp:l.length<=1000000:=aA;refine⟨⟨0,⟨by omega,λj hj=>by omega⟩,⟨rfl,trivial⟩,rfl⟩,λk hk=>⟨λh=>by simp only[dG]at h;omega,λd hd=>ah.2 ⟨λh=>?_,λh=>?_⟩⟩⟩
 .simp only[cZ,dG]at h;have hd:l[k]?=some d:=by simpa using hd (by simpa using h.1)
  refine⟨au.2 (by omega),k+1,⟨by omega,λj hj b hb=>?_⟩,⟨by simp,trivial⟩,rfl,by omega⟩
  by_cases hjx:j=k
  .subst hjx;rw[hd]at hb;cases hb;exact h.2
  .exact hk.2 j (by omega) b hb
 .have hpos:zY l x=k:=by
   refine ab1 hk.1 (λj hj b hb=>by simpa using hk.2 j hj b hb) λb hb=>?_
   have hkl:=(eX.1 hb).1;have hd:l[k]?=some d:=by simpa using hd (by simpa using hkl)
   rw[hd]at hb;cases hb;simp only[Yd,A8]at h;rcases h with h | h
   .omega
   .simpa using h
  have e1:((k:Int)).toNat=k:=by simp
  have e2:((l.length:Int)).toNat=l.length:=by simp
  rw[hpos];simp only[e1,e2,MP,Wj,V5,bJ,kK,kH,xO,sZ,AY];refine⟨by omega,by omega,by omega,by omega,by omega,?_⟩
  simp
theorem ab2:aN aK.gd 207 amU:=
 jG (cx:=aK) (n:=36) (cl:=[]) ay trivial Tryz.func207 λd hd=>by
  obtain⟨l,x,⟨⟩⟩:=d;exact⟨amV l x,cast (by kernel_rfl) (ag1 l x hd)⟩
abbrev ab3:CT:={ ps:=[.sl (.int .i64)],pre:=λd=>d.1.length<=1000000,res:=λd=>([.row 3 (.int .i64) (aX d.1)],.one (.c (.row 0))) }
abbrev amW(l:List Int):Nat->Option (St->iE):=λk=>match k with
 | 3=>some λ_=>.inv { α:=Nat,slots:=λk=>[(4,.c (.v (.int .i64 k))),(3,.c (.row 0))],res:=λk=>[(0,.row 3 (.int .i64) (aX (l.take k)))],inv:=λk=>k<=l.length,meas:=λk=>l.length - k,ren:=[(0,1)],drop:=[5] }
 | _=>none
theorem ag2(l:List Int) (aA:ab3.pre (l,())):
 let z4:=λ(x:Nat)=>aX (List.take x l);let z3:=λ(x:Nat)=>[g0 (aj.row 3 I6 (z4 x))];let z2:=λ(x:Nat)=>0<=(x:Int)/\(x:Int) < (l.length:Int);let z1:=λ(x x':Nat)=>cI ((x:Int)+(1:Int))=cI (x':Int)/\SV.c (SC.row 0)=SV.c (SC.row 0)/\True;(∃x,x<=l.length/\(cI 0=cI (x:Int)/\SV.c (SC.row 0)=SV.c (SC.row 0)/\True)/\[g0 (aj.row 3 I6 [])]=(z3 x))/\∀(x:Nat),x<=l.length->br (decide ((x:Int) < (l.length:Int))) ((z2 x)/\∀(d:Int),l[(x:Int).toNat]?=some d->(z4 x).length<=4611686018427387904/\br (!dM (z4 x) d) ((z2 x)/\∀(d:Int),l[(x:Int).toNat]?=some d->(z4 x).length<=1000000/\iR ((x:Int)+(1:Int))/\∃x',x'<=l.length/\(z1 x x')/\[g0 (aj.row 3 I6 (List.take (zY (z4 x) d) (z4 x)++[d]++List.drop (zY (z4 x) d) (z4 x)))]=(z3 x')/\l.length - x' < l.length - x) (iR ((x:Int)+(1:Int))/\∃x',x'<=l.length/\(z1 x x')/\(z3 x)=(z3 x')/\l.length - x' < l.length - x)) ([aj.row 3 I6 (aX l)]=[aj.row 3 I6 (z4 x)]/\aW.one (SV.c (SC.row 0))=aW.one (SV.c (SC.row 0))):=by
 conv=>zeta
 delta cI g0 I6 iR;have hp:l.length<=1000000:=aA;have hlen:∀k,(aX (l.take k)).length<=l.length:=λk=>oh (I8 _) (by simp;omega)
 refine⟨⟨0,by omega,⟨rfl,rfl,trivial⟩,rfl⟩,λk hk=>ah.2 ⟨λh=>?_,λh=>?_⟩⟩
 .simp only[dG]at h;refine⟨by omega,λd hd=>⟨by have:=hlen k;omega,ah.2 ⟨λh2=>⟨by omega,λe he=>⟨by have:=hlen k;omega,au.2 (by omega),k+1,by omega,⟨by simp,rfl,trivial⟩,?_,by omega⟩⟩,
   λh2=>⟨au.2 (by omega),k+1,by omega,⟨by simp,rfl,trivial⟩,?_,by omega⟩⟩⟩⟩
  .have hd:l[k]?=some d:=by simpa using hd
   have he:l[k]?=some e:=by simpa using he
   rw[hd]at he;cases he;have h2:dM (aX (l.take k)) d=false:=by simpa using h2
   rw[Gg hd,h2];rfl
  .have hd:l[k]?=some d:=by simpa using hd
   have h2:dM (aX (l.take k)) d=true:=by simpa using h2
   rw[Gg hd,h2];rfl
 .simp only[A8]at h;rw[qV (by omega)];exact⟨rfl,rfl⟩
theorem Gq:aN aK.gd 181 ab3:=
 jG (cx:=aK) (n:=26) (cl:=[(172,abZ),(207,amU)]) ay ⟨Gp,ab2,trivial⟩ Tryz.func181 λd hd=>by
  obtain⟨l,⟨⟩⟩:=d;exact⟨amW l,cast (by kernel_rfl) (ag2 l hd)⟩
def aH(n:Int):Int:=if n % 4294967296<=2147483647 then n % 4294967296 else n % 4294967296 - 4294967296
theorem o8(n:Int):-2147483648<=aH n/\aH n<=2147483647:=by
 unfold aH;split<;>omega
theorem Gu:aH n=n↔-2147483648<=n/\n<=2147483647:=by
 unfold aH;constructor
 .intro h;split at h<;>omega
 .intro h;split<;>omega
theorem BP(h:n % 4294967296=m % 4294967296):aH n=aH m:=by
 unfold aH;rw[h]
def ab4(n:Int):Int:=
 if(if n.tmod 4294967296 < 0 then n.tmod 4294967296+4294967296 else n.tmod 4294967296) > 2147483647 then
  (if n.tmod 4294967296 < 0 then n.tmod 4294967296+4294967296 else n.tmod 4294967296) - 4294967296
 else(if n.tmod 4294967296 < 0 then n.tmod 4294967296+4294967296 else n.tmod 4294967296)
theorem Gv(n:Int) (hm:0 < m):n.tmod m=if 0<=n\/n % m=0 then n % m else n % m - m:=by
 rw[Int.tmod_eq_emod];have h1:(m ∣ n)↔n % m=0:=Int.dvd_iff_emod_eq_zero;simp only[h1];split
 .simp
 .have:(m.natAbs:Int)=m:=by omega
  simp[this]
theorem ab5(n:Int):ab4 n=aH n:=by
 unfold ab4 aH;rw[Gv n (by omega)]
 split<;>split<;>split<;>first | omega | (split<;>omega)
def dY(X Y:Nat) (r:List Int):Nat->Int
 | 0=>0
 | i+1=>dY X Y r i+2 ^ i * r.getD (2 * (X / 2 ^ i % 2)+Y / 2 ^ i % 2) 0
theorem Jg{X Y:Nat}{r:List Int} (h:∀v∈r,v=0\/v=1):∀i,0<=dY X Y r i/\dY X Y r i < 2 ^ i
 | 0=>by simp[dY]
 | i+1=>by
   have ih:=Jg (X:=X) (Y:=Y) h i;have hv:r.getD (2 * (X / 2 ^ i % 2)+Y / 2 ^ i % 2) 0=0\/r.getD (2 * (X / 2 ^ i % 2)+Y / 2 ^ i % 2) 0=1:=by
    rw[Il];cases hq:r[2 * (X / 2 ^ i % 2)+Y / 2 ^ i % 2]? with
    | none=>exact .inl rfl
    | some v=>exact h v (gQ hq)
   unfold dY;rw[Int.pow_succ];rcases hv with e | e<;>rw[e]<;>omega
theorem Le(n i:Nat):n % 2 ^ (i+1)=n % 2 ^ i+2 ^ i * (n / 2 ^ i % 2):=by
 rw[Nat.pow_succ,Nat.mod_mul]
theorem Lh(n i:Nat):n / 2 ^ i % 2=(n.testBit i).toNat:=by
 rw[Nat.testBit_eq_decide_div_mod_eq];rcases Nat.mod_two_eq_zero_or_one (n / 2 ^ i) with h | h<;>simp[h]
theorem D5{X Y Z:Nat}{r:List Int} (h:∀i,r.getD (2 * (X.testBit i).toNat+(Y.testBit i).toNat) 0=((Z.testBit i).toNat:Int)):∀i,dY X Y r i=((Z % 2 ^ i:Nat):Int)
 | 0=>by simp[dY,Nat.mod_one]
 | i+1=>by
   unfold dY;rw[D5 h i,Le,Lh,Lh,h,Lh]
   push_cast
   rfl
theorem o9(x:Int):((BitVec.ofInt 64 x).toNat % 4294967296:Nat)=(x % 4294967296).toNat:=by
 rw[BitVec.toNat_ofInt];omega
theorem uj(n:Int):IntKind.i64.wrap n % 4294967296=n % 4294967296:=by
 simp only[IntKind.wrap,IntKind.bits,IntKind.signed];simp;split<;>omega
theorem uo(n:Nat):((n % 2 ^ 32 % 2 ^ 32:Nat):Int) % 4294967296=(n:Int) % 4294967296:=by omega
theorem ab6{x:Int}:aH (dY (x % 4294967296).toNat (y % 4294967296).toNat [0,0,0,1] 32)=aH (lD .and .i64 x y):=by
 apply BP;rw[D5 (Z:=(x % 4294967296).toNat &&& (y % 4294967296).toNat) λi=>by
  rw[Nat.testBit_and];cases ((x % 4294967296).toNat.testBit i)<;>cases ((y % 4294967296).toNat.testBit i)<;>rfl]
 simp only[lD];rw[uj,BitVec.toNat_and,<-o9,<-o9];rw[show(4294967296:Nat)=2 ^ 32 from rfl,<-Nat.and_mod_two_pow]
 exact uo _
theorem ag3{x:Int}:aH (dY (x % 4294967296).toNat (y % 4294967296).toNat [0,1,1,1] 32)=aH (lD .or .i64 x y):=by
 apply BP;rw[D5 (Z:=(x % 4294967296).toNat ||| (y % 4294967296).toNat) λi=>by
  rw[Nat.testBit_or];cases ((x % 4294967296).toNat.testBit i)<;>cases ((y % 4294967296).toNat.testBit i)<;>rfl]
 simp only[lD];rw[uj,BitVec.toNat_or,<-o9,<-o9];rw[show(4294967296:Nat)=2 ^ 32 from rfl,<-Nat.or_mod_two_pow]
 exact uo _
theorem ab7{x:Int}:aH (dY (x % 4294967296).toNat (y % 4294967296).toNat [0,1,1,0] 32)=aH (lD .xor .i64 x y):=by
 apply BP;rw[D5 (Z:=(x % 4294967296).toNat ^^^ (y % 4294967296).toNat) λi=>by
  rw[Nat.testBit_xor];cases ((x % 4294967296).toNat.testBit i)<;>cases ((y % 4294967296).toNat.testBit i)<;>rfl]
 simp only[lD];rw[uj,BitVec.toNat_xor,<-o9,<-o9];rw[show(4294967296:Nat)=2 ^ 32 from rfl,<-Nat.xor_mod_two_pow]
 exact uo _
def dQ(f a b:Int):Int×Int:=
 if f=1 then(aH (aH a+aH b),0) else if f=2 then(aH (aH a - aH b),0) else if f=3 then(aH (aH a * aH b),0)
 else if f=4 then(aH (lD .and .i64 (aH a) (aH b)),0) else if f=5 then(aH (lD .or .i64 (aH a) (aH b)),0) else if f=6 then(aH (lD .xor .i64 (aH a) (aH b)),0)
 else if f=7 then(if aH a=aH b then 1 else 0,0) else if f=8 then(if aH a=aH b then 0 else 1,0) else if f=9 then(if aH a < aH b then 1 else 0,0)
 else if f=10 then(if aH a<=aH b then 1 else 0,0) else(0,8)
theorem Sl(f a b:Int):-2147483648<=(dQ f a b).1/\(dQ f a b).1<=2147483647:=by
 unfold dQ
 repeat' split
 all_goals first | exact o8 _ | (constructor<;>omega)
def dZ:Nat->Int->Int->Int
 | 0,_,_=>-1
 | n+1,d,id=>if id < 8 then d else if 7<=id.tmod 8 then -1 else dZ n (d+1) (id.tdiv 8 - 1)
def aU(id:Int):Int:=if id < 0 then -1 else dZ 5 0 id
theorem yG:∀(n:Nat) (d id:Int),0<=d->dZ n d id = -1\/(d<=dZ n d id/\dZ n d id < d+n)
 | 0,d,id,h=>.inl rfl
 | n+1,d,id,h=>by
   unfold dZ;split
   .right;omega
   .split
    .exact .inl rfl
    .rcases yG n (d+1) (id.tdiv 8 - 1) (by omega) with e | e
     .exact .inl e
     .right;omega
theorem Gw(id:Int):-1<=aU id/\aU id<=4:=by
 unfold aU;split
 .omega
 .rcases yG 5 0 id (by omega) with e | e<;>omega
theorem Ai:∀(n:Nat) (d id r:Int),dZ (n+1) d id=r->0<=d->0<=r->r < d+n->dZ n (d+1) id=r+1
 | 0,d,id,r,h,h0,h1,h2=>by
   have h:dZ 1 d id=r:=h;rcases yG 1 d id h0 with e | e<;>omega
 | n+1,d,id,r,h,h0,h1,h2=>by
   unfold dZ at h ⊢
   split at h
   .rename_i q;rw[if_pos q];omega
   .rename_i q;rw[if_neg q];split at h
    .omega
    .rename_i q2;rw[if_neg q2];exact Ai n (d+1) _ r h (by omega) h1 (by omega)
def Sm:Nat->Int
 | 0=>0
 | n+1=>8 * (Sm n+1)
theorem Jh:∀(n:Nat) (d id:Int),0<=d->0<=id->0<=dZ n d id->id < Sm n
 | 0,d,id,h0,h1,h2=>by simp[dZ]at h2
 | n+1,d,id,h0,h1,h2=>by
   have hp:0<=Sm n:=by
    clear h2
    induction n with
    | zero=>simp[Sm]
    | succ n ih=>unfold Sm;omega
   unfold dZ at h2;unfold Sm;split at h2
   .omega
   .split at h2
    .omega
    .have e:id.tdiv 8=id / 8:=A75 h1;rw[e]at h2;have:=Jh n (d+1) (id / 8 - 1) (by omega) (by omega) h2
     omega
theorem nC(h:0<=aU id):0<=id/\id < 37448:=by
 unfold aU at h;split at h
 .omega
 .have:=Jh 5 0 id (by omega) (by omega) h
  simp only[Sm]at this;omega
def dB(id ch:Int):Int×Bool:=if aU id < 0\/aU id=4\/ch < 0\/7<=ch then(0,false) else(8 * (id+1)+ch,true)
def UY(id:Int):Int×Bool:=if aU id < 1 then(0,false) else(id.tdiv 8 - 1,true)
def iL(id:Int):Int:=if aU id < 0 then 0 else aU id
theorem CZ(h0:0<=aU id) (h4:aU id≠4) (c0:0<=ch) (c7:ch < 7):aU (8 * (id+1)+ch)=aU id+1/\(8 * (id+1)+ch).tdiv 8 - 1=id:=by
 obtain⟨i0,i1⟩:=nC h0;have e1:(8 * (id+1)+ch).tdiv 8=id+1:=by rw[A75 (by omega)];omega
 have e2:(8 * (id+1)+ch).tmod 8=ch:=by rw[akf (by omega)];omega
 have hr:=Gw id;refine⟨?_,by omega⟩
 have hd:aU (8 * (id+1)+ch)=dZ 4 1 id:=by
  unfold aU;rw[if_neg (by omega)]
  rw[dZ,if_neg (by omega),e2,if_neg (by omega),e1,show id+1 - 1=id by omega]
  rfl
 rw[hd];have:aU id=dZ 5 0 id:=by unfold aU;rw[if_neg (by omega)]
 exact Ai 4 0 id _ this.symm (by omega) h0 (by omega)
abbrev bD:Sh:=.pair (.int .i64) (.pair (.int .i64) (.pair (.int .i64) (.pair (.arr 8 (.int .i64)) (.pair (.int .i64) (.pair (.int .i64) (.pair (.int .i64) (.pair (.int .i64) (.pair (.int .i64) (.pair (.sl (.int .i64)) .unit)))))))))
abbrev TD:=Int×Int×Int×List Int×Int×Int×Int×Int×Int×List Int×Unit
variable {t:TD}
def jm(op:Int):Bool:=decide (8<=op/\op<=22)
def jo(i:ID):Int×Bool:=if sQ i≠0\/use i.1 0=false then(0,false) else(i.2.1,true)
def codeF(fs:List FD) (fn:Int):List ID:=(fs.getD fn.toNat (⟨#[]⟩,[],())).2.1
def lS(fs:List FD) (fn pc:Int):Option ID:=(codeF fs fn)[pc.toNat]?
def atR(fs:List FD) (fn pc:Int):ID×Bool:=match lS fs fn pc with
 | some i=>(i,true)
 | none=>((0,0,0,0,0,0,0,0,()),false)
def iW(id ch ph:Int) (hd:List Int) (i:ID):Int:=
 if ph≠0 then 0 else if i.1=18 then(if dM hd i.2.2.2.2.2.1=true then 0 else 27) else if i.1=16 then(if dM hd i.2.2.2.2.1=true then 0 else 27)
 else if i.1=21 then(if(dB id ch).2=true then 0 else 28) else 0
def bH(ms:List ByteArray) (fs:List FD) (bound:Int):TD->Prop
 | (id,fn,pc,rg,st,ch,ph,su,fa,hd,_)=>0<=aU id/\(0<=fn/\fn < fs.length)/\(0<=pc/\pc<=(codeF fs fn).length)/\(∀k < 8,∀r,rg[k]?=some r->bY r=true) /\
   (0<=st/\st<=bound)/\(0<=ch/\ch<=7/\(aU id=4->ch=0))/\SS hd/\(∀m∈hd,0<=m/\m < ms.length) /\
   (ph=0\/((ph=1\/ph=2)/\∃i,lS fs fn pc=some i/\i.1=18/\dM hd i.2.2.2.2.2.1=false))
open Classical in
def jd(ms:List ByteArray) (fs:List FD) (bound:Int) (t:TD):Bool:=decide (bH ms fs bound t)
def dW:TD->ID->TD×Bool
 | (id,fn,pc,rg,st,ch,ph,su,fa,hd,_),(op,a,b,c,obj,n,f,_,_)=>
   if op=1 then((id,fn,pc+1,rg.set a.toNat n,st,ch,ph,su,fa,hd,()),true)
   else if op=2 then((id,fn,pc+1,rg.set a.toNat (rg.getD b.toNat 0),st,ch,ph,su,fa,hd,()),true)
   else if op=3 then((id,fn,pc+1,if(dQ f (rg.getD b.toNat 0) (rg.getD c.toNat 0)).2=0 then rg.set a.toNat (dQ f (rg.getD b.toNat 0) (rg.getD c.toNat 0)).1 else rg,st,ch,ph,su,fa,hd,()),true)
   else if op=4 then((id,fn,n,rg,st,ch,ph,su,fa,hd,()),true)
   else if op=5 then((id,fn,if rg.getD b.toNat 0=0 then pc+1 else n,rg,st,ch,ph,su,fa,hd,()),true)
   else if op=6/\rg.getD b.toNat 0=0 then((id,fn,pc,rg,st,ch,ph,3,26,hd,()),false)
   else if op=7 then((id,fn,pc,rg,st,ch,ph,2,0,hd,()),false)
   else((id,fn,pc+1,rg,st,ch,ph,su,fa,hd,()),true)
def Aj:TD->Int->Int->TD
 | (id,fn,pc,rg,st,ch,ph,_,_,hd,_),s,f=>(id,fn,pc,rg,st,ch,ph,s,f,hd,())
def topS(fs:List FD) (bound:Int) (t:TD) (rest:ID->TD):TD:=match t with
 | (id,fn,pc,rg,st,ch,ph,su,fa,hd,_)=>match lS fs fn pc with
   | none=>(id,fn,pc,rg,st,ch,ph,2,0,hd,())
   | some i=>if jm i.1=true then
    (if iW id ch ph hd i≠0 then(id,fn,pc,rg,st,ch,ph,3,iW id ch ph hd i,hd,()) else if st=bound then(id,fn,pc,rg,st,ch,ph,4,0,hd,()) else(id,fn,pc,rg,st,ch,ph,su,fa,hd,()))
     else rest i
def eG(fs:List FD) (bound:Int):Nat->TD->TD
 | 0,t=>topS fs bound t λ_=>Aj t 3 29
 | k+1,t=>topS fs bound t λi=>if(dW t i).2=true then eG fs bound k (dW t i).1 else(dW t i).1
def rD(ms:List ByteArray) (fs:List FD) (bound:Int):TD->Prop
 | (id,fn,pc,rg,st,ch,ph,su,fa,hd,u)=>bH ms fs bound (id,fn,pc,rg,st,ch,ph,su,fa,hd,u) /\
   (((su=1/\st < bound\/su=4/\1<=st)/\fa=0/\∃i,lS fs fn pc=some i/\jm i.1=true/\iW id ch ph hd i=0) \/
    (su=2/\fa=0/\ph=0/\∀i,lS fs fn pc=some i->i.1=7) \/
    (su=3/\ph=0/\∃i,lS fs fn pc=some i/\(fa=26/\i.1=6/\rg.getD i.2.2.1.toNat 0=0\/fa=29/\jm i.1=false\/fa≠26/\fa≠29/\fa≠0/\iW id ch ph hd i=fa)))
open Classical in
def nD(ms:List ByteArray) (fs:List FD) (bound:Int) (t:TD):Bool:=decide (rD ms fs bound t)
theorem kP(h:sQ i=0):(0<=i.2.1/\i.2.1 < 8)/\(0<=i.2.2.1/\i.2.2.1 < 8)/\(0<=i.2.2.2.1/\i.2.2.2.1 < 8)/\(1<=i.1/\i.1<=22):=by
 unfold sQ pY at h;split at h
 .simp at h
 split at h
 .simp at h
 split at h
 .simp at h
 .rename_i h1 h2 h3;simp only[XC,uf]at h1 h3;simp only[wX,Ep,Yd,A8]at h1 h3;refine⟨?_,?_,?_,?_⟩<;>omega
theorem ag4(h:sQ i=0) (h3:i.1=3):1<=i.2.2.2.2.2.2.1/\i.2.2.2.2.2.2.1<=10:=by
 unfold sQ pY at h
 repeat' split at h
 all_goals first | (simp at h;done) | skip
 rename_i h1 h2 h4 h5 h6 h7;have hu:use i.1 5=true:=by rw[h3];rfl
 rw[hu]at h6
 by_cases hc:1<=i.2.2.2.2.2.2.1/\i.2.2.2.2.2.2.1<=10
 .exact hc
 .exfalso;apply h6;unfold vY;rw[if_neg hc];rfl
theorem amX(h:sQ i=0) (h1:i.1=1):bY i.2.2.2.2.2.1=true:=by
 unfold sQ pY at h
 repeat' split at h
 all_goals first | (simp at h;done) | skip
 rename_i q1 q2 q3 q4 q5 q6;simp[h1]at q6;unfold bY;simp;omega
theorem ag5{x:FD} (hx:fs[k]?=some x){j:Nat} (hj:x.2.1[j]?=some i):(((k:Int),(j:Int),()),i,())∈dR fs:=by
 unfold dR;rw[BO k fs 0 hx];refine akj _ (List.mem_append_left _ ?_);unfold qQ;rw[Yr];refine⟨(i,j),?_,by simp⟩
 rw[Yj];exact⟨j,by rw[aen,hj];simp⟩
theorem pq{fn:Int} (h:0<=fn/\fn < fs.length):∃x,fs[fn.toNat]?=some x/\codeF fs fn=x.2.1:=by
 have hl:fn.toNat < fs.length:=by omega
 refine⟨fs[fn.toNat],mP hl,?_⟩;unfold codeF;rw[Il,mP hl];rfl
theorem xI(h:(aB vs ms cs fs ts).1=0){fn:Int} (hf:0<=fn/\fn < fs.length) (hi:lS fs fn pc=some i):wS vs ms cs fs i (codeF fs fn).length=0:=by
 obtain⟨c1,c2,c3⟩:=nU h;obtain⟨x,hx,ex⟩:=pq hf;unfold lS at hi;rw[ex]at hi ⊢;have:=amJ c2 _ (ag5 hx hi)
 rwa [Je hx]at this
theorem nH(h:wS vs ms cs fs i m=0):sQ i=0/\(0<=qh vs ms cs fs i.1->0<=i.2.2.2.2.1/\i.2.2.2.2.1 < qh vs ms cs fs i.1)/\(i.1=18->0<=i.2.2.2.2.2.1/\i.2.2.2.2.2.1 < ms.length)/\(i.1=4\/i.1=5->0<=i.2.2.2.2.2.1/\i.2.2.2.2.2.1<=m):=by
 unfold wS ciS at h;split at h
 .rename_i q;exact absurd h q
 split at h
 .cases h
 split at h
 .cases h
 split at h
 .cases h
 .rename_i q1 q2 q3 q4;refine⟨Hg.1 q1,λh0=>?_,λh0=>?_,λh0=>?_⟩
  .omega
  .omega
  .omega
theorem Ak{a:Nat}{v:Int} (h:∀k < 8,∀r,rg[k]?=some r->bY r=true) (hv:bY v=true):∀k < 8,∀r,(rg.set a v)[k]?=some r->bY r=true:=by
 intro k hk r hr;rw[List.getElem?_set]at hr;split at hr
 .split at hr
  .cases hr;exact hv
  .cases hr
 .exact h k hk r hr
theorem ab8{b:Int} (h:∀k < 8,∀r,rg[k]?=some r->bY r=true) (hb:0<=b/\b < 8):bY (rg.getD b.toNat 0)=true:=by
 rw[Il];cases hq:rg[b.toNat]? with
 | none=>rfl
 | some r=>exact h _ (by omega) r hq
theorem ag6(f a b:Int):bY (dQ f a b).1=true:=by
 have:=Sl f a b;unfold bY;simpa using this
theorem UZ{n:Nat} (h:0<=pc) (h2:pc.toNat < n):0<=pc+1/\pc+1<=(n:Int):=by omega
theorem ajS{fn:Int} (h:lS fs fn pc=some i):pc.toNat < (codeF fs fn).length:=(eX.1 h).1
theorem ab9{fn st ph su fa:Int}{hd:List Int}{u:Unit} (h:bH ms fs bound (id,fn,pc,rg,st,ch,ph,su,fa,hd,u)) (hi:lS fs fn pc=some i) (hv:jm i.1=false):ph=0:=by
 rcases h.2.2.2.2.2.2.2.2 with e | ⟨_,j,hj,h18,_⟩
 .exact e
 .rw[hi]at hj;cases hj;rw[h18]at hv;cases hv
theorem ag7{fn st ph su fa:Int}{hd:List Int}{u:Unit} (h:bH ms fs bound (id,fn,pc,rg,st,ch,ph,su,fa,hd,u)) (hi:lS fs fn pc=none):ph=0:=by
 rcases h.2.2.2.2.2.2.2.2 with e | ⟨_,j,hj,h18,_⟩
 .exact e
 .rw[hi]at hj;cases hj
theorem yH(hc:(aB vs ms cs fs ts).1=0) (h:bH ms fs bound t) (hi:lS fs t.2.1 t.2.2.1=some i) (hv:jm i.1=false):bH ms fs bound (dW t i).1:=by
 obtain⟨id,fn,pc,rg,st,ch,ph,su,fa,hd,u⟩:=t;obtain⟨op,a,b,c,obj,n,f,ord,u2⟩:=i;have hi:lS fs fn pc=some (op,a,b,c,obj,n,f,ord,u2):=hi;have hp:=ab9 h hi hv;have iT:=ajS hi;obtain⟨h1,h2,h3,h4,h5,h6,h7,h8,h9⟩:=h;have ok:=xI hc h2 hi;obtain⟨k1,k2,k3,k4⟩:=nH ok;obtain⟨r1,r2,r3,r4⟩:=kP k1;have k4:op=4\/op=5->0<=n/\n<=((codeF fs fn).length:Int):=k4;have hpc:=UZ h3.1 iT;have key:∀(pc':Int) (D6:List Int) (OL U0:Int),(0<=pc'/\pc'<=((codeF fs fn).length:Int))->(∀k < 8,∀r,D6[k]?=some r->bY r=true)->bH ms fs bound (id,fn,pc',D6,st,ch,ph,OL,U0,hd,()):=
  λpc' D6 OL U0 q1 q2=>⟨h1,h2,q1,q2,h5,h6,h7,h8,.inl hp⟩
 unfold dW;simp only;split
 .rename_i e;exact key _ _ _ _ hpc (Ak h4 (amX k1 e))
 split
 .exact key _ _ _ _ hpc (Ak h4 (ab8 h4 r2))
 split
 .split
  .exact key _ _ _ _ hpc (Ak h4 (ag6 _ _ _))
  .exact key _ _ _ _ hpc h4
 split
 .rename_i e;exact key _ _ _ _ (k4 (.inl e)) h4
 split
 .rename_i e;split
  .exact key _ _ _ _ hpc h4
  .exact key _ _ _ _ (k4 (.inr e)) h4
 split
 .exact key _ _ _ _ h3 h4
 split
 .exact key _ _ _ _ h3 h4
 .exact key _ _ _ _ hpc h4
theorem Am(t:TD) (i:ID):(dW t i).1.1=t.1/\(dW t i).1.2.1=t.2.1/\(dW t i).1.2.2.2.2.1=t.2.2.2.2.1/\(dW t i).1.2.2.2.2.2.1=t.2.2.2.2.2.1/\(dW t i).1.2.2.2.2.2.2.1=t.2.2.2.2.2.2.1/\(dW t i).1.2.2.2.2.2.2.2.2.2.1=t.2.2.2.2.2.2.2.2.2.1/\((dW t i).2=true->(dW t i).1.2.2.2.2.2.2.2.1=t.2.2.2.2.2.2.2.1/\(dW t i).1.2.2.2.2.2.2.2.2.1=t.2.2.2.2.2.2.2.2.1):=by
 obtain⟨id,fn,pc,rg,st,ch,ph,su,fa,hd,u⟩:=t;obtain⟨op,a,b,c,obj,n,f,ord,u2⟩:=i;unfold dW;simp only
 repeat' split
 all_goals simp
theorem XL(id ch ph:Int) (hd:List Int) (i:ID):iW id ch ph hd i=0\/(ph=0/\(iW id ch ph hd i=27\/iW id ch ph hd i=28)):=by
 unfold iW
 repeat' split
 all_goals first | exact .inl rfl | (right;constructor<;>first | omega | simp)
theorem top_vld(hb:1<=bound){rest:ID->TD}{fn st ph:Int}{hd:List Int}{u:Unit} (h:bH ms fs bound (id,fn,pc,rg,st,ch,ph,1,0,hd,u))
 (hr:∀i,lS fs fn pc=some i->jm i.1=false->ph=0->rD ms fs bound (rest i)):rD ms fs bound (topS fs bound (id,fn,pc,rg,st,ch,ph,1,0,hd,u) rest):=by
 unfold topS;simp only;split
 .rename_i hi;exact⟨h,.inr (.inl ⟨rfl,rfl,ag7 h hi,λi q=>by rw[hi]at q;cases q⟩)⟩
 rename_i i hi;split
 .rename_i hv;have ho:=XL id ch ph hd i;split
  .rename_i e;refine⟨h,.inr (.inr ⟨rfl,by omega,i,hi,.inr (.inr ⟨by omega,by omega,by omega,rfl⟩)⟩)⟩
  .rename_i e;have e:iW id ch ph hd i=0:=by omega
   have hst:=h.2.2.2.2.1;split
   .exact⟨h,.inl ⟨.inr ⟨rfl,by omega⟩,rfl,i,hi,hv,e⟩⟩
   .exact⟨h,.inl ⟨.inl ⟨rfl,by omega⟩,rfl,i,hi,hv,e⟩⟩
 .rename_i hv;have hv:jm i.1=false:=by simpa using hv
  exact hr i hi hv (ab9 h hi hv)
theorem U1(hc:(aB vs ms cs fs ts).1=0) (hb:1<=bound):∀(k:Nat) (t:TD),bH ms fs bound t->t.2.2.2.2.2.2.2.1=1->t.2.2.2.2.2.2.2.2.1=0->rD ms fs bound (eG fs bound k t):=by
 intro k
 induction k with
 | zero=>
   rintro⟨id,fn,pc,rg,st,ch,ph,su,fa,hd,u⟩ h h1 h2;have h1:su=1:=h1;have h2:fa=0:=h2;subst h1;subst h2;rw[eG];refine top_vld hb h λi hi hv hp=>?_
   show rD ms fs bound (id,fn,pc,rg,st,ch,ph,3,29,hd,());exact⟨h,.inr (.inr ⟨rfl,hp,i,hi,.inr (.inl ⟨rfl,hv⟩)⟩)⟩
 | succ k ih=>
   rintro⟨id,fn,pc,rg,st,ch,ph,su,fa,hd,u⟩ h h1 h2;have h1:su=1:=h1;have h2:fa=0:=h2;subst h1;subst h2;rw[eG];refine top_vld hb h λi hi hv hp=>?_
   have hf:=yH hc (t:=(id,fn,pc,rg,st,ch,ph,1,0,hd,u)) h hi hv;have hk:=Am (id,fn,pc,rg,st,ch,ph,1,0,hd,u) i;split
   .rename_i e;exact ih _ hf (hk.2.2.2.2.2.2 e).1 (hk.2.2.2.2.2.2 e).2
   .rename_i e;obtain⟨op,a,b,c,obj,n,f,ord,u2⟩:=i;unfold dW at e ⊢;simp only at e ⊢
    by_cases n1:op=1
    .rw[if_pos n1]at e;exact absurd rfl e
    rw[if_neg n1]at e ⊢
    by_cases n2:op=2
    .rw[if_pos n2]at e;exact absurd rfl e
    rw[if_neg n2]at e ⊢
    by_cases n3:op=3
    .rw[if_pos n3]at e;exact absurd rfl e
    rw[if_neg n3]at e ⊢
    by_cases n4:op=4
    .rw[if_pos n4]at e;exact absurd rfl e
    rw[if_neg n4]at e ⊢
    by_cases n5:op=5
    .rw[if_pos n5]at e;exact absurd rfl e
    rw[if_neg n5]at e ⊢
    by_cases n6:op=6/\rg.getD b.toNat 0=0
    .rw[if_pos n6];exact⟨h,.inr (.inr ⟨rfl,hp,_,hi,.inl ⟨rfl,n6.1,n6.2⟩⟩)⟩
    rw[if_neg n6]at e ⊢
    by_cases n7:op=7
    .rw[if_pos n7];exact⟨h,.inr (.inl ⟨rfl,rfl,hp,λj hj=>by rw[hi]at hj;cases hj;exact n7⟩)⟩
    rw[if_neg n7]at e;exact absurd rfl e
theorem top_keep{rest:ID->TD} (hr:∀i,(rest i).1=t.1/\(rest i).2.1=t.2.1/\(rest i).2.2.2.2.1=t.2.2.2.2.1/\(rest i).2.2.2.2.2.2.2.2.2.1=t.2.2.2.2.2.2.2.2.2.1):
 (topS fs bound t rest).1=t.1/\(topS fs bound t rest).2.1=t.2.1/\(topS fs bound t rest).2.2.2.2.1=t.2.2.2.2.1/\(topS fs bound t rest).2.2.2.2.2.2.2.2.2.1=t.2.2.2.2.2.2.2.2.2.1:=by
 obtain⟨id,fn,pc,rg,st,ch,ph,su,fa,hd,u⟩:=t;unfold topS;simp only;split
 .exact⟨rfl,rfl,rfl,rfl⟩
 split
 .repeat' split
  all_goals exact⟨rfl,rfl,rfl,rfl⟩
 .exact hr _
theorem OM(fs:List FD) (bound:Int):∀(k:Nat) (t:TD),(eG fs bound k t).1=t.1/\(eG fs bound k t).2.1=t.2.1/\(eG fs bound k t).2.2.2.2.1=t.2.2.2.2.1/\(eG fs bound k t).2.2.2.2.2.2.2.2.2.1=t.2.2.2.2.2.2.2.2.2.1:=by
 intro k
 induction k with
 | zero=>
   intro t;rw[eG];exact top_keep λi=>⟨rfl,rfl,rfl,rfl⟩
 | succ k ih=>
   intro t;rw[eG];refine top_keep λi=>?_
   have hk:=Am t i;have:=ih (dW t i).1;split
   .exact⟨this.1.trans hk.1,this.2.1.trans hk.2.1,this.2.2.1.trans hk.2.2.1,this.2.2.2.trans hk.2.2.2.2.2.1⟩
   .exact⟨hk.1,hk.2.1,hk.2.2.1,hk.2.2.2.2.2.1⟩
def jr(l o:List Int) (b:Bool):List Int:=l.filter λx=>dM o x == b
def yI(l:List Int) (x:Int):List Int:=jr (aX l) [x] false
def uX(l:List Int) (x:Int):List Int:=aX (l++[x])
theorem Sr(l:List Int) (x:Int):SS (yI l x):=Yk _ (oP l)
theorem Lj{x:Int}:y∈yI l x↔y∈l/\y≠x:=by
 unfold yI jr;rw[MS,qg];have:(dM [x] y == false)=true↔y≠x:=by
  rw[CB,qc,A85]
 rw[this]
theorem U2{x:Int}:y∈uX l x↔y∈l\/y=x:=by
 unfold uX;rw[qg];simp
theorem U3(h:SS l):l.filter (λx=>decide (x < n))++[n]++l.filter (λx=>decide (n < x))=uX l n:=by
 refine yE ?_ (oP _) λx=>?_
 .unfold SS;rw[yU,Qg];refine⟨Yk _ h,?_,λa ha b hb=>?_⟩
  .rw[V8,X7];refine⟨λb hb=>?_,Yk _ h⟩
   simpa using(MS.1 hb).2
  .have ha:a < n:=by simpa using(MS.1 ha).2
   rw[V8,nG]at hb;rcases hb with rfl | hb
   .exact ha
   .have hb:n < b:=by simpa using(MS.1 hb).2
    omega
 .rw[U2];simp only[yU,V8,Du,nG,MS,dG];constructor
  .rintro(⟨q,_⟩ | q | ⟨q,_⟩)
   .exact .inl q
   .exact .inr q
   .exact .inl q
  .rintro(q | q)
   .by_cases h1:x < n
    .exact .inl ⟨q,h1⟩
    .by_cases h2:x=n
     .exact .inr (.inl h2)
     .exact .inr (.inr ⟨q,by omega⟩)
   .exact .inr (.inl q)
theorem yJ(h:SS l):l.filter (λx=>decide (x≠n))=yI l n:=by
 refine yE (Yk _ h) (Sr _ _) λx=>?_
 rw[Lj,MS];simp
def zT:TD:=(0,0,0,[0,0,0,0,0,0,0,0],0,0,0,0,0,[],())
def jU:TD->ID->Int->TD
 | (id,fn,pc,rg,st,ch,ph,su,fa,hd,_),i,result=>
   if i.1=18 then
    (if ph=0 then(id,fn,pc,if(jo i).2=true then rg.set (jo i).1.toNat result else rg,st+1,ch,1,su,fa,yI hd i.2.2.2.2.2.1,())
     else if ph=1 then(id,fn,pc,if(jo i).2=true then rg.set (jo i).1.toNat result else rg,st+1,ch,2,su,fa,hd,())
     else(id,fn,pc+1,if(jo i).2=true then rg.set (jo i).1.toNat result else rg,st+1,ch,0,su,fa,uX hd i.2.2.2.2.2.1,()))
   else(id,fn,pc+1,if(jo i).2=true then rg.set (jo i).1.toNat result else rg,st+1,if i.1=21 then ch+1 else ch,ph,su,fa,
    if i.1=15\/(i.1=17/\result≠0) then uX hd i.2.2.2.2.1 else if i.1=16 then yI hd i.2.2.2.2.1 else hd,())
theorem XM{op:Int} (h:op=15\/op=16\/op=17):qh vs ms cs fs op=ms.length:=by
 unfold qh;rw[if_neg (by omega),if_pos h]
theorem yK(h:rD ms fs bound t) (h1:t.2.2.2.2.2.2.2.1=1):t.2.2.2.2.2.2.2.2.1=0/\t.2.2.2.2.1 < bound/\∃i,lS fs t.2.1 t.2.2.1=some i/\jm i.1=true/\iW t.1 t.2.2.2.2.2.1 t.2.2.2.2.2.2.1 t.2.2.2.2.2.2.2.2.2.1 i=0:=by
 obtain⟨id,fn,pc,rg,st,ch,ph,su,fa,hd,u⟩:=t;have h1:su=1:=h1;subst h1;obtain⟨hf,q | q | q⟩:=h
 .obtain⟨q1,q2,i,hi,hv,ho⟩:=q;rcases q1 with⟨_,q1⟩ | ⟨q1,_⟩
  .exact⟨q2,q1,i,hi,hv,ho⟩
  .exact absurd q1 (by decide)
 .exact absurd q.1 (by decide)
 .exact absurd q.1 (by decide)
theorem yL(hc:(aB vs ms cs fs ts).1=0) (h:rD ms fs bound t) (h1:t.2.2.2.2.2.2.2.1=1) (hi:lS fs t.2.1 t.2.2.1=some i){result:Int} (hv:bY result=true):bH ms fs bound (jU t i result):=by
 obtain⟨f0,s0,j,hj,vj,oj⟩:=yK h h1;rw[hi]at hj;cases hj;obtain⟨id,fn,pc,rg,st,ch,ph,su,fa,hd,u⟩:=t;have hf:bH ms fs bound (id,fn,pc,rg,st,ch,ph,su,fa,hd,u):=h.1;have hi:lS fs fn pc=some i:=hi;have s0:st < bound:=s0;have oj:iW id ch ph hd i=0:=oj;have iT:=ajS hi;obtain⟨a1,a2,a3,a4,a5,a6,a7,a8,a9⟩:=hf;obtain⟨k1,k2,k3,k4⟩:=nH (xI hc a2 hi);have hpc:=UZ a3.1 iT;have hst:0<=st+1/\st+1<=bound:=⟨Int.add_nonneg a5.1 (by decide),s0⟩
 have hrg:∀k < 8,∀r,(if(jo i).2=true then rg.set (jo i).1.toNat result else rg)[k]?=some r->bY r=true:=by
  split
  .exact Ak a4 hv
  .exact a4
 have amY:∀x,SS (yI hd x)/\∀m∈yI hd x,0<=m/\m < (ms.length:Int):=λx=>⟨Sr _ _,λm hm=>a8 m (Lj.1 hm).1⟩
 have hadd:∀x,0<=x/\x < (ms.length:Int)->SS (uX hd x)/\∀m∈uX hd x,0<=m/\m < (ms.length:Int):=λx hx=>⟨oP _,λm hm=>by
  rcases U2.1 hm with q | q
  .exact a8 m q
  .subst q;exact hx⟩
 unfold jU;simp only;split
 .rename_i e;split
  .rename_i e0;subst e0;refine⟨a1,a2,a3,hrg,hst,a6,(amY _).1,(amY _).2,.inr ⟨.inl rfl,i,hi,e,?_⟩⟩;rw[qc];exact λq=>(Lj.1 q).2 rfl
  rename_i n0;have a10:=a9.resolve_left n0;split
  .exact⟨a1,a2,a3,hrg,hst,a6,a7,a8,.inr ⟨.inr rfl,a10.2⟩⟩
  .exact⟨a1,a2,hpc,hrg,hst,a6,(hadd _ (k3 e)).1,(hadd _ (k3 e)).2,.inl rfl⟩
 .rename_i e;have e0:ph=0:=by
   rcases a9 with q | ⟨_,j,hj,q,_⟩
   .exact q
   .rw[hi]at hj;cases hj;exact absurd q e
  subst e0;have hch:0<=(if i.1=21 then ch+1 else ch)/\(if i.1=21 then ch+1 else ch)<=7/\(aU id=4->(if i.1=21 then ch+1 else ch)=0):=by
   split
   .rename_i e21;have:(dB id ch).2=true:=by
     unfold iW at oj;rw[if_neg (by simp),if_neg e,if_neg (by omega),if_pos e21]at oj
     by_cases q:(dB id ch).2=true
     .exact q
     .rw[if_neg q]at oj;cases oj
    unfold dB at this;split at this
    .cases this
    .rename_i q;omega
   .exact a6
  refine⟨a1,a2,hpc,hrg,hst,hch,?_,?_,.inl rfl⟩
  .split
   .exact oP _
   split
   .exact Sr _ _
   .exact a7
  .split
   .rename_i q;have ho:=XM (vs:=vs) (ms:=ms) (cs:=cs) (fs:=fs) (op:=i.1) (by omega)
    rw[ho]at k2;exact(hadd _ (k2 (by omega))).2
   split
   .exact(amY _).2
   .exact a8
theorem acd(t:TD) (i:ID) (r:Int):(jU t i r).1=t.1/\(jU t i r).2.1=t.2.1/\(jU t i r).2.2.2.2.1=t.2.2.2.2.1+1/\(jU t i r).2.2.2.2.2.2.2.1=t.2.2.2.2.2.2.2.1/\(jU t i r).2.2.2.2.2.2.2.2.1=t.2.2.2.2.2.2.2.2.1:=by
 obtain⟨id,fn,pc,rg,st,ch,ph,su,fa,hd,u⟩:=t;unfold jU;simp only
 repeat' split
 all_goals simp
def bQ(e bound:Int):Int:=if e≠0 then e else if bound < 1\/32 < bound then 2 else 0
theorem fO{e:Int}:bQ e bound=0↔e=0/\1<=bound/\bound<=32:=by
 unfold bQ;constructor
 .intro h;split at h
  .rename_i q;exact absurd h q
  .rename_i q;split at h
   .cases h
   .omega
 .rintro⟨h1,h2,h3⟩;rw[if_neg (by omega),if_neg (by omega)]
def newS(e:Int) (fs:List FD) (bound id fn arg:Int):TD×Int:=
 if bQ e bound≠0 then(zT,bQ e bound) else if aU id < 0 then(zT,2) else if fn < 0\/(fs.length:Int)<=fn then(zT,11) else if bY arg=false then(zT,2)
 else(eG fs bound 256 (id,fn,0,[arg,0,0,0,0,0,0,0],0,0,0,1,0,[],()),0)
theorem yM(ms:List ByteArray){fn arg:Int} (hb:1<=bound) (h1:¬aU id < 0) (h2:¬(fn < 0\/(fs.length:Int)<=fn)) (h3:¬bY arg=false):bH ms fs bound (id,fn,0,[arg,0,0,0,0,0,0,0],0,0,0,1,0,[],()):=by
 refine⟨by omega,by omega,by omega,λk hk r hr=>?_,by omega,⟨by omega,by omega,λ_=>rfl⟩,List.Pairwise.nil,λm hm=>(nomatch hm),.inl rfl⟩
 match k,hr with
 | 0,hr=>cases hr;simpa using h3
 | k+1,hr=>
   have:r=0:=by
    have:=gQ (show[(0:Int),0,0,0,0,0,0][k]?=some r by simpa using hr)
    simpa using this
   rw[this];rfl
open Classical in
def iM(e:Int) (ms:List ByteArray) (fs:List FD) (t:TD):ID×Bool:=
 if e=0/\t.2.2.2.2.2.2.2.1=1/\rD ms fs 32 t then atR fs t.2.1 t.2.2.1 else((0,0,0,0,0,0,0,0,()),false)
open Classical in
def ig(e:Int) (ms:List ByteArray) (fs:List FD) (bound:Int) (t:TD) (result:Int):TD×Int:=
 if bQ e bound≠0 then(zT,bQ e bound) else if¬rD ms fs bound t then(zT,1) else if t.2.2.2.2.2.2.2.1≠1 then(zT,30) else if bY result=false then(zT,2)
 else(eG fs bound 256 (jU t (atR fs t.2.1 t.2.2.1).1 result),0)
end
end Go.Proofs.YtjhenjhcbcalpaaGreatDoor
