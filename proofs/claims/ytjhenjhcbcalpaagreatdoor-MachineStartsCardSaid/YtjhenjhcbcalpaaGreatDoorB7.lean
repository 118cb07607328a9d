/- Texts of this claim, part 7: V5, V6, V7, V8, V9, K2, V10, R1, K3. Conditions: those of the given rows. -/
import Derived.Test.YtjhenjhcbcalpaaGreatDoorB6
set_option linter.unusedSimpArgs false
set_option linter.unusedVariables false
set_option maxRecDepth 1000000
set_option maxHeartbeats 8000000
namespace Go.Proofs.YtjhenjhcbcalpaaGreatDoor
open Go Go.aV
noncomputable section
def IX(s:ByteArray) (i:Nat):Int:=match s[i]? with | some u=>(u.toNat:Int) | none=>0
theorem KJ{s:ByteArray}{i:Nat}{u:UInt8} (h:s[i]?=some u):IX s i=u.toNat:=by simp[IX,h]
def okB(c:Int):Bool:=tH c || decide (c=95) || decide (48≤c∧c≤57)
def dS(s:ByteArray):Bool:=decide (1≤s.size∧s.size≤16) && tH (IX s 0) && (List.range s.size).all λi=>okB (IX s i)
abbrev aq1:CT:={ ps:=[.str],pre:=λd=>True,res:=λd=>([],vB (dS d.1)) }
@[reducible] def amV (s:ByteArray):Nat→Option (St→iC):=λk=>match k with
  | 4=>some λ_=>.inv { α:=Nat,slots:=λk=>[(20,.c (.v (.int .i64 k)))],res:=λk=>[],inv:=λk=>k≤((List.range s.size)).length∧∀j < k,okB (IX s j)=true,meas:=λk=>((List.range s.size)).length - k }
  | _=>none
theorem ag9(s:ByteArray):
 let z5:=(↑s.size:Int) < (1:Int);let z3:=!(decide z5 || decide (16 < (↑s.size:Int)));let z6:=List.range s.size;let z2:=λ(x:Nat)=>(x≤z6.length∧∀(j:Nat),j < x→okB (IX s j)=true);let z4:=λ(u u_1:UInt8)=>!tH (↑u.toNat:Int) && !decide ((↑u_1.toNat:Int)=(95:Int));let z1:=λ(u_2 u u_1:UInt8)=>!decide ((↑u_2.toNat:Int) < (48:Int)) && (z4 u u_1);(z3=true→(0:Int)≤(0:Int)∧0 < (↑s.size:Int))∧∀(u:UInt8),(z3=true→s[0]?=some u)→(z3=true→True)∧br (decide z5 || decide (16 < (↑s.size:Int)) || !tH (↑u.toNat:Int)) (qB (dS s) false) ((∃x,(z2 x)∧(cI 0=cI (↑x:Int)∧True)∧([]:List aal)=[])∧∀(x:Nat),(z2 x)→br (decide ((↑x:Int) < (↑s.size:Int))) ((0≤(↑x:Int)∧(↑x:Int) < (↑s.size:Int))∧∀(u:UInt8),s[(↑x:Int).toNat]?=some u→True∧((!tH (↑u.toNat:Int))=true→0≤(↑x:Int)∧(↑x:Int) < (↑s.size:Int))∧∀(u_1:UInt8),((!tH (↑u.toNat:Int))=true→s[(↑x:Int).toNat]?=some u_1)→((z4 u u_1)=true→0≤(↑x:Int)∧(↑x:Int) < (↑s.size:Int))∧∀(u_2:UInt8),((z4 u u_1)=true→s[(↑x:Int).toNat]?=some u_2)→((z1 u_2 u u_1)=true→0≤(↑x:Int)∧(↑x:Int) < (↑s.size:Int))∧∀(u_3:UInt8),((z1 u_2 u u_1)=true→s[(↑x:Int).toNat]?=some u_3)→br (!tH (↑u.toNat:Int) && !decide ((↑u_1.toNat:Int)=(95:Int)) && (decide ((↑u_2.toNat:Int) < (48:Int)) || decide (57 < (↑u_3.toNat:Int)))) (qB (dS s) false) (cZ IntKind.i64 ((↑x:Int)+(1:Int))∧∃x',(z2 x')∧(cI ((↑x:Int)+(1:Int))=cI (↑x':Int)∧True)∧([]:List aal)=[]∧z6.length - x' < z6.length - x)) (qB (dS s) true)):=by
 conv=>zeta
 delta aal cI qB;have hs2:(!(decide ((↑s.size:Int) < (1:Int)) || decide ((16:Int) < (↑s.size:Int))))=true↔(1≤s.size∧s.size≤16):=by
  simp only[G6,qH,dh];omega
 refine⟨λh=>by have:=hs2.1 h;omega,λu hu=>⟨λ_=>trivial,ah.2 ⟨λh=>⟨rfl,?_⟩,λh=>?_⟩⟩⟩
 ·have:dS s=false:=by
   unfold dS
   by_cases hs:1≤s.size∧s.size≤16
   ·have e:=KJ (hu (hs2.2 hs));simp only[AA,dG,G6]at h;have h0:tH (IX s 0)=false:=by
     rw[e];rcases h with(h | h) | h
     ·omega
     ·omega
     ·exact h
    rw[h0];simp
   ·rw[Ed hs];rfl
  rw[this]
 ·simp only[qH,dh,yI]at h;obtain⟨⟨h1,h2⟩,h3⟩:=h;have hs:1≤s.size∧s.size≤16:=by omega
  have e:=KJ (hu (hs2.2 hs));have hl:(List.range s.size).length=s.size:=List.length_range;rw[hl];refine⟨⟨0,⟨by omega,λj hj=>by omega⟩,⟨rfl,trivial⟩,rfl⟩,λk hk=>ah.2 ⟨λh=>?_,λh=>?_⟩⟩
  ·simp only[dG]at h;have hN:(↑k:Int).toNat=k:=by omega
   rw[hN];refine⟨by omega,λv hv=>⟨trivial,λ_=>by omega,λv1 hv1=>⟨λ_=>by omega,λv2 hv2=>⟨λ_=>by omega,λv3 hv3=>?_⟩⟩⟩⟩
   have ev:=KJ hv;have bad:okB (IX s k)=false→dS s=false:=by
    intro hb;unfold dS;have:((List.range s.size).all λi=>okB (IX s i))=false:=by
     rw[List.all_eq_false];exact⟨k,by simp;omega,by rw[hb];simp⟩
    rw[this];simp
   have fin:okB (IX s k)=true→(cZ IntKind.i64 ((↑k:Int)+1)∧∃x',(x'≤s.size∧∀(j:Nat),j < x'→okB (IX s j)=true)∧(SV.c (SC.v (Value.int IntKind.i64 ((↑k:Int)+1)))=SV.c (SC.v (Value.int IntKind.i64 (↑x':Int)))∧True)∧([]:List (Go.aV.Gd×Go.aV.aj))=[]∧s.size - x' < s.size - k):=λho=>
    ⟨au.2 (by omega),k+1,⟨by omega,λj hj=>by
     by_cases gq:j=k
     ·rw[gq];exact ho
     ·exact hk.2 j (by omega)⟩,⟨rfl,trivial⟩,rfl,by omega⟩
   cases hA:tH (↑v.toNat:Int) with
   | true=>
     refine ah.2 ⟨λh=>by simp at h,λ_=>fin ?_⟩
     rw[ev];unfold okB;rw[hA];rfl
   | false=>
     have hv1:=hv1 (by rw[hA];rfl)
     rw[hv]at hv1;cases hv1
     by_cases h95:(↑v.toNat:Int)=95
     ·refine ah.2 ⟨λh=>by simp[h95]at h,λ_=>fin ?_⟩
      rw[ev];unfold okB;simp[h95]
     ·have hd95:decide ((↑v.toNat:Int)=95)=false:=Ed h95;have hv2:=hv2 (by rw[hA,hd95];rfl)
      rw[hv]at hv2;cases hv2
      by_cases h48:(↑v.toNat:Int) < 48
      ·refine ah.2 ⟨λ_=>⟨rfl,?_⟩,λh=>by simp[h95,h48]at h⟩
       rw[bad (by rw[ev];unfold okB;rw[hA,hd95];simp;omega)]
      ·have atd:decide ((↑v.toNat:Int) < 48)=false:=Ed h48;have hv3:=hv3 (by rw[hA,hd95,atd];rfl)
       rw[hv]at hv3;cases hv3
       by_cases h57:57 < (↑v.toNat:Int)
       ·refine ah.2 ⟨λ_=>⟨rfl,?_⟩,λh=>by simp[h95,h57]at h⟩
        rw[bad (by rw[ev];unfold okB;rw[hA,hd95];simp;omega)]
       ·refine ah.2 ⟨λh=>by simp[h95,h48,h57]at h,λ_=>fin ?_⟩
        rw[ev];unfold okB;rw[hA,hd95];simp;omega
  ·simp only[dh]at h;have:dS s=true:=by
    unfold dS;rw[L6 hs,e,h3];simp only[BQ];rw[X0];intro i hi;simp at hi;exact hk.2 i (by omega)
   rw[this];exact⟨rfl,rfl⟩
theorem abL:Go.aV.Met Tryz.prog aK.gd 208 aq1:=
 jC (cx:=aK) (n:=47) (cl:=[(214,akh)]) ay ⟨abC,trivial⟩ Tryz.func208 λd hd=>by
  obtain⟨s,⟨⟩⟩:=d;exact⟨amV s,cast (by kernel_rfl) (ag9 s)⟩
def gW(l:List ByteArray):Int×Int:=match(List.range l.length).find? (λi=>!dS (l.getD i ⟨#[]⟩) || uJ (l.take i) (l.getD i ⟨#[]⟩)) with
 | some i=>(if dS (l.getD i ⟨#[]⟩) then 7 else 6,i)
 | none=>(0,-1)
theorem wH{l:List ByteArray}{k:Nat} (hk:k < l.length) (h:∀j < k,dS (l.getD j ⟨#[]⟩)=true∧uJ (l.take j) (l.getD j ⟨#[]⟩)=false) (hf:dS (l.getD k ⟨#[]⟩)=false∨uJ (l.take k) (l.getD k ⟨#[]⟩)=true):
 gW l=(if dS (l.getD k ⟨#[]⟩) then 7 else 6,(k:Int)):=by
 unfold gW;rw[show(List.range l.length).find? (λi=>!dS (l.getD i ⟨#[]⟩) || uJ (l.take i) (l.getD i ⟨#[]⟩))=some k from List.find?_range_eq_some.2 ⟨by rcases hf with hf | hf<;>rw[hf]<;>simp,by simpa using hk,λj hj=>by obtain⟨a,b⟩:=h j hj;rw[a,b];rfl⟩]
theorem Ox{l:List ByteArray} (h:∀j < l.length,dS (l.getD j ⟨#[]⟩)=true∧uJ (l.take j) (l.getD j ⟨#[]⟩)=false):gW l=(0,-1):=by
 unfold gW;rw[show(List.range l.length).find? (λi=>!dS (l.getD i ⟨#[]⟩) || uJ (l.take i) (l.getD i ⟨#[]⟩))=none from A89.2 λi hi=>by
  obtain⟨a,b⟩:=h i (by simpa using hi)
  rw[a,b];simp]
abbrev abM:CT:={ ps:=[.sl .str],pre:=λd=>d.1.length≤1000000,res:=λd=>([],.gX [.c (.v (.int .i64 (gW d.1).1)),.c (.v (.int .i64 (gW d.1).2))]) }
@[reducible] def amW (l:List ByteArray):Nat→Option (St→iC):=λk=>match k with
  | 2=>some λ_=>.inv { α:=Nat,slots:=λk=>[(8,.c (.v (.int .i64 k)))],res:=λk=>[],inv:=λk=>k≤(l).length∧∀j < k,dS (l.getD j ⟨#[]⟩)=true∧uJ (l.take j) (l.getD j ⟨#[]⟩)=false,meas:=λk=>(l).length - k }
  | _=>none
theorem aha(l:List ByteArray) (aA:abM.pre (l,())):
 let z1:=λ(x:Nat)=>(x≤l.length∧∀(j:Nat),j < x→dS (l.getD j { data:=#[]:ByteArray })=true∧uJ (List.take j l) (l.getD j { data:=#[]:ByteArray })=false);let z2:=[cI ((gW l).fst),cI ((gW l).snd)];(∃x,(z1 x)∧(cI 0=cI (↑x:Int)∧True)∧([]:List aal)=[])∧∀(x:Nat),(z1 x)→br (decide ((↑x:Int) < (↑l.length:Int))) ((0≤(↑x:Int)∧(↑x:Int) < (↑l.length:Int))∧∀(d:ByteArray),l[(↑x:Int).toNat]?=some d→True∧br (!dS d) (rT z2 [cI 6,cI (↑x:Int)]) (((0:Int)≤(0:Int)∧0≤(↑x:Int)∧(↑x:Int)≤(↑l.length:Int))∧(List.drop 0 (List.take (↑x:Int).toNat l)).length≤1000000∧br (uJ (List.drop 0 (List.take (↑x:Int).toNat l)) d) (rT z2 [cI 7,cI (↑x:Int)]) (cZ IntKind.i64 ((↑x:Int)+(1:Int))∧∃x',(z1 x')∧(cI ((↑x:Int)+(1:Int))=cI (↑x':Int)∧True)∧([]:List aal)=[]∧l.length - x' < l.length - x))) (rT z2 [cI 0,cI (-1)]):=by
 conv=>zeta
 delta aal cI rT;have hp:l.length≤1000000:=aA;refine⟨⟨0,⟨by omega,λj hj=>by omega⟩,⟨rfl,trivial⟩,rfl⟩,λk hk=>ah.2 ⟨λh=>?_,λh=>?_⟩⟩
 ·simp only[dG]at h;have hN:(↑k:Int).toNat=k:=by omega
  rw[hN];refine⟨by omega,λd hd=>?_⟩
  have hg:l.getD k ⟨#[]⟩=d:=by rw[H8,hd];rfl
  refine⟨trivial,ah.2 ⟨λh2=>⟨rfl,?_⟩,λh2=>⟨⟨by omega,by omega,by omega⟩,by simp;omega,ah.2 ⟨λh3=>⟨rfl,?_⟩,λh3=>⟨au.2 (by omega),k+1,⟨by omega,λj hj=>?_⟩,⟨rfl,trivial⟩,rfl,by omega⟩⟩⟩⟩⟩
  ·have h2:dS d=false:=by simpa using h2
   rw[wH (by omega) hk.2 (.inl (by rw[hg];exact h2)),hg,h2];rfl
  ·have h2:dS d=true:=by simpa using h2
   have h3:uJ (l.take k) d=true:=by simpa using h3
   rw[wH (by omega) hk.2 (.inr (by rw[hg];exact h3)),hg,h2];rfl
  ·by_cases gq:j=k
   ·subst gq;rw[hg];exact⟨by simpa using h2,by simpa using h3⟩
   ·exact hk.2 j (by omega)
 ·simp only[dh]at h;rw[Ox λj hj=>hk.2 j (by omega)];exact⟨rfl,rfl⟩
theorem abN:Go.aV.Met Tryz.prog aK.gd 184 abM:=
 jC (cx:=aK) (n:=24) (cl:=[(208,aq1),(209,Rx)]) ay ⟨abL,abK,trivial⟩ Tryz.func184 λd hd=>by
  obtain⟨l,⟨⟩⟩:=d;exact⟨amW l,cast (by kernel_rfl) (aha l hd)⟩
def ciS(vs:List VD) (ms cs:List ByteArray) (fs:List FD) (e op obj n m:Int):Int:=if e≠0 then e else if 0≤pK vs ms cs fs op∧(obj < 0∨pK vs ms cs fs op≤obj) then 11 else if op=18∧(n < 0∨(ms.length:Int)≤n) then 11 else if(op=4∨op=5)∧(n < 0∨m < n) then 12 else 0
abbrev rX(i:ID):Int:=pG i.1 i.2.1 i.2.2.1 i.2.2.2.1 i.2.2.2.2.1 i.2.2.2.2.2.1 i.2.2.2.2.2.2.1 i.2.2.2.2.2.2.2.1
abbrev wI(vs:List VD) (ms cs:List ByteArray) (fs:List FD) (i:ID) (m:Int):Int:=ciS vs ms cs fs (rX i) i.1 i.2.2.2.2.1 i.2.2.2.2.2.1 m
abbrev aq2:CT:={ ps:=[oH,qO,.int .i64],pre:=λd=>True,res:=λd=>([],.one (.c (.v (.int .i64 (wI d.1.1 d.1.2.1 d.1.2.2.1 d.1.2.2.2.1 d.2.1 d.2.2.1))))) }
theorem ahb(vs:List VD) (ms cs:List ByteArray) (fs:List FD) (ts:List SD) (op a b c obj n fn ord m:Int):
 let z3:=pG op a b c obj n fn ord;let z2:=ciS vs ms cs fs z3 op obj n m;let z1:=qI z2 (11:Int);True∧br (!decide (pG op a b c obj n fn ord=0)) (qI z2 z3) (True∧br (decide (0≤pK vs ms cs fs op) && (decide (obj < 0) || decide (pK vs ms cs fs op≤obj))) z1 (br (decide (op=18) && (decide (n < 0) || decide ((↑ms.length:Int)≤n))) z1 (br ((decide (op=4) || decide (op=5)) && (decide (n < 0) || decide (m < n))) (qI z2 (12:Int)) (qI z2 (0:Int))))):=by
 conv=>zeta
 delta qI;generalize pG op a b c obj n fn ord=e;unfold ciS;generalize pK vs ms cs fs op=o;refine⟨trivial,ah.2 ⟨λh=>⟨rfl,?_⟩,λh=>⟨trivial,ah.2 ⟨λh2=>⟨rfl,?_⟩,λh2=>ah.2 ⟨λh3=>⟨rfl,?_⟩,λh3=>ah.2 ⟨λh4=>⟨rfl,?_⟩,λh4=>⟨rfl,?_⟩⟩⟩⟩⟩⟩⟩
 all_goals simp only[G6,yI,A8,AA,A86,qH,dG,dh]at *
 all_goals (congr 4;(repeat' split)<;>first | rfl | omega | (exfalso;omega))
theorem abO:Go.aV.Met Tryz.prog aK.gd 190 aq2:=
 jC (cx:=aK) (n:=66) (cl:=[(168,amB),(211,aki)]) ay ⟨Oe,abE,trivial⟩ Tryz.func190 λd hd=>by
  obtain⟨⟨vs,ms,cs,fs,ts,⟨⟩⟩,⟨op,a,b,c,obj,n,fn,ord,⟨⟩⟩,m,⟨⟩⟩:=d;exact⟨λ_=>none,cast (by kernel_rfl) (ahb vs ms cs fs ts op a b c obj n fn ord m)⟩
def CW(vs:List VD) (ms cs:List ByteArray) (fs:List FD):Int×Int×Int:=
 if(gW (iD vs)).1≠0 then((gW (iD vs)).1,-1,-1) else if(gW ms).1≠0 then((gW ms).1,-1,-1) else if(gW cs).1≠0 then((gW cs).1,-1,-1) else((gW (jD fs)).1,(gW (jD fs)).2,-1)
theorem amX{vs:List VD}{ms cs:List ByteArray}{fs:List FD}{k:Nat}{d:List ByteArray} (hd:[iD vs,ms,cs][k]?=some d) (h:(gW d).1≠0) (hn:∀j < k,∀x,[iD vs,ms,cs][j]?=some x→(gW x).1=0):
 CW vs ms cs fs=((gW d).1,-1,-1):=by
 unfold CW
 match k,hd,hn with
 | 0,hd,hn=>simp at hd;subst hd;rw[if_pos h]
 | 1,hd,hn=>
   simp at hd;subst hd;have h0:=hn 0 (by omega) (iD vs) rfl
   rw[if_neg (by rw[h0];simp),if_pos h]
 | 2,hd,hn=>
   simp at hd;subst hd;have h0:=hn 0 (by omega) (iD vs) rfl
   have h1:=hn 1 (by omega) ms rfl
   rw[if_neg (by rw[h0];simp),if_neg (by rw[h1];simp),if_pos h]
 | k+3,hd,hn=>simp at hd
theorem aq3{vs:List VD}{ms cs:List ByteArray}{fs:List FD} (hn:∀(j:Nat) x,[iD vs,ms,cs][j]?=some x→(gW x).1=0):CW vs ms cs fs=((gW (jD fs)).1,(gW (jD fs)).2,-1):=by
 unfold CW;have h0:=hn 0 (iD vs) rfl;have h1:=hn 1 ms rfl;have h2:=hn 2 cs rfl;rw[if_neg (by rw[h0];simp),if_neg (by rw[h1];simp),if_neg (by rw[h2];simp)]
abbrev amY:CT:={ ps:=[oH],pre:=λd=>d.1.1.length≤1000000∧d.1.2.1.length≤1000000∧d.1.2.2.1.length≤1000000∧d.1.2.2.2.1.length≤1000000,res:=λd=>([],.gX [.c (.v (.int .i64 ((CW d.1.1 d.1.2.1 d.1.2.2.1 d.1.2.2.2.1).1))),.agg [.v (.int .i64 ((CW d.1.1 d.1.2.1 d.1.2.2.1 d.1.2.2.2.1).2.1)),.v (.int .i64 ((CW d.1.1 d.1.2.1 d.1.2.2.1 d.1.2.2.2.1).2.2))]]) }
@[reducible] def amZ (vs:List VD) (ms cs:List ByteArray) (fs:List FD) (ts:List SD):Nat→Option (St→iC):=λk=>match k with
  | 2=>some λ_=>.inv { α:=Nat,slots:=λk=>[(18,.c (.v (.int .i64 k)))],res:=λk=>[],inv:=λk=>k≤([iD vs,ms,cs]).length∧∀j < k,∀x,[iD vs,ms,cs][j]?=some x→(gW x).1=0,meas:=λk=>([iD vs,ms,cs]).length - k }
  | _=>none
abbrev aef:=[v6 (-1),v6 (-1)]
theorem ahc(vs:List VD) (ms cs:List ByteArray) (fs:List FD) (ts:List SD) (aA:amY.pre ((vs,ms,cs,fs,ts,()),())):
 let z3:=[iD vs,ms,cs];let z1:=[g0 (aj.blk 27 [SC.sl aea vs,SC.sl Sh.str ms,SC.sl Sh.str cs,SC.sl kq2 fs,SC.sl aeb ts]),g0 (aj.blk 162 [v6 0,v6 0]),g0 aj.gone,g0 (aj.row 23 Sh.str.sl z3)];let z4:=CW vs ms cs fs;let z2:=[cI (z4.fst),SV.agg [v6 (z4.snd.fst),v6 (z4.snd.snd)]];vs.length≤1000000∧(∃x,(x≤z3.length∧∀(j:Nat),j < x→∀(x:List ByteArray),z3[j]?=some x→(gW x).fst=0)∧(cI 0=cI (↑x:Int)∧True)∧sm z1)∧∀(x:Nat),(x≤z3.length∧∀(j:Nat),j < x→∀(x:List ByteArray),z3[j]?=some x→(gW x).fst=0)→br (decide ((↑x:Int) < (↑z3.length:Int))) ((0≤(↑x:Int)∧(↑x:Int) < (↑z3.length:Int))∧(↑x:Int).toNat < z3.length∧∀(d:List ByteArray),z3[(↑x:Int).toNat]?=some d→d.length≤1000000∧br (!decide ((gW d).fst=0)) (rT z2 [cI ((gW d).fst),SV.agg aef]) (cZ IntKind.i64 ((↑x:Int)+(1:Int))∧∃x',(x'≤z3.length∧∀(j:Nat),j < x'→∀(x:List ByteArray),z3[j]?=some x→(gW x).fst=0)∧(cI ((↑x:Int)+(1:Int))=cI (↑x':Int)∧True)∧sm z1∧z3.length - x' < z3.length - x)) (fs.length≤1000000∧(jD fs).length≤1000000∧rT z2 [cI ((gW (jD fs)).fst),SV.agg [v6 ((gW (jD fs)).snd),v6 (-1)]]):=by
 conv=>zeta
 delta aea kq2 aeb aef v6 cI g0 rT sm I6;obtain⟨hp1,hp2,hp3,hp4⟩:vs.length≤1000000∧ms.length≤1000000∧cs.length≤1000000∧fs.length≤1000000:=aA;refine⟨hp1,?_⟩;refine⟨⟨0,⟨by omega,λj hj=>by omega⟩,⟨rfl,trivial⟩,rfl⟩,λk hk=>ah.2 ⟨λh=>?_,λh=>?_⟩⟩
 ·have h3:k < 3:=by simp at h;omega
  have h:k < [iD vs,ms,cs].length:=h3;have hN:(↑k:Int).toNat=k:=by omega
  rw[hN];refine⟨⟨by omega,by omega⟩,h,λd hd=>⟨?_,ah.2 ⟨λh2=>⟨rfl,?_⟩,λh2=>⟨au.2 (by omega),k+1,⟨by omega,λj hj x hx=>?_⟩,⟨rfl,trivial⟩,rfl,by omega⟩⟩⟩⟩
  ·have:d∈[iD vs,ms,cs]:=iF hd;simp only[mX,List.not_mem_nil,or_false]at this;rcases this with rfl | rfl | rfl
   ·simpa[iD]using hp1
   ·exact hp2
   ·exact hp3
  ·rw[amX hd (by simpa using h2) hk.2]
  ·by_cases gq:j=k
   ·subst gq;rw[hd]at hx;cases hx;simpa using h2
   ·exact hk.2 j (by omega) x hx
 ·have h:¬k < [iD vs,ms,cs].length:=by
   have:¬k < 3:=by simp at h;omega
   exact this
  refine⟨hp4,by simpa[jD]using hp4,rfl,?_⟩
  rw[aq3 λj x hx=>hk.2 j (by have:=(eU.1 hx).1;omega) x hx]
theorem abP:Go.aV.Met Tryz.prog aK.gd 143 amY:=
 jC (cx:=aK) (n:=41) (cl:=[(183,Rq),(184,abM),(185,Rt)]) ay ⟨abG,abN,abH,trivial⟩ Tryz.func143 λd hd=>by
  obtain⟨⟨vs,ms,cs,fs,ts,⟨⟩⟩,⟨⟩⟩:=d;exact⟨amZ vs ms cs fs ts,cast (by kernel_rfl) (ahc vs ms cs fs ts hd)⟩
def Az(vs:List VD) (ms cs:List ByteArray) (fs:List FD):Int:=if 8 < vs.length∨4 < ms.length∨4 < cs.length∨8 < fs.length then 4 else if vs.all λv=>bV v.2.1 then 0 else 2
abbrev aq4:CT:={ ps:=[oH],pre:=λd=>True,res:=λd=>([],.gX [.c (.v (.int .i64 (Az d.1.1 d.1.2.1 d.1.2.2.1 d.1.2.2.2.1))),.agg [.v (.int .i64 (-1)),.v (.int .i64 (-1))]]) }
@[reducible] def am0 (vs:List VD) (ms cs:List ByteArray) (fs:List FD) (ts:List SD):Nat→Option (St→iC):=λk=>match k with
  | 5=>some λ_=>.inv { α:=Nat,slots:=λk=>[(34,.c (.v (.int .i64 k)))],res:=λk=>[],inv:=λk=>k≤(vs).length∧∀j < k,∀v,vs[j]?=some v→bV v.2.1=true,meas:=λk=>(vs).length - k }
  | _=>none
abbrev afg:=[cI 0,SV.agg [v6 (-1),v6 (-1)]]
theorem ahd(vs:List VD) (ms cs:List ByteArray) (fs:List FD) (ts:List SD):
 let z3:=[cI (Az vs ms cs fs),SV.agg aef];let z2:=λ(x:Nat)=>(x≤vs.length∧∀(j:Nat),j < x→∀(v:ByteArray×Int×Unit),vs[j]?=some v→bV v.snd.fst=true);let z1:=[g0 (aj.blk 27 [SC.sl aea vs,SC.sl Sh.str ms,SC.sl Sh.str cs,SC.sl kq2 fs,SC.sl aeb ts]),g0 (aj.blk 162 [v6 0,v6 0]),g0 (aj.blk 162 aef)];br (decide (8 < (↑vs.length:Int)) || decide (4 < (↑ms.length:Int)) || decide (4 < (↑cs.length:Int)) || decide (8 < (↑fs.length:Int))) (rT z3 [cI 4,SV.agg aef]) ((∃x,(z2 x)∧(cI 0=cI (↑x:Int)∧True)∧sm z1)∧∀(x:Nat),(z2 x)→br (decide ((↑x:Int) < (↑vs.length:Int))) ((0≤(↑x:Int)∧(↑x:Int) < (↑vs.length:Int))∧∀(d:ByteArray×(I6.pair Sh.unit).den),vs[(↑x:Int).toNat]?=some d→True∧br (!bV (d.snd.fst,()).fst) (rT z3 [cI 2,SV.agg aef]) (cZ IntKind.i64 ((↑x:Int)+(1:Int))∧∃x',(z2 x')∧(cI ((↑x:Int)+(1:Int))=cI (↑x':Int)∧True)∧sm z1∧vs.length - x' < vs.length - x)) (rT z3 afg)):=by
 conv=>zeta
 delta aef aea kq2 aeb afg v6 cI g0 rT sm I6
 by_cases hc:8 < vs.length∨4 < ms.length∨4 < cs.length∨8 < fs.length
 ·have e:Az vs ms cs fs=4:=by unfold Az;rw[if_pos hc]
  rw[e];refine ah.2 ⟨λ_=>⟨rfl,rfl⟩,λh=>?_⟩
  simp only[qH,dh]at h;omega
 refine ah.2 ⟨λh=>?_,λh=>⟨⟨0,⟨by omega,λj hj=>by omega⟩,⟨rfl,trivial⟩,rfl⟩,λk hk=>ah.2 ⟨λh2=>?_,λh2=>?_⟩⟩⟩
 ·simp only[AA,dG]at h;omega
 ·simp only[dG]at h2;have hN:(↑k:Int).toNat=k:=by omega
  rw[hN];refine⟨by omega,λd hd=>⟨trivial,ah.2 ⟨λh3=>⟨rfl,?_⟩,λh3=>⟨au.2 (by omega),k+1,⟨by omega,λj hj v hv=>?_⟩,⟨rfl,trivial⟩,rfl,by omega⟩⟩⟩⟩
  ·have h3:bV d.2.1=false:=by simpa using h3
   have e:Az vs ms cs fs=2:=by
    unfold Az;rw[if_neg hc,if_neg];intro hh;rw[X0]at hh;have:=hh d (iF hd);rw[h3]at this;cases this
   rw[e]
  ·have h3:bV d.2.1=true:=by simpa using h3
   by_cases gq:j=k
   ·subst gq;rw[hd]at hv;cases hv;exact h3
   ·exact hk.2 j (by omega) v hv
 ·simp only[dh]at h2;have e:Az vs ms cs fs=0:=by
   unfold Az;rw[if_neg hc,if_pos];rw[X0];intro v hv;obtain⟨j,hj⟩:=wQ hv;exact hk.2 j (by have:=(eU.1 hj).1;omega) v hj
  rw[e];exact⟨rfl,rfl⟩
theorem abQ:Go.aV.Met Tryz.prog aK.gd 144 aq4:=
 jC (cx:=aK) (n:=45) (cl:=[(186,abD)]) ay ⟨Ou,trivial⟩ Tryz.func144 λd hd=>by
  obtain⟨⟨vs,ms,cs,fs,ts,⟨⟩⟩,⟨⟩⟩:=d;exact⟨am0 vs ms cs fs ts,cast (by kernel_rfl) (ahd vs ms cs fs ts)⟩
def Dy(n:Nat) (t:SD):Int:=if t.1 < 0∨(n:Int)≤t.1 then 11 else if bV t.2.1 then 0 else 2
def Dz(fs:List FD) (ts:List SD):Int:=if ts.length < 1∨8 < ts.length then 4 else match ts.find? (λt=>decide (Dy fs.length t≠0)) with | some t=>Dy fs.length t | none=>0
theorem yj{α:Type}{l:List α}{p:α→Bool}{k:Nat}{d:α} (hd:l[k]?=some d) (hp:p d=true) (hn:∀j < k,∀t,l[j]?=some t→p t=false):l.find? p=some d:=by
 induction l generalizing k with
 | nil=>simp at hd
 | cons x l ih=>
   cases k with
   | zero=>simp at hd;subst hd;simp[hp]
   | succ k=>
     have h0:=hn 0 (by omega) x (by simp)
     rw[List.find?_cons,h0];exact ih (by simpa using hd) λj hj t ht=>hn (j+1) (by omega) t (by simpa using ht)
theorem UA{α:Type}{l:List α}{p:α→Bool} (hn:∀(j:Nat) t,l[j]?=some t→p t=false):l.find? p=none:=by
 rw[A89];intro x hx;obtain⟨j,hj⟩:=wQ hx;rw[hn j x hj];simp
theorem zS{fs:List FD}{ts:List SD}{k:Nat}{d:SD} (hc:¬(ts.length < 1∨8 < ts.length)) (hd:ts[k]?=some d) (h:Dy fs.length d≠0) (hn:∀j < k,∀t,ts[j]?=some t→Dy fs.length t=0):Dz fs ts=Dy fs.length d:=by
 unfold Dz;rw[if_neg hc,yj hd (by simpa using h) λj hj t ht=>by simpa using hn j hj t ht]
theorem UC{fs:List FD}{ts:List SD} (hc:¬(ts.length < 1∨8 < ts.length)) (hn:∀(j:Nat) t,ts[j]?=some t→Dy fs.length t=0):Dz fs ts=0:=by
 unfold Dz;rw[if_neg hc,UA λj t ht=>by simpa using hn j t ht]
abbrev aq6:CT:={ ps:=[oH],pre:=λd=>True,res:=λd=>([],.gX [.c (.v (.int .i64 (Dz d.1.2.2.2.1 d.1.2.2.2.2.1))),.agg [.v (.int .i64 (-1)),.v (.int .i64 (-1))]]) }
@[reducible] def am1 (vs:List VD) (ms cs:List ByteArray) (fs:List FD) (ts:List SD):Nat→Option (St→iC):=λk=>match k with
  | 5=>some λ_=>.inv { α:=Nat,slots:=λk=>[(22,.c (.v (.int .i64 k)))],res:=λk=>[],inv:=λk=>k≤(ts).length∧∀j < k,∀t,ts[j]?=some t→Dy fs.length t=0,meas:=λk=>(ts).length - k }
  | _=>none
theorem ahe(vs:List VD) (ms cs:List ByteArray) (fs:List FD) (ts:List SD):
 let z3:=[cI (Dz fs ts),SV.agg aef];let z2:=λ(x:Nat)=>(x≤ts.length∧∀(j:Nat),j < x→∀(t:Int×Int×Unit),ts[j]?=some t→Dy fs.length t=0);let z1:=[g0 (aj.blk 27 [SC.sl aea vs,SC.sl Sh.str ms,SC.sl Sh.str cs,SC.sl kq2 fs,SC.sl aeb ts]),g0 (aj.blk 162 [v6 0,v6 0]),g0 (aj.blk 162 aef)];br (decide ((↑ts.length:Int) < (1:Int)) || decide (8 < (↑ts.length:Int))) (rT z3 [cI 4,SV.agg aef]) ((∃x,(z2 x)∧(cI 0=cI (↑x:Int)∧True)∧sm z1)∧∀(x:Nat),(z2 x)→br (decide ((↑x:Int) < (↑ts.length:Int))) ((0≤(↑x:Int)∧(↑x:Int) < (↑ts.length:Int))∧∀(d:Int×(I6.pair Sh.unit).den),ts[(↑x:Int).toNat]?=some d→br (decide (d.fst < 0) || decide ((↑fs.length:Int)≤d.fst)) (rT z3 [cI 11,SV.agg aef]) (True∧br (!bV (d.snd.fst,()).fst) (rT z3 [cI 2,SV.agg aef]) (cZ IntKind.i64 ((↑x:Int)+(1:Int))∧∃x',(z2 x')∧(cI ((↑x:Int)+(1:Int))=cI (↑x':Int)∧True)∧sm z1∧ts.length - x' < ts.length - x))) (rT z3 afg)):=by
 conv=>zeta
 delta aef aea kq2 aeb afg v6 cI g0 rT sm I6
 by_cases hc:ts.length < 1∨8 < ts.length
 ·have e:Dz fs ts=4:=by unfold Dz;rw[if_pos hc]
  rw[e];refine ah.2 ⟨λ_=>⟨rfl,rfl⟩,λh=>?_⟩
  simp only[qH,dh]at h;omega
 refine ah.2 ⟨λh=>?_,λh=>⟨⟨0,⟨by omega,λj hj=>by omega⟩,⟨rfl,trivial⟩,rfl⟩,λk hk=>ah.2 ⟨λh2=>?_,λh2=>?_⟩⟩⟩
 ·simp only[AA,dG]at h;omega
 ·simp only[dG]at h2;have hN:(↑k:Int).toNat=k:=by omega
  rw[hN];refine⟨by omega,λd hd=>ah.2 ⟨λh3=>⟨rfl,?_⟩,λh3=>⟨trivial,ah.2 ⟨λh4=>⟨rfl,?_⟩,λh4=>⟨au.2 (by omega),k+1,⟨by omega,λj hj v hv=>?_⟩,⟨rfl,trivial⟩,rfl,by omega⟩⟩⟩⟩⟩
  ·have h3:d.1 < 0∨(fs.length:Int)≤d.1:=by simpa using h3
   have e:Dy fs.length d=11:=by unfold Dy;rw[if_pos h3]
   rw[zS hc hd (by rw[e];simp) hk.2,e]
  ·have h3:¬(d.1 < 0∨(fs.length:Int)≤d.1):=by simpa using h3
   have h4:bV d.2.1=false:=by simpa using h4
   have e:Dy fs.length d=2:=by unfold Dy;rw[if_neg h3,if_neg (by rw[h4];simp)]
   rw[zS hc hd (by rw[e];simp) hk.2,e]
  ·have h3:¬(d.1 < 0∨(fs.length:Int)≤d.1):=by simpa using h3
   have h4:bV d.2.1=true:=by simpa using h4
   by_cases gq:j=k
   ·subst gq;rw[hd]at hv;cases hv;unfold Dy;rw[if_neg h3,if_pos h4]
   ·exact hk.2 j (by omega) v hv
 ·simp only[dh]at h2;rw[UC hc λj t hj=>hk.2 j (by have:=(eU.1 hj).1;omega) t hj];exact⟨rfl,rfl⟩
theorem abR:Go.aV.Met Tryz.prog aK.gd 146 aq6:=
 jC (cx:=aK) (n:=45) (cl:=[(186,abD)]) ay ⟨Ou,trivial⟩ Tryz.func146 λd hd=>by
  obtain⟨⟨vs,ms,cs,fs,ts,⟨⟩⟩,⟨⟩⟩:=d;exact⟨am1 vs ms cs fs ts,cast (by kernel_rfl) (ahe vs ms cs fs ts)⟩
abbrev abS:CT:={ ps:=[shF],pre:=λd=>True,res:=λd=>([],vB (decide (64 < d.1.2.1.length))) }
theorem ahf(nm:ByteArray) (l:List ID):
 qB (decide (64 < l.length)) (decide (64 < (↑l.length:Int))):=by
 delta qB;refine⟨rfl,?_⟩
 congr 4
 rw[Ee];simp only[dG];omega
theorem abT:Go.aV.Met Tryz.prog aK.gd 188 abS:=
 jC (cx:=aK) (n:=7) (cl:=[]) ay trivial Tryz.func188 λd hd=>by
  obtain⟨⟨nm,l,⟨⟩⟩,⟨⟩⟩:=d;exact⟨λ_=>none,cast (by kernel_rfl) (ahf nm l)⟩
def dU(fs:List FD):Int:=match fs.findIdx? (λf=>decide (64 < f.2.1.length)) with | some k=>(k:Int) | none=>-1
theorem FZ{fs:List FD}{k:Nat}{d:FD} (hd:fs[k]?=some d) (h2:64 < d.2.1.length) (hn:∀j < k,∀f,fs[j]?=some f→f.2.1.length≤64):dU fs=k:=by
 have iO:k < fs.length:=(eU.1 hd).1;have:fs.findIdx? (λf=>decide (64 < f.2.1.length))=some k:=by
  rw[xC];refine⟨iO,by rw[(eU.1 hd).2];simpa using h2,λj hj=>?_⟩
  have:=hn j hj fs[j] (l7 (by omega))
  simpa using this
 simp[dU,this]
theorem Bz{fs:List FD} (hn:∀(j:Nat) f,fs[j]?=some f→f.2.1.length≤64):dU fs = -1:=by
 have:fs.findIdx? (λf=>decide (64 < f.2.1.length))=none:=by
  rw[Me];intro y hy;obtain⟨j,hj⟩:=wQ hy;simpa using hn j y hj
 simp[dU,this]
abbrev KL:CT:={ ps:=[.sl shF],pre:=λd=>d.1.length≤1000000,res:=λd=>([],.one (.c (.v (.int .i64 (dU d.1))))) }
@[reducible] def am2 (fs:List FD):Nat→Option (St→iC):=λk=>match k with
  | 2=>some λ_=>.inv { α:=Nat,slots:=λk=>[(8,.c (.v (.int .i64 k)))],res:=λk=>[],inv:=λk=>k≤(fs).length∧∀j < k,∀f,fs[j]?=some f→f.2.1.length≤64,meas:=λk=>(fs).length - k }
  | _=>none
theorem ahg(fs:List FD) (aA:KL.pre (fs,())):
 let z1:=λ(x:Nat)=>(x≤fs.length∧∀(j:Nat),j < x→∀(f:ByteArray×List ID×Unit),fs[j]?=some f→f.snd.fst.length≤64);(∃x,(z1 x)∧(cI 0=cI (↑x:Int)∧True)∧([]:List aal)=[])∧∀(x:Nat),(z1 x)→br (decide ((↑x:Int) < (↑fs.length:Int))) ((0≤(↑x:Int)∧(↑x:Int) < (↑fs.length:Int))∧∀(d:ByteArray×((I6.pair (I6.pair (I6.pair (I6.pair (I6.pair (I6.pair (I6.pair (I6.pair Sh.unit)))))))).sl.pair Sh.unit).den),fs[(↑x:Int).toNat]?=some d→True∧br (decide (64 < List.length (d.snd.fst,()).fst)) (qI (dU fs) (↑x:Int)) (cZ IntKind.i64 ((↑x:Int)+(1:Int))∧∃x',(z1 x')∧(cI ((↑x:Int)+(1:Int))=cI (↑x':Int)∧True)∧([]:List aal)=[]∧fs.length - x' < fs.length - x)) (qI (dU fs) (-1:Int)):=by
 conv=>zeta
 delta aal cI qI I6;have hp:fs.length≤1000000:=aA;refine⟨⟨0,⟨by omega,λj hj=>by omega⟩,⟨rfl,trivial⟩,rfl⟩,λk hk=>ah.2 ⟨λh=>?_,λh=>?_⟩⟩
 ·simp only[dG]at h;have hN:(↑k:Int).toNat=k:=by omega
  rw[hN];refine⟨by omega,λd hd=>⟨trivial,ah.2 ⟨λh2=>⟨rfl,?_⟩,λh2=>⟨au.2 (by omega),k+1,⟨by omega,λj hj f hf=>?_⟩,⟨rfl,trivial⟩,rfl,by omega⟩⟩⟩⟩
  ·have h2:64 < d.2.1.length:=by simpa using h2
   rw[FZ hd h2 hk.2]
  ·have h2:¬64 < d.2.1.length:=by simpa using h2
   by_cases gq:j=k
   ·subst gq;rw[hd]at hf;cases hf;omega
   ·exact hk.2 j (by omega) f hf
 ·simp only[dh]at h;rw[Bz λj f hf=>hk.2 j (by have:=(eU.1 hf).1;omega) f hf];exact⟨rfl,rfl⟩
theorem XE:Kz Tryz.prog aK.gd 187 [.func (.func 188) #[] #[]] KL:=
 (lV (cx:=aK) (n:=19) (cl:=[(188,abS)]) (il:=Xy) (hl:=hlN) (ml:=mlN) (rc:=[]) (lits:=[]) (suf:=[.func (.func 188) #[] #[]]) (by kernel_rfl) ay ⟨abT,trivial⟩ trivial trivial trivial Tryz.func187 (by kernel_rfl) (by kernel_rfl) rfl (by kernel_rfl) (by kernel_rfl) (by simp) λd hd=>by
  obtain⟨fs,⟨⟩⟩:=d;exact⟨am2 fs,cast (by kernel_rfl) (ahg fs hd)⟩)
def KN(vs:List VD) (ms cs:List ByteArray) (fs:List FD) (d:bY [FY,qO]):Int:=wI vs ms cs fs d.2.1 (((fs.getD d.1.1.toNat (⟨#[]⟩,[],())).2.1.length:Nat):Int)
def F5(vs:List VD) (ms cs:List ByteArray) (fs:List FD):Int×Int×Int:=match(dR fs).find? (λd=>decide (d.1.1=dU fs) || decide (KN vs ms cs fs d≠0)) with
 | some d=>if d.1.1=dU fs then(4,dU fs,-1) else(KN vs ms cs fs d,d.1.1,d.1.2.1)
 | none=>if 0≤dU fs then(4,dU fs,-1) else(0,-1,-1)
theorem UD{vs:List VD}{ms cs:List ByteArray}{fs:List FD}{d:bY [FY,qO]}{e:FD} (he:fs[d.1.1.toNat]?=some e):KN vs ms cs fs d=wI vs ms cs fs d.2.1 (e.2.1.length:Int):=by
 unfold KN;rw[H8,he];rfl
theorem wJ:∀(l:List FD) (n:Nat){d:bY [FY,qO]},d∈jX n l→∃(k:Nat) (x:FD) (j:Nat) (e:ID),l[k]?=some x∧x.2.1[j]?=some e∧d=((((n+k:Nat):Int),(j:Int),()),e,())
 | [],n,d,h=>by simp[jX]at h
 | x :: l,n,d,h=>by
   simp only[jX,GV]at h;rcases h with h | h
   ·unfold qF at h;obtain⟨p,hp,rfl⟩:=List.mem_map.1 h;have:=List.mk_mem_zipIdx_iff_getElem?.1 (show(p.1,p.2)∈x.2.1.zipIdx from hp)
    exact⟨0,x,p.2,p.1,rfl,this,rfl⟩
   ·obtain⟨k,y,j,e,h1,h2,rfl⟩:=wJ l (n+1) h;exact⟨k+1,y,j,e,by simpa using h1,h2,by rw[show n+1+k=n+(k+1) by omega]⟩
theorem Oy{fs:List FD}{i:Nat}{d:bY [FY,qO]} (hd:(dR fs)[i]?=some d):0≤d.1.1∧d.1.1 < fs.length:=by
 obtain⟨k,x,j,e,h1,h2,rfl⟩:=wJ fs 0 (iF hd);have:=(eU.1 h1).1;show 0≤((0+k:Nat):Int)∧((0+k:Nat):Int) < _;omega
theorem UE{vs:List VD}{ms cs:List ByteArray}{fs:List FD}{i:Nat}{d:bY [FY,qO]} (hd:(dR fs)[i]?=some d) (hb:d.1.1=dU fs∨KN vs ms cs fs d≠0)
 (hn:∀j < i,∀d,(dR fs)[j]?=some d→d.1.1≠dU fs∧KN vs ms cs fs d=0):F5 vs ms cs fs=if d.1.1=dU fs then(4,dU fs,-1) else(KN vs ms cs fs d,d.1.1,d.1.2.1):=by
 unfold F5;rw[yj hd (by simpa using hb) λj hj t ht=>by obtain⟨a,b⟩:=hn j hj t ht;simp[a,b]]
theorem Ry{vs:List VD}{ms cs:List ByteArray}{fs:List FD} (hn:∀(j:Nat) d,(dR fs)[j]?=some d→d.1.1≠dU fs∧KN vs ms cs fs d=0):F5 vs ms cs fs=if 0≤dU fs then(4,dU fs,-1) else(0,-1,-1):=by
 unfold F5;rw[UA λj t ht=>by obtain⟨a,b⟩:=hn j t ht;simp[a,b]]
abbrev am3:CT:={ ps:=[oH],pre:=λd=>d.1.2.2.2.1.length≤1000000∧∀x∈d.1.2.2.2.1,x.2.1.length≤1000000,res:=λd=>([],.gX [.c (.v (.int .i64 ((F5 d.1.1 d.1.2.1 d.1.2.2.1 d.1.2.2.2.1).1))),.agg [.v (.int .i64 ((F5 d.1.1 d.1.2.1 d.1.2.2.1 d.1.2.2.2.1).2.1)),.v (.int .i64 ((F5 d.1.1 d.1.2.1 d.1.2.2.1 d.1.2.2.2.1).2.2))]]) }
@[reducible] def am4 (vs:List VD) (ms cs:List ByteArray) (fs:List FD) (ts:List SD):Nat→Option (St→iC):=λk=>match k with
  | 5=>some λ_=>.rng { α:=Nat,res:=λ_=>[],inv:=λi n=>n=i∧∀j < n,∀d,(dR fs)[j]?=some d→d.1.1≠dU fs∧KN vs ms cs fs d=0 }
  | _=>none
abbrev aq7:List (Nat×Nat×CT):=[(187,188,KL)]
theorem ahh(vs:List VD) (ms cs:List ByteArray) (fs:List FD) (ts:List SD) (aA:am3.pre ((vs,ms,cs,fs,ts,()),())):
 let z5:=[g0 (aj.blk 27 [SC.sl aea vs,SC.sl Sh.str ms,SC.sl Sh.str cs,SC.sl kq2 fs,SC.sl aeb ts]),g0 (aj.blk 38 [v6 0]),g0 (aj.blk 162 [v6 0,v6 0]),g0 (aj.blk 3 [v6 (dU fs)])];let z11:=F5 vs ms cs fs;let z9:=[cI (z11.fst),SV.agg [v6 (z11.snd.fst),v6 (z11.snd.snd)]];let z10:=[cI 4,SV.agg [v6 (dU fs),v6 (-1)]];let z3:=((rT z9 z10)∧rT z9 z10)∧rT z9 z10;let z8:=rT z9 afg;let z4:=λ(d:(I6.pair (I6.pair Sh.unit)).den×bY [I6.pair (I6.pair (I6.pair (I6.pair (I6.pair (I6.pair (I6.pair (I6.pair Sh.unit)))))))])=>(d.snd.fst.fst,d.snd.fst.snd.fst,d.snd.fst.snd.snd.fst,d.snd.fst.snd.snd.snd.fst,d.snd.fst.snd.snd.snd.snd.fst,d.snd.fst.snd.snd.snd.snd.snd.fst,d.snd.fst.snd.snd.snd.snd.snd.snd.fst,d.snd.fst.snd.snd.snd.snd.snd.snd.snd.fst,());let z6:=λ(d:(I6.pair (I6.pair Sh.unit)).den×bY [I6.pair (I6.pair (I6.pair (I6.pair (I6.pair (I6.pair (I6.pair (I6.pair Sh.unit)))))))])=>(d.snd.fst.snd.snd.snd.snd.fst,d.snd.fst.snd.snd.snd.snd.snd.fst,d.snd.fst.snd.snd.snd.snd.snd.snd.fst,d.snd.fst.snd.snd.snd.snd.snd.snd.snd.fst,());let z7:=λ(d:(I6.pair (I6.pair Sh.unit)).den×bY [I6.pair (I6.pair (I6.pair (I6.pair (I6.pair (I6.pair (I6.pair (I6.pair Sh.unit)))))))])=>(d.snd.fst.snd.snd.snd.snd.snd.fst,d.snd.fst.snd.snd.snd.snd.snd.snd.fst,d.snd.fst.snd.snd.snd.snd.snd.snd.snd.fst,());let z2:=λ(d:(I6.pair (I6.pair Sh.unit)).den×bY [I6.pair (I6.pair (I6.pair (I6.pair (I6.pair (I6.pair (I6.pair (I6.pair Sh.unit)))))))])=>pG (z4 d).fst (d.snd.fst.snd.fst,d.snd.fst.snd.snd.fst,d.snd.fst.snd.snd.snd.fst,d.snd.fst.snd.snd.snd.snd.fst,d.snd.fst.snd.snd.snd.snd.snd.fst,d.snd.fst.snd.snd.snd.snd.snd.snd.fst,d.snd.fst.snd.snd.snd.snd.snd.snd.snd.fst,()).fst (d.snd.fst.snd.snd.fst,d.snd.fst.snd.snd.snd.fst,d.snd.fst.snd.snd.snd.snd.fst,d.snd.fst.snd.snd.snd.snd.snd.fst,d.snd.fst.snd.snd.snd.snd.snd.snd.fst,d.snd.fst.snd.snd.snd.snd.snd.snd.snd.fst,()).fst (d.snd.fst.snd.snd.snd.fst,d.snd.fst.snd.snd.snd.snd.fst,d.snd.fst.snd.snd.snd.snd.snd.fst,d.snd.fst.snd.snd.snd.snd.snd.snd.fst,d.snd.fst.snd.snd.snd.snd.snd.snd.snd.fst,()).fst (z6 d).fst (z7 d).fst (d.snd.fst.snd.snd.snd.snd.snd.snd.fst,d.snd.fst.snd.snd.snd.snd.snd.snd.snd.fst,()).fst (d.snd.fst.snd.snd.snd.snd.snd.snd.snd.fst,()).fst;let z1:=λ(d:(I6.pair (I6.pair Sh.unit)).den×bY [I6.pair (I6.pair (I6.pair (I6.pair (I6.pair (I6.pair (I6.pair (I6.pair Sh.unit)))))))]) (dH:ByteArray×((I6.pair (I6.pair (I6.pair (I6.pair (I6.pair (I6.pair (I6.pair (I6.pair Sh.unit)))))))).sl.pair Sh.unit).den)=>[cI (ciS vs ms cs fs (z2 d) (z4 d).fst (z6 d).fst (z7 d).fst (↑(List.length dH.snd.fst):Int)),SV.agg [v6 d.fst.fst,v6 d.fst.snd.fst]];fs.length≤1000000∧(fs.length≤1000000∧∀(x:ByteArray×((I6.pair (I6.pair (I6.pair (I6.pair (I6.pair (I6.pair (I6.pair (I6.pair Sh.unit)))))))).sl.pair Sh.unit).den),x∈fs→List.length x.snd.fst≤1000000)∧some Tryz.prog=some Tryz.prog∧(∃x,(x=0∧∀(j:Nat),j < x→∀(d:(I6.pair (I6.pair Sh.unit)).den×bY [I6.pair (I6.pair (I6.pair (I6.pair (I6.pair (I6.pair (I6.pair (I6.pair Sh.unit)))))))]),(dR fs)[j]?=some d→d.fst.fst≠dU fs∧KN vs ms cs fs d=0)∧sm z5)∧(∀(i x:Nat) (d:(I6.pair (I6.pair Sh.unit)).den×bY [I6.pair (I6.pair (I6.pair (I6.pair (I6.pair (I6.pair (I6.pair (I6.pair Sh.unit)))))))]),(x=i∧∀(j:Nat),j < x→∀(d:(I6.pair (I6.pair Sh.unit)).den×bY [I6.pair (I6.pair (I6.pair (I6.pair (I6.pair (I6.pair (I6.pair (I6.pair Sh.unit)))))))]),(dR fs)[j]?=some d→d.fst.fst≠dU fs∧KN vs ms cs fs d=0)→(dR fs)[i]?=some d→br (decide (d.fst.fst=dU fs)) (br (decide (0≤dU fs)) z3 z8) ((0≤d.fst.fst∧d.fst.fst < (↑fs.length:Int))∧∀(dH:ByteArray×((I6.pair (I6.pair (I6.pair (I6.pair (I6.pair (I6.pair (I6.pair (I6.pair Sh.unit)))))))).sl.pair Sh.unit).den),fs[Int.toNat d.fst.fst]?=some dH→True∧br (!decide (ciS vs ms cs fs (z2 d) (z4 d).fst (z6 d).fst (z7 d).fst (↑(List.length dH.snd.fst):Int)=(0:Int))) ((rT z9 (z1 d dH))∧rT z9 (z1 d dH)) (∃x',(x'=i+1∧∀(j:Nat),j < x'→∀(d:(I6.pair (I6.pair Sh.unit)).den×bY [I6.pair (I6.pair (I6.pair (I6.pair (I6.pair (I6.pair (I6.pair (I6.pair Sh.unit)))))))]),(dR fs)[j]?=some d→d.fst.fst≠dU fs∧KN vs ms cs fs d=0)∧sm z5)))∧∀(x:Nat),(x=aS (dR fs)∧∀(j:Nat),j < x→∀(d:(I6.pair (I6.pair Sh.unit)).den×bY [I6.pair (I6.pair (I6.pair (I6.pair (I6.pair (I6.pair (I6.pair (I6.pair Sh.unit)))))))]),(dR fs)[j]?=some d→d.fst.fst≠dU fs∧KN vs ms cs fs d=0)→br (decide (0≤dU fs)) z3 z8:=by
 conv=>zeta
 delta aea kq2 aeb v6 cI g0 rT sm I6;refine⟨aA.1,aA,rfl,⟨0,⟨rfl,λj hj=>by omega⟩,rfl⟩,λi x d hi hd=>?_,λx hx=>?_⟩
 ·obtain⟨rfl,hi⟩:=hi;refine ah.2 ⟨λh=>?_,λh=>?_⟩
  ·have h:d.1.1=dU fs:=by simpa using h
   obtain⟨hb1,hb2⟩:=Oy hd;have hl:(0:Int)≤dU fs:=by rw[←h];exact hb1
   rw[UE hd (.inl h) hi,if_pos h];exact ah.2 ⟨λ_=>⟨⟨⟨rfl,rfl⟩,rfl,rfl⟩,rfl,rfl⟩,λhh=>absurd hl (A97 hh)⟩
  ·have h:¬d.1.1=dU fs:=by simpa using h
   obtain⟨hb1,hb2⟩:=Oy hd;refine⟨⟨hb1,hb2⟩,λe he=>⟨trivial,ah.2 ⟨λh2=>?_,λh2=>⟨x+1,⟨rfl,λj hj d' hd'=>?_⟩,rfl⟩⟩⟩⟩
   ·have h2:KN vs ms cs fs d≠0:=by rw[UD he];simpa using h2
    rw[UE hd (.inr h2) hi,if_neg h,UD he];exact⟨⟨rfl,rfl⟩,rfl,rfl⟩
   ·by_cases hji:j=x
    ·subst hji;rw[hd]at hd';cases hd';exact⟨h,by rw[UD he];simpa using h2⟩
    ·exact hi j (by omega) d' hd'
 ·obtain⟨rfl,hx⟩:=hx;refine ah.2 ⟨λh=>?_,λh=>?_⟩
  ·have h:(0:Int)≤dU fs:=by simpa using h
   rw[Ry λj d hd=>hx j (by rw[bH];exact(eU.1 hd).1) d hd,if_pos h]
   exact⟨⟨⟨rfl,rfl⟩,rfl,rfl⟩,rfl,rfl⟩
  ·have h:¬(0:Int)≤dU fs:=by simpa using h
   rw[Ry λj d hd=>hx j (by rw[bH];exact(eU.1 hd).1) d hd,if_neg h]
   exact⟨rfl,rfl⟩
theorem abU:Go.aV.Met Tryz.prog aK.gd 145 am3:=
 (lV (cx:=aK) (n:=39) (cl:=[(189,KI),(190,aq2)]) (il:=Xy) (hl:=aq7) (ml:=mlN) (rc:=[]) (lits:=[]) (suf:=[]) (by kernel_rfl) ay ⟨abB,abO,trivial⟩ trivial ⟨XE,trivial⟩ trivial Tryz.func145 (by kernel_rfl) (by kernel_rfl) rfl (by kernel_rfl) (by kernel_rfl) (by simp) λd hd=>by
  obtain⟨⟨vs,ms,cs,fs,ts,⟨⟩⟩,⟨⟩⟩:=d;exact⟨am4 vs ms cs fs ts,cast (by kernel_rfl) (ahh vs ms cs fs ts hd)⟩).met
abbrev bnd(d:bY [oH]):Prop:=d.1.1.length≤1000000∧d.1.2.1.length≤1000000∧d.1.2.2.1.length≤1000000∧d.1.2.2.2.1.length≤1000000∧d.1.2.2.2.2.1.length≤1000000∧(∀x∈d.1.2.2.2.1,x.2.1.length≤1000000)∧(dR d.1.2.2.2.1).length≤1000000
def aB(vs:List VD) (ms cs:List ByteArray) (fs:List FD) (ts:List SD):Int×Int×Int:=
 if(CW vs ms cs fs).1≠0 then CW vs ms cs fs else if Az vs ms cs fs≠0 then(Az vs ms cs fs,-1,-1) else if(F5 vs ms cs fs).1≠0 then F5 vs ms cs fs else if Dz fs ts≠0 then(Dz fs ts,-1,-1) else(0,-1,-1)
abbrev IY:CT:={ ps:=[oH],pre:=λd=>bnd d,res:=λd=>([],.gX [.c (.v (.int .i64 (aB d.1.1 d.1.2.1 d.1.2.2.1 d.1.2.2.2.1 d.1.2.2.2.2.1).1)),.c (.v (.int .i64 (aB d.1.1 d.1.2.1 d.1.2.2.1 d.1.2.2.2.1 d.1.2.2.2.2.1).2.1)),.c (.v (.int .i64 (aB d.1.1 d.1.2.1 d.1.2.2.1 d.1.2.2.2.1 d.1.2.2.2.2.1).2.2))]) }
theorem am5(vs:List VD) (ms cs:List ByteArray) (fs:List FD) (ts:List SD) (aA:IY.pre ((vs,ms,cs,fs,ts,()),())):
 let z10:=CW vs ms cs fs;let z7:=z10.fst=0;let z5:=decide z7;let z6:=decide (Az vs ms cs fs=0);let z11:=F5 vs ms cs fs;let z8:=z11.fst=0;let z9:=aB vs ms cs fs ts;let z4:=[cI (z9.fst),cI (z9.snd.fst),cI (z9.snd.snd)];let z3:=rT z4 [cI 0,cI (-1),cI (-1)];let z2:=True∧br (!decide (Dz fs ts=0)) (rT z4 [cI (Dz fs ts),cI (-1),cI (-1)]) z3;let z1:=(fs.length≤1000000∧∀(x:ByteArray×((I6.pair (I6.pair (I6.pair (I6.pair (I6.pair (I6.pair (I6.pair (I6.pair Sh.unit)))))))).sl.pair Sh.unit).den),x∈fs→List.length x.snd.fst≤1000000)∧br (decide z8) z2 (br (!decide z8) (rT z4 [cI (z11.fst),cI (z11.snd.fst),cI (z11.snd.snd)]) z3);(vs.length≤1000000∧ms.length≤1000000∧cs.length≤1000000∧fs.length≤1000000)∧br z5 (True∧br z6 z1 (br z6 z2 (br (!decide (Az vs ms cs fs=0)) (rT z4 [cI (Az vs ms cs fs),cI (-1),cI (-1)]) z3))) (br z5 z1 (br z5 z2 (br (!decide z7) (rT z4 [cI (z10.fst),cI (z10.snd.fst),cI (z10.snd.snd)]) z3))):=by
 conv=>zeta
 delta cI rT I6;obtain⟨h1,h2,h3,h4,h5,h6,h7⟩:bnd ((vs,ms,cs,fs,ts,()),()):=aA;have hA:∀x∈fs,x.2.1.length≤1000000:=h6;have hB:fs.length≤1000000∧∀x∈fs,x.2.1.length≤1000000:=⟨h4,h6⟩;have hC:vs.length≤1000000∧ms.length≤1000000∧cs.length≤1000000∧fs.length≤1000000:=⟨h1,h2,h3,h4⟩;clear h1 h2 h3 h4 h5 h6 h7 hA;unfold aB;simp only[ah]
 repeat' (first | exact hB | exact hC | (refine And.intro ?_ ?_) | (intro _))
 all_goals first | trivial | rfl | (clear hB hC;simp_all;done)
theorem DC:Go.aV.Met Tryz.prog aK.gd 74 IY:=
 jC (cx:=aK) (n:=40) (cl:=[(143,amY),(144,aq4),(145,am3),(146,aq6)]) ay ⟨abP,abQ,abU,abR,trivial⟩ Tryz.func74 λd hd=>by
  obtain⟨⟨vs,ms,cs,fs,ts,⟨⟩⟩,⟨⟩⟩:=d;exact⟨λ_=>none,cast (by kernel_rfl) (am5 vs ms cs fs ts hd)⟩
abbrev abV:CT:={ ps:=[oH],pre:=λd=>bnd d,res:=λd=>([],vB (decide ((aB d.1.1 d.1.2.1 d.1.2.2.1 d.1.2.2.2.1 d.1.2.2.2.2.1).1=0))) }
theorem abW{hi:Int}:∀(l:List Int) (lo:Int),SS l→(∀x∈l,lo≤x∧x < hi)→lo≤hi→(l.length:Int)≤hi - lo
 | [],lo,_,_,h=>by simp;omega
 | x :: l,lo,hs,hb,h=>by
   obtain⟨h1,h2⟩:=MB.1 hs;obtain⟨b1,b2⟩:=hb x (by simp)
   have:=abW l (x+1) h2 (λy hy=>⟨by have:=h1 y hy;omega,(hb y (by simp[hy])).2⟩) (by omega)
   simp only[yK];omega
theorem abX{l:List Int}{n:Nat} (hs:SS l) (hb:∀x∈l,0≤x∧x < (n:Int)):l.length≤n:=by
 have:=abW l 0 hs hb (by omega)
 omega
theorem nJ{vs:List VD}{ms cs:List ByteArray}{fs:List FD}{ts:List SD} (h:(aB vs ms cs fs ts).1=0):Az vs ms cs fs=0∧(F5 vs ms cs fs).1=0∧Dz fs ts=0:=by
 unfold aB at h;split at h
 ·rename_i h1;exact absurd h h1
 ·split at h
  ·rename_i h1;exact absurd h h1
  ·split at h
   ·rename_i h1;exact absurd h h1
   ·split at h
    ·rename_i h1;exact absurd h h1
    ·rename_i h1 h2 h3 h4;exact⟨by omega,by omega,by omega⟩
theorem am6{vs:List VD}{ms cs:List ByteArray}{fs:List FD} (h:(F5 vs ms cs fs).1=0):∀d∈dR fs,KN vs ms cs fs d=0:=by
 unfold F5 at h;split at h
 ·rename_i d hd;have hp:=aeD hd;split at h
  ·cases h
  ·rename_i h1;simp only[AA,dG]at hp;rcases hp with hp | hp
   ·exact absurd hp h1
   ·exact absurd h hp
 ·rename_i hd;intro d hm;have:=A89.1 hd d hm;simp only[AA,dG,not_or]at this;omega
theorem aH{α:Type 1}{Q:α→Prop}{V:Prop} (a:α) (v:V) (h:V=Q a):∃a,Q a:=⟨a,cast h v⟩
def XF(vs:List VD) (ms cs:List ByteArray) (fs:List FD) (ts:List SD):Bool:=decide (vs.length≤20∧ms.length≤20∧cs.length≤20∧fs.length≤20∧ts.length≤20) && fs.all λf=>decide (f.2.1.length≤100)
abbrev aq8:CT:={ ps:=[oH],pre:=λd=>True,res:=λd=>([],vB (XF d.1.1 d.1.2.1 d.1.2.2.1 d.1.2.2.2.1 d.1.2.2.2.2.1)) }
@[reducible] def aq9 (vs:List VD) (ms cs:List ByteArray) (fs:List FD) (ts:List SD):Nat→Option (St→iC):=λk=>match k with
  | 4=>some λ_=>.inv { α:=Nat,slots:=λk=>[(3,.c (.v (.int .i64 k)))],res:=λk=>[],inv:=λk=>k≤(fs).length∧∀j < k,∀f,fs[j]?=some f→f.2.1.length≤100,meas:=λk=>(fs).length - k }
  | _=>none
theorem am7(vs:List VD) (ms cs:List ByteArray) (fs:List FD) (ts:List SD):
 let z3:=qB (XF vs ms cs fs ts) false;let z1:=λ(x:Nat)=>(x≤fs.length∧∀(j:Nat),j < x→∀(f:ByteArray×List ID×Unit),fs[j]?=some f→f.snd.fst.length≤100);let z2:=[g0 (aj.blk 27 [SC.sl aea vs,SC.sl Sh.str ms,SC.sl Sh.str cs,SC.sl kq2 fs,SC.sl aeb ts])];br (decide (20 < (↑vs.length:Int)) || decide (20 < (↑ms.length:Int)) || decide (20 < (↑cs.length:Int)) || decide (20 < (↑fs.length:Int)) || decide (20 < (↑ts.length:Int))) z3 ((∃x,(z1 x)∧(cI 0=cI (↑x:Int)∧True)∧sm z2)∧∀(x:Nat),(z1 x)→br (decide ((↑x:Int) < (↑fs.length:Int))) ((0≤(↑x:Int)∧(↑x:Int) < (↑fs.length:Int))∧∀(d:ByteArray×((I6.pair (I6.pair (I6.pair (I6.pair (I6.pair (I6.pair (I6.pair (I6.pair Sh.unit)))))))).sl.pair Sh.unit).den),fs[(↑x:Int).toNat]?=some d→br (decide (100 < (↑(List.length d.snd.fst):Int))) z3 (cZ IntKind.i64 ((↑x:Int)+(1:Int))∧∃x',(z1 x')∧(cI ((↑x:Int)+(1:Int))=cI (↑x':Int)∧True)∧sm z2∧fs.length - x' < fs.length - x)) (qB (XF vs ms cs fs ts) true)):=by
 conv=>zeta
 delta aea kq2 aeb cI g0 qB sm I6
 by_cases hc:¬(vs.length≤20∧ms.length≤20∧cs.length≤20∧fs.length≤20∧ts.length≤20)
 ·have e:XF vs ms cs fs ts=false:=by unfold XF;rw[Ed hc];rfl
  rw[e];refine ah.2 ⟨λ_=>⟨rfl,rfl⟩,λh=>?_⟩
  simp only[qH,dh]at h;omega
 have hc:=GU.1 hc;refine ah.2 ⟨λh=>?_,λ_=>?_⟩
 ·simp only[AA,dG]at h;omega
 refine⟨⟨0,⟨by omega,λj hj=>by omega⟩,⟨rfl,trivial⟩,rfl⟩,λk hk=>ah.2 ⟨λh=>?_,λh=>?_⟩⟩
 ·simp only[dG]at h;have hN:(↑k:Int).toNat=k:=by omega
  rw[hN];refine⟨by omega,λd hd=>ah.2 ⟨λh2=>⟨rfl,?_⟩,λh2=>⟨au.2 (by omega),k+1,⟨by omega,λj hj f hf=>?_⟩,⟨rfl,trivial⟩,rfl,by omega⟩⟩⟩
  ·have h2:¬d.2.1.length≤100:=by simp only[dG]at h2;omega
   have e:XF vs ms cs fs ts=false:=by
    unfold XF;rw[show(fs.all λf=>decide (f.2.1.length≤100))=false from List.all_eq_false.2 ⟨d,iF hd,by simpa using h2⟩,Bool.and_false]
   rw[e]
  ·by_cases gq:j=k
   ·subst gq;rw[hd]at hf;cases hf;simp only[dh]at h2;omega
   ·exact hk.2 j (by omega) f hf
 ·simp only[dh]at h;have e:XF vs ms cs fs ts=true:=by
   unfold XF;rw[L6 hc,BQ,X0];intro f hf;obtain⟨j,hj⟩:=wQ hf;simpa using hk.2 j (by have:=(eU.1 hj).1;omega) f hj
  rw[e];exact⟨rfl,rfl⟩
theorem ahi:Go.aV.Met Tryz.prog aK.gd 10 aq8:=
 jC (cx:=aK) (n:=47) (cl:=[]) ay trivial Tryz.func10 λd hd=>by
  obtain⟨⟨vs,ms,cs,fs,ts,⟨⟩⟩,⟨⟩⟩:=d;exact aH (aq9 vs ms cs fs ts) (am7 vs ms cs fs ts) (by kernel_rfl)
abbrev akj:CT:={ ps:=[oH],pre:=λd=>True,res:=λd=>([],.one (.c (.v (.int .i64 (Dz d.1.2.2.2.1 d.1.2.2.2.2.1))))) }
@[reducible] def am8 (vs:List VD) (ms cs:List ByteArray) (fs:List FD) (ts:List SD):Nat→Option (St→iC):=λk=>match k with
  | 4=>some λ_=>.inv { α:=Nat,slots:=λk=>[(3,.c (.v (.int .i64 k)))],res:=λk=>[],inv:=λk=>k≤(ts).length∧∀j < k,∀t,ts[j]?=some t→Dy fs.length t=0,meas:=λk=>(ts).length - k }
  | _=>none
theorem ahj(vs:List VD) (ms cs:List ByteArray) (fs:List FD) (ts:List SD):
 let z1:=λ(x:Nat)=>(x≤ts.length∧∀(j:Nat),j < x→∀(t:Int×Int×Unit),ts[j]?=some t→Dy fs.length t=0);let z2:=[g0 (aj.blk 27 [SC.sl aea vs,SC.sl Sh.str ms,SC.sl Sh.str cs,SC.sl kq2 fs,SC.sl aeb ts])];let z3:=λ(x:Nat)=>0≤(↑x:Int)∧(↑x:Int) < (↑ts.length:Int);br (decide ((↑ts.length:Int) < (1:Int)) || decide (8 < (↑ts.length:Int))) (qI (Dz fs ts) (4:Int)) ((∃x,(z1 x)∧(cI 0=cI (↑x:Int)∧True)∧sm z2)∧∀(x:Nat),(z1 x)→br (decide ((↑x:Int) < (↑ts.length:Int))) ((z3 x)∧∀(d:Int×(I6.pair Sh.unit).den),ts[(↑x:Int).toNat]?=some d→((!decide (d.fst < 0))=true→0≤(↑x:Int)∧(↑x:Int) < (↑ts.length:Int))∧∀(dH:Int×(I6.pair Sh.unit).den),((!decide (d.fst < 0))=true→ts[(↑x:Int).toNat]?=some dH)→br (decide (d.fst < 0) || decide ((↑fs.length:Int)≤dH.fst)) (qI (Dz fs ts) (11:Int)) ((z3 x)∧∀(d:Int×(I6.pair Sh.unit).den),ts[(↑x:Int).toNat]?=some d→True∧br (!bV (d.snd.fst,()).fst) (qI (Dz fs ts) (2:Int)) (cZ IntKind.i64 ((↑x:Int)+(1:Int))∧∃x',(z1 x')∧(cI ((↑x:Int)+(1:Int))=cI (↑x':Int)∧True)∧sm z2∧ts.length - x' < ts.length - x))) (qI (Dz fs ts) (0:Int))):=by
 conv=>zeta
 delta aea kq2 aeb cI g0 qI sm I6
 by_cases hc:ts.length < 1∨8 < ts.length
 ·have e:Dz fs ts=4:=by unfold Dz;rw[if_pos hc]
  rw[e];refine ah.2 ⟨λ_=>⟨rfl,rfl⟩,λh=>?_⟩
  simp only[qH,dh]at h;omega
 refine ah.2 ⟨λh=>?_,λh=>⟨⟨0,⟨by omega,λj hj=>by omega⟩,⟨rfl,trivial⟩,rfl⟩,λk hk=>ah.2 ⟨λh2=>?_,λh2=>?_⟩⟩⟩
 ·simp only[AA,dG]at h;omega
 ·simp only[dG]at h2;have hN:(↑k:Int).toNat=k:=by omega
  rw[hN];refine⟨by omega,λd hd=>⟨λ_=>by omega,λd1 hd1=>ah.2 ⟨λh3=>⟨rfl,?_⟩,λh3=>⟨by omega,λd2 hd2=>⟨trivial,ah.2 ⟨λh4=>⟨rfl,?_⟩,λh4=>⟨au.2 (by omega),k+1,⟨by omega,λj hj v hv=>?_⟩,⟨rfl,trivial⟩,rfl,by omega⟩⟩⟩⟩⟩⟩⟩
  ·have h3:d.1 < 0∨(fs.length:Int)≤d.1:=by
    by_cases hn:d.1 < 0
    ·exact .inl hn
    ·have:=hd1 (by simp[hn])
     rw[hd]at this;cases this;exact by simpa using h3
   have e:Dy fs.length d=11:=by unfold Dy;rw[if_pos h3]
   rw[zS hc hd (by rw[e];simp) hk.2,e]
  all_goals
   rw[hd]at hd2;cases hd2;have h3:¬(d.1 < 0∨(fs.length:Int)≤d.1):=by
    simp only[qH,dh]at h3;have:=hd1 (by rw[Ed h3.1];rfl)
    rw[hd]at this;cases this;exact λq=>q.elim (λq=>h3.1 q) (λq=>h3.2 q)
  ·have h4:bV d.2.1=false:=by simpa using h4
   have e:Dy fs.length d=2:=by unfold Dy;rw[if_neg h3,if_neg (by rw[h4];simp)]
   rw[zS hc hd (by rw[e];simp) hk.2,e]
  ·have h4:bV d.2.1=true:=by simpa using h4
   by_cases gq:j=k
   ·subst gq;rw[hd]at hv;cases hv;unfold Dy;rw[if_neg h3,if_pos h4]
   ·exact hk.2 j (by omega) v hv
 ·simp only[dh]at h2;rw[UC hc λj t hj=>hk.2 j (by have:=(eU.1 hj).1;omega) t hj];exact⟨rfl,rfl⟩
theorem abY:Go.aV.Met Tryz.prog aK.gd 136 akj:=
 jC (cx:=aK) (n:=48) (cl:=[(134,Ro)]) ay ⟨Ov,trivial⟩ Tryz.func136 λd hd=>by
  obtain⟨⟨vs,ms,cs,fs,ts,⟨⟩⟩,⟨⟩⟩:=d;exact aH (am8 vs ms cs fs ts) (ahj vs ms cs fs ts) (by kernel_rfl)
def exS(vs:List VD) (ms cs:List ByteArray) (fs:List FD) (op obj n:Int):Bool:=!decide (0≤pK vs ms cs fs op∧(obj < 0∨pK vs ms cs fs op≤obj)) && !decide (op=18∧(n < 0∨(ms.length:Int)≤n))
abbrev akk:CT:={ ps:=[oH,qO],pre:=λd=>True,res:=λd=>([],vB (exS d.1.1 d.1.2.1 d.1.2.2.1 d.1.2.2.2.1 d.2.1.1 d.2.1.2.2.2.2.1 d.2.1.2.2.2.2.2.1)) }
theorem ahk(vs:List VD) (ms cs:List ByteArray) (fs:List FD) (ts:List SD) (op a b c obj n fn ord:Int):
 let z7:=exS vs ms cs fs op obj n;let z4:=qB z7 (decide (0≤obj) && decide (obj < (↑vs.length:Int)));let z5:=qB z7 (decide (0≤obj) && decide (obj < (↑ms.length:Int)));let z6:=qB z7 (decide (0≤obj) && decide (obj < (↑cs.length:Int)));let z3:=br (decide (op=21)) (qB z7 (decide (0≤obj) && decide (obj < (↑fs.length:Int)))) (qB z7 true);let z2:=br (decide (op=18)) (br (decide (n < 0) || decide ((↑ms.length:Int)≤n)) (qB z7 false) z6) (br (decide (op=19)) (br (decide (op=19)) z6 z3) (br (decide (op=20)) z6 z3));let z1:=br (decide (op=15)) (br (decide (op=15)) z5 z2) (br (decide (op=16)) (br (decide (op=16)) z5 z2) (br (decide (op=17)) z5 z2));br (decide (op=8)) (br (decide (op=8)) z4 z1) (br (decide (op=9)) (br (decide (op=9)) z4 z1) (br (decide (op=10)) (br (decide (op=10)) z4 z1) (br (decide (op=11)) (br (decide (op=11)) z4 z1) (br (decide (op=12)) (br (decide (op=12)) z4 z1) (br (decide (op=14)) z4 z1))))):=by
 conv=>zeta
 delta qB;simp only[ah]
 repeat' (first | (refine And.intro ?_ ?_) | (intro _))
 all_goals first | rfl | (simp_all[exS,pK];done) | (simp_all[exS,pK];omega) | (simp_all[exS,pK];rw[Ee];simp<;>omega)
theorem abZ:Go.aV.Met Tryz.prog aK.gd 179 akk:=
 jC (cx:=aK) (n:=61) (cl:=[]) ay trivial Tryz.func179 λd hd=>by
  obtain⟨⟨vs,ms,cs,fs,ts,⟨⟩⟩,⟨op,a,b,c,obj,n,fn,ord,⟨⟩⟩,⟨⟩⟩:=d;exact aH (λ_=>none) (ahk vs ms cs fs ts op a b c obj n fn ord) (by kernel_rfl)
abbrev akl:CT:={ ps:=[.str],pre:=λd=>True,res:=λd=>([],vB (dS d.1)) }
@[reducible] def am9 (s:ByteArray):Nat→Option (St→iC):=λk=>match k with
  | 4=>some λ_=>.inv { α:=Nat,slots:=λk=>[(3,.c (.v (.int .i64 k)))],res:=λk=>[],inv:=λk=>k≤((List.range s.size)).length∧∀j < k,(tH (IX s j)=true∨(j≠0∧okB (IX s j)=true)),meas:=λk=>((List.range s.size)).length - k }
  | _=>none
theorem ahl(s:ByteArray):
 let z2:=List.range s.size;let z1:=λ(x:Nat)=>(x≤z2.length∧∀(j:Nat),j < x→tH (IX s j)=true∨j≠0∧okB (IX s j)=true);br (decide ((↑s.size:Int) < (1:Int)) || decide (16 < (↑s.size:Int))) (qB (dS s) false) ((∃x,(z1 x)∧(cI 0=cI (↑x:Int)∧True)∧([]:List aal)=[])∧∀(x:Nat),(z1 x)→br (decide ((↑x:Int) < (↑s.size:Int))) ((0≤(↑x:Int)∧(↑x:Int) < (↑s.size:Int))∧∀(u:UInt8),s[(↑x:Int).toNat]?=some u→br (!(decide (97≤(↑u.toNat:Int)) && decide ((↑u.toNat:Int)≤(122:Int)) || decide (65≤(↑u.toNat:Int)) && decide ((↑u.toNat:Int)≤(90:Int))) && (decide ((↑x:Int)=(0:Int)) || !decide ((↑u.toNat:Int)=(95:Int)) && (decide ((↑u.toNat:Int) < (48:Int)) || decide (57 < (↑u.toNat:Int))))) (qB (dS s) false) (cZ IntKind.i64 ((↑x:Int)+(1:Int))∧∃x',(z1 x')∧(cI ((↑x:Int)+(1:Int))=cI (↑x':Int)∧True)∧([]:List aal)=[]∧z2.length - x' < z2.length - x)) (qB (dS s) true)):=by
 conv=>zeta
 delta aal cI qB;have hl:(List.range s.size).length=s.size:=List.length_range;rw[hl]
 by_cases hs:¬(1≤s.size∧s.size≤16)
 ·have:dS s=false:=by unfold dS;rw[Ed hs];rfl
  rw[this];refine ah.2 ⟨λ_=>⟨rfl,rfl⟩,λh=>?_⟩
  simp only[qH,dh]at h;omega
 have hs:=GU.1 hs;refine ah.2 ⟨λh=>?_,λ_=>⟨⟨0,⟨by omega,λj hj=>by omega⟩,⟨rfl,trivial⟩,rfl⟩,λk hk=>ah.2 ⟨λh=>?_,λh=>?_⟩⟩⟩
 ·simp only[AA,dG]at h;omega
 ·simp only[dG]at h;have hN:(↑k:Int).toNat=k:=by omega
  rw[hN];refine⟨by omega,λu hu=>?_⟩
  have eu:=KJ hu;have eL:tH (IX s k)=(decide (97≤(↑u.toNat:Int)) && decide ((↑u.toNat:Int)≤122) || decide (65≤(↑u.toNat:Int)) && decide ((↑u.toNat:Int)≤90)):=by
   rw[eu];unfold tH;rw[Ee];simp
  rw[←eL];refine ah.2 ⟨λh2=>⟨rfl,?_⟩,λh2=>⟨au.2 (by omega),k+1,⟨by omega,λj hj=>?_⟩,⟨rfl,trivial⟩,rfl,by omega⟩⟩
  ·have:dS s=false:=by
    simp only[A8,AA,G6,dG,dh]at h2;obtain⟨a,b⟩:=h2;unfold dS;rcases b with b | b
    ·have:k=0:=by omega
     subst this;rw[a];simp
    ·have hb:okB (IX s k)=false:=by
      unfold okB;rw[a,eu];simp;omega
     rw[show((List.range s.size).all λi=>okB (IX s i))=false from List.all_eq_false.2 ⟨k,by simp;omega,by rw[hb];simp⟩,Bool.and_false]
   rw[this]
  ·by_cases gq:j=k
   ·subst gq;cases hA:tH (IX s j) with
    | true=>exact .inl rfl
    | false=>
      rw[hA]at h2;refine .inr ?_;simp at h2;refine⟨by omega,?_⟩
      unfold okB;rw[eu];simp;omega
   ·exact hk.2 j (by omega)
 ·simp only[dh]at h;have:dS s=true:=by
   unfold dS;have h0:tH (IX s 0)=true:=(hk.2 0 (by omega)).elim id λq=>absurd rfl q.1
   rw[L6 hs,h0];simp only[BQ];rw[X0];intro i hi;simp at hi;rcases hk.2 i (by omega) with q | q
   ·unfold okB;rw[q];rfl
   ·exact q.2
  rw[this];exact⟨rfl,rfl⟩
theorem ab1:Go.aV.Met Tryz.prog aK.gd 178 akl:=
 jC (cx:=aK) (n:=55) (cl:=[]) ay trivial Tryz.func178 λd hd=>by
  obtain⟨s,⟨⟩⟩:=d;exact aH (am9 s) (ahl s) (by kernel_rfl)
abbrev Rz:CT:={ ps:=[.sl .str],pre:=λd=>d.1.length≤1000000,res:=λd=>([],.gX [.c (.v (.int .i64 (if(gW d.1).1=0 then 0 else(gW d.1).2))),.c (.v (.int .i64 (gW d.1).1))]) }
@[reducible] def ana (l:List ByteArray):Nat→Option (St→iC):=λk=>match k with
  | 2=>some λ_=>.inv { α:=Nat,slots:=λk=>[(4,.c (.v (.int .i64 k)))],res:=λ_=>[],inv:=λk=>k≤l.length∧∀j < k,dS (l.getD j ⟨#[]⟩)=true∧uJ (l.take j) (l.getD j ⟨#[]⟩)=false,meas:=λk=>l.length - k }
  | 7=>some λs=>.inv { α:=Nat,slots:=λk=>[(5,.c (.v (.int .i64 k)))],res:=λ_=>[],inv:=λk=>k≤(Um s 4).toNat∧∀j < k,¬l.getD j ⟨#[]⟩=l.getD ((Um s 4).toNat) ⟨#[]⟩,meas:=λk=>(Um s 4).toNat - k }
  | _=>none
theorem ahm(l:List ByteArray) (aA:Rz.pre (l,())):
 let z1:=λ(x:Nat)=>(x≤l.length∧∀(j:Nat),j < x→dS (l.getD j { data:=#[]:ByteArray })=true∧uJ (List.take j l) (l.getD j { data:=#[]:ByteArray })=false);let z4:=λ(x:Nat)=>0≤(↑x:Int)∧(↑x:Int) < (↑l.length:Int);let z3:=[cI (if(gW l).fst=0 then(0:Int) else(gW l).snd),cI ((gW l).fst)];let z2:=λ(x_1 x:Nat)=>(x_1≤(↑x:Int).toNat∧∀(j:Nat),j < x_1→¬l.getD j { data:=#[]:ByteArray }=l.getD (↑x:Int).toNat { data:=#[]:ByteArray });let z5:=λ(x_1:Nat)=>(↑x_1:Int)+(1:Int);(∃x,(z1 x)∧(cI 0=cI (↑x:Int)∧True)∧([]:List aal)=[])∧∀(x:Nat),(z1 x)→br (decide ((↑x:Int) < (↑l.length:Int))) ((z4 x)∧∀(d:ByteArray),l[(↑x:Int).toNat]?=some d→True∧br (!dS d) (rT z3 [cI (↑x:Int),cI 6]) ((∃x_1,(z2 x_1 x)∧(cI 0=cI (↑x_1:Int)∧True)∧([]:List aal)=[])∧∀(x_1:Nat),(z2 x_1 x)→br (decide ((↑x_1:Int) < (↑x:Int))) ((z4 x_1)∧∀(dH:ByteArray),l[(↑x_1:Int).toNat]?=some dH→(z4 x)∧∀(dN:ByteArray),l[(↑x:Int).toNat]?=some dN→br (decide (dH=dN)) (rT z3 [cI (↑x:Int),cI 7]) (cZ IntKind.i64 (z5 x_1)∧∃x',(x'≤(↑x:Int).toNat∧∀(j:Nat),j < x'→¬l.getD j { data:=#[]:ByteArray }=l.getD (↑x:Int).toNat { data:=#[]:ByteArray })∧(cI (z5 x_1)=cI (↑x':Int)∧True)∧([]:List aal)=[]∧(↑x:Int).toNat - x' < (↑x:Int).toNat - x_1)) (cZ IntKind.i64 (z5 x)∧∃x',(z1 x')∧(cI (z5 x)=cI (↑x':Int)∧True)∧([]:List aal)=[]∧l.length - x' < l.length - x))) (rT z3 [cI 0,cI 0]):=by
 conv=>zeta
 delta aal cI rT;have hp:l.length≤1000000:=aA;refine⟨⟨0,⟨by omega,λj hj=>by omega⟩,⟨rfl,trivial⟩,rfl⟩,λk hk=>ah.2 ⟨λh=>?_,λh=>?_⟩⟩
 ·simp only[dG]at h;have hN:(↑k:Int).toNat=k:=by omega
  rw[hN];refine⟨by omega,λd hd=>?_⟩
  have hg:l.getD k ⟨#[]⟩=d:=by rw[H8,hd];rfl
  refine⟨trivial,ah.2 ⟨λh2=>⟨rfl,?_⟩,λh2=>⟨⟨0,⟨by omega,λj hj=>by omega⟩,⟨rfl,trivial⟩,rfl⟩,λm hm=>ah.2 ⟨λh3=>?_,λh3=>⟨au.2 (by omega),k+1,⟨by omega,λj hj=>?_⟩,⟨rfl,trivial⟩,rfl,by omega⟩⟩⟩⟩⟩
  ·have h2:dS d=false:=by simpa using h2
   rw[wH (by omega) hk.2 (.inl (by rw[hg];exact h2)),hg,h2];rfl
  ·simp only[dG]at h3;have hM:(↑m:Int).toNat=m:=by omega
   rw[hM];refine⟨by omega,λd1 hd1=>⟨by omega,λd2 hd2=>?_⟩⟩
   rw[hd]at hd2;cases hd2;have hg1:l.getD m ⟨#[]⟩=d1:=by rw[H8,hd1];rfl
   refine ah.2 ⟨λh4=>⟨rfl,?_⟩,λh4=>⟨au.2 (by omega),m+1,⟨by omega,λj hj=>?_⟩,⟨rfl,trivial⟩,rfl,by omega⟩⟩
   ·have h3':uJ (l.take k) d=true:=VR.2 ⟨d1,iF (i:=m) (by rw[VZ (by omega)];exact hd1),h4⟩
    have h2v:dS d=true:=by simpa using h2
    rw[wH (by omega) hk.2 (.inr (by rw[hg];exact h3')),hg,h2v];rfl
   ·by_cases hjm:j=m
    ·subst hjm;rw[hg1,hg];simpa using h4
    ·exact hm.2 j (by omega)
  ·simp only[dh]at h3
   by_cases gq:j=k
   ·subst gq;rw[hg];refine⟨by simpa using h2,?_⟩
    unfold uJ;rw[P9];intro y hy;obtain⟨i,hi⟩:=wQ hy;have hij:i < j:=by
     have:=(eU.1 hi).1;simp at this;omega
    rw[VZ hij]at hi;have:=hm.2 i (by omega)
    rw[hg,H8,hi]at this;simpa using this
   ·exact hk.2 j (by omega)
 ·simp only[dh]at h;rw[Ox λj hj=>hk.2 j (by omega)];exact⟨rfl,rfl⟩
theorem ab2:Go.aV.Met Tryz.prog aK.gd 133 Rz:=
 jC (cx:=aK) (n:=34) (cl:=[(178,akl)]) ay ⟨ab1,trivial⟩ Tryz.func133 λd hd=>by
  obtain⟨l,⟨⟩⟩:=d;exact aH (ana l) (ahm l hd) (by kernel_rfl)
abbrev ab3:CT:={ ps:=[oH],pre:=λd=>d.1.1.length≤1000000∧d.1.2.2.2.1.length≤1000000,res:=λd=>([.row 9 .str (iD d.1.1),.row 9 .str (jD d.1.2.2.2.1)],.gX [.c (.row 0),.c (.row 1)]) }
@[reducible] def anb (vs:List VD) (ms cs:List ByteArray) (fs:List FD) (ts:List SD):Nat→Option (St→iC):=λk=>match k with
  | 3=>some λ_=>.inv { α:=Nat,slots:=λk=>[(6,.c (.v (.int .i64 k))),(4,.c (.row 1))],res:=λk=>[(1,.row 9 .str (iD (vs.take k)))],inv:=λk=>k≤vs.length,meas:=λk=>vs.length - k,nil:=[(4,9,.str)] }
  | 7=>some λ_=>.inv { α:=Nat,slots:=λk=>[(7,.c (.v (.int .i64 k))),(5,.c (.row 2))],res:=λk=>[(2,.row 9 .str (jD (fs.take k)))],inv:=λk=>k≤fs.length,meas:=λk=>fs.length - k,nil:=[(5,9,.str)] }
  | _=>none
theorem ahn(vs:List VD) (ms cs:List ByteArray) (fs:List FD) (ts:List SD) (aA:ab3.pre ((vs,ms,cs,fs,ts,()),())):
 let z3:=[SC.sl aea vs,SC.sl Sh.str ms,SC.sl Sh.str cs,SC.sl kq2 fs,SC.sl aeb ts];let z5:=λ(x:Nat)=>iD (List.take x vs);let z2:=λ(x:Nat)=>[g0 (aj.blk 27 z3),g0 (aj.row 9 Sh.str (z5 x))];let z4:=λ(x:Nat)=>(↑x:Int)+(1:Int);let z1:=λ(x x_1:Nat)=>[g0 (aj.blk 27 z3),g0 (aj.row 9 Sh.str (z5 x)),g0 (aj.row 9 Sh.str (jD (List.take x_1 fs)))];(∃x,x≤vs.length∧(cI 0=cI (↑x:Int)∧SV.c (SC.row (Nat.succ 0))=SV.c (SC.row 1)∧True)∧[g0 (aj.blk 27 z3),g0 (aj.row 9 Sh.str [])]=(z2 x))∧∀(x:Nat),x≤vs.length→br (decide ((↑x:Int) < (↑vs.length:Int))) ((0≤(↑x:Int)∧(↑x:Int) < (↑vs.length:Int))∧∀(d:ByteArray×(I6.pair Sh.unit).den),vs[(↑x:Int).toNat]?=some d→jS (List.length (z5 x)+List.length ([d.fst])) 16∧cZ IntKind.i64 (z4 x)∧∃x',x'≤vs.length∧(cI (z4 x)=cI (↑x':Int)∧SV.c (SC.row 1)=SV.c (SC.row 1)∧True)∧[g0 (aj.blk 27 z3),g0 (aj.row 9 Sh.str (iD (List.take x vs)++[d.fst]))]=(z2 x')∧vs.length - x' < vs.length - x) ((∃x_1,x_1≤fs.length∧(cI 0=cI (↑x_1:Int)∧SV.c (SC.row (Nat.succ 0).succ)=SV.c (SC.row 2)∧True)∧[g0 (aj.blk 27 z3),g0 (aj.row 9 Sh.str (z5 x)),g0 (aj.row 9 Sh.str [])]=(z1 x x_1))∧∀(x_1:Nat),x_1≤fs.length→br (decide ((↑x_1:Int) < (↑fs.length:Int))) ((0≤(↑x_1:Int)∧(↑x_1:Int) < (↑fs.length:Int))∧∀(d:ByteArray×((I6.pair (I6.pair (I6.pair (I6.pair (I6.pair (I6.pair (I6.pair (I6.pair Sh.unit)))))))).sl.pair Sh.unit).den),fs[(↑x_1:Int).toNat]?=some d→jS (List.length (jD (List.take x_1 fs))+List.length ([d.fst])) 16∧cZ IntKind.i64 (z4 x_1)∧∃x',x'≤fs.length∧(cI (z4 x_1)=cI (↑x':Int)∧SV.c (SC.row 2)=SV.c (SC.row 2)∧True)∧[g0 (aj.blk 27 z3),g0 (aj.row 9 Sh.str (z5 x)),g0 (aj.row 9 Sh.str (jD (List.take x_1 fs)++[d.fst]))]=(z1 x x')∧fs.length - x' < fs.length - x_1) ([aj.row 9 Sh.str (iD vs),aj.row 9 Sh.str (jD fs)]=[aj.row 9 Sh.str (z5 x),aj.row 9 Sh.str (jD (List.take x_1 fs))]∧aT.gX [SV.c (SC.row 0),SV.c (SC.row 1)]=aT.gX [SV.c (SC.row 0),SV.c (SC.row (Nat.succ 0))])):=by
 conv=>zeta
 delta aea kq2 aeb cI g0 I6;obtain⟨hp1,hp2⟩:vs.length≤1000000∧fs.length≤1000000:=aA;refine⟨⟨0,by omega,⟨rfl,rfl,trivial⟩,rfl⟩,λk hk=>ah.2 ⟨λh=>?_,λh=>⟨⟨0,by omega,⟨rfl,rfl,trivial⟩,rfl⟩,λm hm=>ah.2 ⟨λh2=>?_,λh2=>?_⟩⟩⟩⟩
 ·simp only[dG]at h;refine⟨by omega,λd hd=>?_⟩
  have hd:vs[k]?=some d:=by simpa using hd
  have e:iD (vs.take (k+1))=iD (vs.take k)++[d.1]:=by
   unfold iD;rw[Jt,hd];simp
  refine⟨?_,au.2 (by omega),k+1,by omega,⟨rfl,rfl,trivial⟩,?_,by omega⟩
  ·have:(iD (vs.take k)).length≤1000000:=by simp[iD];omega
   exact bI.2 (by simp only[yK,LZ];omega)
  ·rw[e]
 ·simp only[dG]at h2;refine⟨by omega,λd hd=>?_⟩
  have hd:fs[m]?=some d:=by simpa using hd
  have e:jD (fs.take (m+1))=jD (fs.take m)++[d.1]:=by
   unfold jD;rw[Jt,hd];simp
  refine⟨?_,au.2 (by omega),m+1,by omega,⟨rfl,rfl,trivial⟩,?_,by omega⟩
  ·have:(jD (fs.take m)).length≤1000000:=by simp[jD];omega
   exact bI.2 (by simp only[yK,LZ];omega)
  ·rw[e]
 ·simp only[dh]at h h2;rw[tZ (by omega),tZ (by omega)];exact⟨rfl,rfl⟩
theorem ab4:Go.aV.Met Tryz.prog aK.gd 132 ab3:=
 jC (cx:=aK) (n:=42) (cl:=[]) ay trivial Tryz.func132 λd hd=>by
  obtain⟨⟨vs,ms,cs,fs,ts,⟨⟩⟩,⟨⟩⟩:=d;exact aH (anb vs ms cs fs ts) (ahn vs ms cs fs ts hd) (by kernel_rfl)
def zU(vs:List VD) (ms cs:List ByteArray) (fs:List FD) (l:List ID):Int×Int:=if 64 < l.length then(4,-1) else match l.findIdx? (λi=>decide (wI vs ms cs fs i l.length≠0)) with
 | some k=>(wI vs ms cs fs (l.getD k (0,0,0,0,0,0,0,0,())) l.length,k)
 | none=>(0,-1)
theorem zV{vs:List VD}{ms cs:List ByteArray}{fs:List FD}{l:List ID}{k:Nat}{d:ID} (hl:¬64 < l.length) (hd:l[k]?=some d) (hb:wI vs ms cs fs d l.length≠0) (hn:∀j < k,∀i,l[j]?=some i→wI vs ms cs fs i l.length=0):zU vs ms cs fs l=(wI vs ms cs fs d l.length,(k:Int)):=by
 have iO:k < l.length:=(eU.1 hd).1;have:l.findIdx? (λi=>decide (wI vs ms cs fs i l.length≠0))=some k:=by
  rw[xC];refine⟨iO,by rw[(eU.1 hd).2];simpa using hb,λj hj=>?_⟩
  have:=hn j hj l[j] (l7 (by omega))
  simpa using this
 unfold zU;rw[if_neg hl,this];show(wI vs ms cs fs (l.getD k _) l.length,(k:Int))=_;rw[H8,hd];rfl
theorem aho{vs:List VD}{ms cs:List ByteArray}{fs:List FD}{l:List ID} (hl:¬64 < l.length) (hn:∀(j:Nat) i,l[j]?=some i→wI vs ms cs fs i l.length=0):zU vs ms cs fs l=(0,-1):=by
 have:l.findIdx? (λi=>decide (wI vs ms cs fs i l.length≠0))=none:=by
  rw[Me];intro y hy;obtain⟨j,hj⟩:=wQ hy;simpa using hn j y hj
 unfold zU;rw[if_neg hl,this]
theorem ara{vs:List VD}{ms cs:List ByteArray}{fs:List FD}{d:ID}{m:Int} (h:rX d≠0):wI vs ms cs fs d m=rX d:=by unfold wI ciS;rw[if_pos h]
theorem ate{vs:List VD}{ms cs:List ByteArray}{fs:List FD}{d:ID}{m:Int} (h:rX d=0) (h2:exS vs ms cs fs d.1 d.2.2.2.2.1 d.2.2.2.2.2.1=false):wI vs ms cs fs d m=11:=by
 unfold exS at h2;unfold wI ciS;rw[if_neg (by simpa using h)]
 split
 ·rfl
 ·rename_i h3;rw[Ed h3]at h2;rw[PY,BQ,yI]at h2;rw[if_pos (A83 h2)]
theorem atf{vs:List VD}{ms cs:List ByteArray}{fs:List FD}{d:ID}{m:Int} (h:rX d=0) (h2:exS vs ms cs fs d.1 d.2.2.2.2.1 d.2.2.2.2.2.1=true):wI vs ms cs fs d m=if(d.1=4∨d.1=5)∧(d.2.2.2.2.2.1 < 0∨m < d.2.2.2.2.2.1) then 12 else 0:=by
 unfold exS at h2;rw[A8,G6,G6]at h2;unfold wI ciS;rw[if_neg (by simpa using h),if_neg (A97 h2.1),if_neg (A97 h2.2)]
abbrev akm:CT:={ ps:=[oH,shF],pre:=λd=>True,res:=λd=>([],.gX [.c (.v (.int .i64 (zU d.1.1 d.1.2.1 d.1.2.2.1 d.1.2.2.2.1 d.2.1.2.1).1)),.c (.v (.int .i64 (zU d.1.1 d.1.2.1 d.1.2.2.1 d.1.2.2.2.1 d.2.1.2.1).2))]) }
@[reducible] def anc (vs:List VD) (ms cs:List ByteArray) (fs:List FD) (ts:List SD) (nm:ByteArray) (l:List ID):Nat→Option (St→iC):=λk=>match k with
  | 4=>some λ_=>.inv { α:=Nat,slots:=λk=>[(6,.c (.v (.int .i64 k)))],res:=λk=>[],inv:=λk=>k≤(l).length∧∀j < k,∀i,l[j]?=some i→wI vs ms cs fs i l.length=0,meas:=λk=>(l).length - k }
  | _=>none
theorem ahp(vs:List VD) (ms cs:List ByteArray) (fs:List FD) (ts:List SD) (nm:ByteArray) (l:List ID):
 let z10:=[cI ((zU vs ms cs fs l).fst),cI ((zU vs ms cs fs l).snd)];let z1:=λ(x:Nat)=>(x≤l.length∧∀(j:Nat),j < x→∀(i:Int×Int×Int×Int×Int×Int×Int×Int×Unit),l[j]?=some i→ciS vs ms cs fs (pG i.fst i.snd.fst i.snd.snd.fst i.snd.snd.snd.fst i.snd.snd.snd.snd.fst i.snd.snd.snd.snd.snd.fst i.snd.snd.snd.snd.snd.snd.fst i.snd.snd.snd.snd.snd.snd.snd.fst) i.fst i.snd.snd.snd.snd.fst i.snd.snd.snd.snd.snd.fst (↑l.length:Int)=(0:Int));let z5:=[g0 (aj.blk 27 [SC.sl aea vs,SC.sl Sh.str ms,SC.sl Sh.str cs,SC.sl kq2 fs,SC.sl aeb ts]),g0 (aj.blk 77 [SC.v (Value.string nm),SC.sl kq5 l])];let z2:=λ(d:ID)=>(d.fst,d.snd.fst,d.snd.snd.fst,d.snd.snd.snd.fst,d.snd.snd.snd.snd.fst,d.snd.snd.snd.snd.snd.fst,d.snd.snd.snd.snd.snd.snd.fst,d.snd.snd.snd.snd.snd.snd.snd.fst,());let z3:=λ(d:ID)=>(d.snd.fst,d.snd.snd.fst,d.snd.snd.snd.fst,d.snd.snd.snd.snd.fst,d.snd.snd.snd.snd.snd.fst,d.snd.snd.snd.snd.snd.snd.fst,d.snd.snd.snd.snd.snd.snd.snd.fst,());let z4:=λ(d:ID)=>(d.snd.snd.fst,d.snd.snd.snd.fst,d.snd.snd.snd.snd.fst,d.snd.snd.snd.snd.snd.fst,d.snd.snd.snd.snd.snd.snd.fst,d.snd.snd.snd.snd.snd.snd.snd.fst,());let z6:=λ(d:ID)=>(d.snd.snd.snd.fst,d.snd.snd.snd.snd.fst,d.snd.snd.snd.snd.snd.fst,d.snd.snd.snd.snd.snd.snd.fst,d.snd.snd.snd.snd.snd.snd.snd.fst,());let z7:=λ(d:ID)=>(d.snd.snd.snd.snd.fst,d.snd.snd.snd.snd.snd.fst,d.snd.snd.snd.snd.snd.snd.fst,d.snd.snd.snd.snd.snd.snd.snd.fst,());let z8:=λ(d:ID)=>(d.snd.snd.snd.snd.snd.fst,d.snd.snd.snd.snd.snd.snd.fst,d.snd.snd.snd.snd.snd.snd.snd.fst,());let z9:=λ(d:ID)=>(d.snd.snd.snd.snd.snd.snd.fst,d.snd.snd.snd.snd.snd.snd.snd.fst,());br (decide (64 < (↑l.length:Int))) (rT z10 [cI 4,cI (-1)]) ((∃x,(z1 x)∧(cI 0=cI (↑x:Int)∧True)∧sm z5)∧∀(x:Nat),(z1 x)→br (decide ((↑x:Int) < (↑l.length:Int))) ((0≤(↑x:Int)∧(↑x:Int) < (↑l.length:Int))∧∀(d:ID),l[(↑x:Int).toNat]?=some d→True∧br (!decide (pG (z2 d).fst (z3 d).fst (z4 d).fst (z6 d).fst (z7 d).fst (z8 d).fst (z9 d).fst (d.snd.snd.snd.snd.snd.snd.snd.fst,()).fst=0)) (rT z10 [cI (pG (z2 d).fst (z3 d).fst (z4 d).fst (z6 d).fst (z7 d).fst (z8 d).fst (z9 d).fst (d.snd.snd.snd.snd.snd.snd.snd.fst,()).fst),cI (↑x:Int)]) (True∧br (!exS vs ms cs fs (z2 d).fst (z7 d).fst (z8 d).fst) (rT z10 [cI 11,cI (↑x:Int)]) (br ((decide (d.fst=4) || decide (d.fst=5)) && (decide (d.snd.snd.snd.snd.snd.fst < 0) || decide ((↑l.length:Int) < d.snd.snd.snd.snd.snd.fst))) (rT z10 [cI 12,cI (↑x:Int)]) (cZ IntKind.i64 ((↑x:Int)+(1:Int))∧∃x',(z1 x')∧(cI ((↑x:Int)+(1:Int))=cI (↑x':Int)∧True)∧sm z5∧l.length - x' < l.length - x)))) (rT z10 [cI 0,cI (-1)])):=by
 conv=>zeta
 delta aea kq2 aeb kq5 cI g0 rT sm I6
 by_cases hc:64 < l.length
 ·have e:zU vs ms cs fs l=(4,-1):=by unfold zU;rw[if_pos hc]
  rw[e];refine ah.2 ⟨λ_=>⟨rfl,rfl⟩,λh=>?_⟩
  simp only[dh]at h;omega
 refine ah.2 ⟨λh=>?_,λ_=>⟨⟨0,⟨by omega,λj hj=>by omega⟩,⟨rfl,trivial⟩,rfl⟩,λk hk=>ah.2 ⟨λh=>?_,λh=>?_⟩⟩⟩
 ·simp only[dG]at h;omega
 ·simp only[dG]at h;have hN:(↑k:Int).toNat=k:=by omega
  rw[hN];refine⟨by omega,λd hd=>⟨trivial,ah.2 ⟨λh2=>⟨rfl,?_⟩,λh2=>⟨trivial,ah.2 ⟨λh3=>⟨rfl,?_⟩,λh3=>ah.2 ⟨λh4=>⟨rfl,?_⟩,λh4=>⟨au.2 (by omega),k+1,⟨by omega,λj hj i hi=>?_⟩,⟨rfl,trivial⟩,rfl,by omega⟩⟩⟩⟩⟩⟩⟩
  ·have h2:rX d≠0:=by simpa using h2
   rw[zV hc hd (by rw[ara h2];exact h2) hk.2,ara h2]
  all_goals have h2:rX d=0:=by simpa using h2
  ·have h3:exS vs ms cs fs d.1 d.2.2.2.2.1 d.2.2.2.2.2.1=false:=by simpa using h3
   have e:=ate (m:=(l.length:Int)) h2 h3;rw[zV hc hd (by rw[e];simp) hk.2,e]
  all_goals have h3:exS vs ms cs fs d.1 d.2.2.2.2.1 d.2.2.2.2.2.1=true:=by simpa using h3
  all_goals have e:=atf (m:=(l.length:Int)) h2 h3
  ·rw[if_pos (by simpa using h4)]at e
   rw[zV hc hd (by rw[e];simp) hk.2,e]
  ·by_cases gq:j=k
   ·subst gq;rw[hd]at hi;cases hi;rw[if_neg (λq=>by
     have:((decide (d.1=4) || decide (d.1=5)) && (decide (d.2.2.2.2.2.1 < 0) || decide ((l.length:Int) < d.2.2.2.2.2.1)))=true:=by simpa using q
     rw[h4]at this;cases this)]at e
    exact e
   ·exact hk.2 j (by omega) i hi
 ·simp only[dh]at h;rw[aho hc λj i hj=>hk.2 j (by have:=(eU.1 hj).1;omega) i hj];exact⟨rfl,rfl⟩
theorem ab5:Go.aV.Met Tryz.prog aK.gd 135 akm:=
 jC (cx:=aK) (n:=58) (cl:=[(176,amE),(179,akk)]) ay ⟨Og,abZ,trivial⟩ Tryz.func135 λd hd=>by
  obtain⟨⟨vs,ms,cs,fs,ts,⟨⟩⟩,⟨nm,l,⟨⟩⟩,⟨⟩⟩:=d;exact aH (anc vs ms cs fs ts nm l) (ahp vs ms cs fs ts nm l) (by kernel_rfl)
theorem BA:∀(i:Nat) (l:List FD) (n:Nat){x:FD},l[i]?=some x→jX n l=jX n (l.take i)++(qF (n+i) x++jX (n+i+1) (l.drop (i+1)))
 | 0,[],n,x,h=>by simp at h
 | 0,y :: l,n,x,h=>by
   simp at h;subst h;simp[jX]
 | i+1,[],n,x,h=>by simp at h
 | i+1,y :: l,n,x,h=>by
   have:=BA i l (n+1) (x:=x) (by simpa using h)
   simp only[akG,List.drop_succ_cons,jX];rw[this,uO,show n+1+i=n+(i+1) by omega]
theorem RD{n:Nat}{x:FD}{k:Nat}{d:bY [FY,qO]} (h:(qF n x)[k]?=some d):∃e,x.2.1[k]?=some e∧d=(((n:Int),(k:Int),()),e,()):=by
 unfold qF at h;rw[LX,Ym]at h;cases he:x.2.1[k]? with
 | none=>rw[he]at h;simp at h
 | some e=>rw[he]at h;simp at h;exact⟨e,rfl,h.symm⟩
theorem zW{vs:List VD}{ms cs:List ByteArray}{fs:List FD}{l:List ID} (h:(zU vs ms cs fs l).1=0):l.length≤64∧∀(j:Nat) i,l[j]?=some i→wI vs ms cs fs i l.length=0:=by
 by_cases hl:64 < l.length
 ·unfold zU at h;rw[if_pos hl]at h;simp at h
 refine⟨by omega,?_⟩
 cases hf:l.findIdx? (λi=>decide (wI vs ms cs fs i l.length≠0)) with
 | none=>
   rw[Me]at hf;intro j i hj;simpa using hf i (iF hj)
 | some k=>
   unfold zU at h;rw[if_neg hl,hf]at h;rw[xC]at hf;obtain⟨hk,h1,_⟩:=hf;have e:l.getD k (0,0,0,0,0,0,0,0,())=l[k]:=by rw[H8,l7 hk];rfl
   have h:wI vs ms cs fs (l.getD k (0,0,0,0,0,0,0,0,())) l.length=0:=h;rw[e]at h;simp[h]at h1
theorem ahq{vs:List VD}{ms cs:List ByteArray}{fs:List FD}{l:List ID} (hl:¬64 < l.length) (h:(zU vs ms cs fs l).1≠0):∃(k:Nat) (e:ID),l[k]?=some e∧wI vs ms cs fs e l.length≠0∧(∀j < k,∀i,l[j]?=some i→wI vs ms cs fs i l.length=0)∧zU vs ms cs fs l=(wI vs ms cs fs e l.length,(k:Int)):=by
 cases hf:l.findIdx? (λi=>decide (wI vs ms cs fs i l.length≠0)) with
 | none=>
   unfold zU at h;rw[if_neg hl,hf]at h;exact absurd rfl h
 | some k=>
   rw[xC]at hf;obtain⟨hk,h1,h2⟩:=hf;have hn:∀j < k,∀i,l[j]?=some i→wI vs ms cs fs i l.length=0:=λj hj i hi=>by
    have:=h2 j hj;rw[(eU.1 hi).2]at this;simpa using this
   have h1:wI vs ms cs fs l[k] l.length≠0:=by simpa using h1
   exact⟨k,l[k],l7 hk,h1,hn,zV hl (l7 hk) h1 hn⟩
theorem IZ{vs:List VD}{ms cs:List ByteArray}{fs:List FD}{k:Nat}{x:FD} (hx:fs[k]?=some x) (j:Int) (e:ID):KN vs ms cs fs (((k:Int),j,()),e,())=wI vs ms cs fs e x.2.1.length:=UD (d:=(((k:Int),j,()),e,())) (by simpa using hx)
theorem RF{fs:List FD}{i:Nat} (hn:∀j < i,∀f,fs[j]?=some f→f.2.1.length≤64):dU fs = -1∨(i:Int)≤dU fs:=by
 unfold dU;cases hf:fs.findIdx? (λf=>decide (64 < f.2.1.length)) with
 | none=>exact .inl rfl
 | some k=>
   refine .inr ?_;rw[xC]at hf;obtain⟨hk,h1,_⟩:=hf;show(i:Int)≤(k:Int)
   by_cases hki:k < i
   ·have:=hn k hki _ (l7 hk);simp at h1;omega
   ·omega
theorem ab6{vs:List VD}{ms cs:List ByteArray}{fs:List FD}{i:Nat}{f:FD} (hf:fs[i]?=some f) (h:(zU vs ms cs fs f.2.1).1≠0) (hn:∀j < i,∀g,fs[j]?=some g→(zU vs ms cs fs g.2.1).1=0):
 F5 vs ms cs fs=((zU vs ms cs fs f.2.1).1,(i:Int),(zU vs ms cs fs f.2.1).2):=by
 have hb:=RF (fs:=fs) (i:=i) λj hj g hg=>(zW (hn j hj g hg)).1
 have aA:(jX 0 (fs.take i)).find? (λd=>decide (d.1.1=dU fs) || decide (KN vs ms cs fs d≠0))=none:=by
  rw[A89];intro d hd;obtain⟨k,x,j,e,h1,h2,rfl⟩:=wJ _ _ hd;have hk:k < i:=by have:=(eU.1 h1).1;simp at this;omega
  rw[VZ hk]at h1;have hz:=(zW (hn k hk x h1)).2 j e h2;rw[show(0+k:Nat)=k by omega,IZ h1,hz]
  have:¬((k:Int)=dU fs):=by omega
  simp[this]
 have hcut:=BA i fs 0 hf;have key:∀{k:Nat}{e:ID},f.2.1[k]?=some e→((i:Int)=dU fs∨wI vs ms cs fs e f.2.1.length≠0)→(∀j < k,∀u,f.2.1[j]?=some u→(i:Int)≠dU fs∧wI vs ms cs fs u f.2.1.length=0) →
  (dR fs).find? (λd=>decide (d.1.1=dU fs) || decide (KN vs ms cs fs d≠0))=some (((i:Int),(k:Int),()),e,()):=by
  intro k e he hbad hok;unfold dR;rw[hcut,List.find?_append,aA,Option.none_or,List.find?_append,show(0+i:Nat)=i by omega]
  rw[yj (k:=k) (IW he) (by rw[IZ hf];simpa using hbad) λj hj t ht=>by
   obtain⟨u,hu,rfl⟩:=RD ht;obtain⟨a,b⟩:=hok j hj u hu;rw[IZ hf,b];simp[a]]
  rfl
 by_cases hl:64 < f.2.1.length
 ·have e1:dU fs=i:=FZ hf hl λj hj g hg=>(zW (hn j hj g hg)).1
  have iO:0 < f.2.1.length:=by omega
  have:=key (k:=0) (l7 iO) (.inl e1.symm) (λj hj=>by omega)
  unfold F5;rw[this];show(if(i:Int)=dU fs then _ else _)=_
  rw[if_pos e1.symm,e1];unfold zU;rw[if_pos hl]
 ·obtain⟨k,e,h1,h2,h3,h4⟩:=ahq hl h;have hne:(i:Int)≠dU fs:=by
   intro q;have:=Bz (fs:=fs);unfold dU at q;cases hfi:fs.findIdx? (λf=>decide (64 < f.2.1.length)) with
   | none=>rw[hfi]at q;simp at q
   | some m=>
     rw[hfi]at q;rw[xC]at hfi;obtain⟨hm,a,_⟩:=hfi;have q:i=m:=by have q:(i:Int)=(m:Int):=q;omega
     subst q;rw[(eU.1 hf).2]at a;simp at a;omega
  have:=key h1 (.inr h2) (λj hj u hu=>⟨hne,h3 j hj u hu⟩)
  unfold F5;rw[this];show(if(i:Int)=dU fs then _ else(KN vs ms cs fs _,(i:Int),(k:Int)))=_
  rw[if_neg hne,IZ hf,h4]
theorem ahr{vs:List VD}{ms cs:List ByteArray}{fs:List FD} (hn:∀(j:Nat) g,fs[j]?=some g→(zU vs ms cs fs g.2.1).1=0):F5 vs ms cs fs=(0,-1,-1):=by
 have hl:dU fs = -1:=Bz λj g hg=>(zW (hn j g hg)).1
 rw[Ry λj d hd=>?_,if_neg (by rw[hl];simp)]
 obtain⟨k,x,m,e,h1,h2,rfl⟩:=wJ _ _ (iF hd);rw[show(0+k:Nat)=k by omega,IZ h1,hl]
 exact⟨by show¬((k:Int) = -1);omega,(zW (hn k x h1)).2 m e h2⟩
theorem I4:∀(l:List FD) (n m:Nat),(∀x∈l,x.2.1.length≤m)→(jX n l).length≤l.length * m
 | [],n,m,h=>by simp[jX]
 | x :: l,n,m,h=>by
   have:=I4 l (n+1) m λy hy=>h y (by simp[hy])
   have:=h x (by simp)
   have e:(qF n x).length=x.2.1.length:=by simp[qF]
   simp only[jX,kD,yK,PU];omega
theorem XG{vs:List VD}{ms cs:List ByteArray}{fs:List FD}{ts:List SD} (h:XF vs ms cs fs ts=true):bnd ((vs,ms,cs,fs,ts,()),()):=by
 unfold XF at h;rw[A8,dG,X0]at h;obtain⟨⟨h1,h2,h3,h4,h5⟩,h6⟩:=h;have h6:∀x∈fs,x.2.1.length≤100:=λx hx=>by simpa using h6 x hx
 have:=I4 fs 0 100 h6;refine⟨?_,?_,?_,?_,?_,λx hx=>?_,?_⟩
 ·show vs.length≤_;omega
 ·show ms.length≤_;omega
 ·show cs.length≤_;omega
 ·show fs.length≤_;omega
 ·show ts.length≤_;omega
 ·have:=h6 x hx;omega
 ·show(jX 0 fs).length≤_;omega
theorem KO{vs:List VD}{ms cs:List ByteArray}{fs:List FD}{ts:List SD} (h:(CW vs ms cs fs).1≠0):aB vs ms cs fs ts=CW vs ms cs fs:=by unfold aB;rw[if_pos h]
theorem ab7{vs:List VD}{ms cs:List ByteArray}{fs:List FD}{ts:List SD} (z:(CW vs ms cs fs).1=0) (h:Az vs ms cs fs≠0):aB vs ms cs fs ts=(Az vs ms cs fs,-1,-1):=by unfold aB;rw[if_neg (λq=>q z),if_pos h]
theorem ane{vs:List VD}{ms cs:List ByteArray}{fs:List FD}{ts:List SD} (z:(CW vs ms cs fs).1=0) (z2:Az vs ms cs fs=0) (h:(F5 vs ms cs fs).1≠0):aB vs ms cs fs ts=F5 vs ms cs fs:=by unfold aB;rw[if_neg (λq=>q z),if_neg (λq=>q z2),if_pos h]
theorem anf{vs:List VD}{ms cs:List ByteArray}{fs:List FD}{ts:List SD} (z:(CW vs ms cs fs).1=0) (z2:Az vs ms cs fs=0) (z3:(F5 vs ms cs fs).1=0):aB vs ms cs fs ts=(Dz fs ts,-1,-1):=by
 unfold aB;rw[if_neg (λq=>q z),if_neg (λq=>q z2),if_neg (λq=>q z3)]
 split
 ·rfl
 ·rename_i h;rw[GU.1 h]
abbrev F6:CT:={ ps:=[oH],pre:=λd=>bnd d,res:=λd=>([],.gX [.c (.v (.int .i64 (aB d.1.1 d.1.2.1 d.1.2.2.1 d.1.2.2.2.1 d.1.2.2.2.2.1).1)),.c (.v (.int .i64 (aB d.1.1 d.1.2.1 d.1.2.2.1 d.1.2.2.2.1 d.1.2.2.2.2.1).2.1)),.c (.v (.int .i64 (aB d.1.1 d.1.2.1 d.1.2.2.1 d.1.2.2.2.1 d.1.2.2.2.2.1).2.2))]) }
@[reducible] def arb (vs:List VD) (ms cs:List ByteArray) (fs:List FD) (ts:List SD):Nat→Option (St→iC):=λk=>match k with
  | 17=>some λ_=>.inv { α:=Nat,slots:=λk=>[(15,.c (.v (.int .i64 k)))],res:=λ_=>[],inv:=λk=>k≤vs.length∧∀j < k,∀v,vs[j]?=some v→bV v.2.1=true,meas:=λk=>vs.length - k }
  | 22=>some λ_=>.inv { α:=Nat,slots:=λk=>[(16,.c (.v (.int .i64 k)))],res:=λ_=>[],inv:=λk=>k≤fs.length∧∀j < k,∀g,fs[j]?=some g→(zU vs ms cs fs g.2.1).1=0,meas:=λk=>fs.length - k }
  | _=>none
theorem ang(vs:List VD) (ms cs:List ByteArray) (fs:List FD) (ts:List SD) (aA:F6.pre ((vs,ms,cs,fs,ts,()),())):
 let z6:=aB vs ms cs fs ts;let z4:=[cI (z6.fst),cI (z6.snd.fst),cI (z6.snd.snd)];let z7:=gW (jD fs);let z3:=λ(x:Nat)=>(x≤vs.length∧∀(j:Nat),j < x→∀(v:ByteArray×Int×Unit),vs[j]?=some v→bV v.snd.fst=true);let z1:=[g0 (aj.blk 27 [SC.sl aea vs,SC.sl Sh.str ms,SC.sl Sh.str cs,SC.sl kq2 fs,SC.sl aeb ts]),g0 (aj.row 9 Sh.str (iD vs)),g0 (aj.row 9 Sh.str (jD fs))];let z5:=λ(x:Nat)=>(↑x:Int)+(1:Int);let z2:=λ(x:Nat)=>(x≤fs.length∧∀(j:Nat),j < x→∀(g:ByteArray×List ID×Unit),fs[j]?=some g→(zU vs ms cs fs g.snd.fst).fst=0);(vs.length≤1000000∧fs.length≤1000000)∧(iD vs).length≤1000000∧br (!decide ((gW (iD vs)).fst=0)) (rT z4 [cI ((gW (iD vs)).fst),cI (-1),cI (-1)]) (ms.length≤1000000∧br (!decide ((gW ms).fst=0)) (rT z4 [cI ((gW ms).fst),cI (-1),cI (-1)]) (cs.length≤1000000∧br (!decide ((gW cs).fst=0)) (rT z4 [cI ((gW cs).fst),cI (-1),cI (-1)]) ((jD fs).length≤1000000∧br (!decide (z7.fst=0)) (rT z4 [cI (z7.fst),cI (if z7.fst=0 then(0:Int) else z7.snd),cI (-1)]) (br (decide (8 < (↑vs.length:Int)) || decide (4 < (↑ms.length:Int)) || decide (4 < (↑cs.length:Int)) || decide (8 < (↑fs.length:Int))) (rT z4 [cI 4,cI (-1),cI (-1)]) ((∃x,(z3 x)∧(cI 0=cI (↑x:Int)∧True)∧sm z1)∧∀(x:Nat),(z3 x)→br (decide ((↑x:Int) < (↑vs.length:Int))) ((0≤(↑x:Int)∧(↑x:Int) < (↑vs.length:Int))∧∀(d:ByteArray×(I6.pair Sh.unit).den),vs[(↑x:Int).toNat]?=some d→True∧br (!bV (d.snd.fst,()).fst) (rT z4 [cI 2,cI (-1),cI (-1)]) (cZ IntKind.i64 (z5 x)∧∃x',(z3 x')∧(cI (z5 x)=cI (↑x':Int)∧True)∧sm z1∧vs.length - x' < vs.length - x)) ((∃x,(z2 x)∧(cI 0=cI (↑x:Int)∧True)∧sm z1)∧∀(x:Nat),(z2 x)→br (decide ((↑x:Int) < (↑fs.length:Int))) ((0≤(↑x:Int)∧(↑x:Int) < (↑fs.length:Int))∧∀(d:ByteArray×((I6.pair (I6.pair (I6.pair (I6.pair (I6.pair (I6.pair (I6.pair (I6.pair Sh.unit)))))))).sl.pair Sh.unit).den),fs[(↑x:Int).toNat]?=some d→True∧br (!decide ((zU vs ms cs fs (d.snd.fst,()).fst).fst=0)) (rT z4 [cI ((zU vs ms cs fs (d.snd.fst,()).fst).fst),cI (↑x:Int),cI ((zU vs ms cs fs (d.snd.fst,()).fst).snd)]) (cZ IntKind.i64 (z5 x)∧∃x',(z2 x')∧(cI (z5 x)=cI (↑x':Int)∧True)∧sm z1∧fs.length - x' < fs.length - x)) (True∧rT z4 [cI (Dz fs ts),cI (-1),cI (-1)]))))))):=by
 conv=>zeta
 delta aea kq2 aeb cI g0 rT sm I6;obtain⟨h1,h2,h3,h4,h5,h6,h7⟩:bnd ((vs,ms,cs,fs,ts,()),()):=aA;have h1:vs.length≤1000000:=h1;have h4:fs.length≤1000000:=h4;refine⟨⟨h1,h4⟩,by simpa[iD]using h1,ah.2 ⟨λa=>⟨rfl,?_⟩,λa=>⟨h2,ah.2 ⟨λb=>⟨rfl,?_⟩,λb=>⟨h3,ah.2 ⟨λc=>⟨rfl,?_⟩,λc=>⟨by simpa[jD]using h4,ah.2 ⟨λd=>⟨rfl,?_⟩,λd=>?_⟩⟩⟩⟩⟩⟩⟩⟩
 all_goals try simp only[G6,yI,dG,dh]at a
 all_goals try simp only[G6,yI,dG,dh]at b
 all_goals try simp only[G6,yI,dG,dh]at c
 all_goals try simp only[G6,yI,dG,dh]at d
 ·have e:CW vs ms cs fs=((gW (iD vs)).1,-1,-1):=by unfold CW;rw[if_pos a]
  rw[KO (by rw[e];exact a),e]
 ·have e:CW vs ms cs fs=((gW ms).1,-1,-1):=by unfold CW;rw[if_neg (λq=>q a),if_pos b]
  rw[KO (by rw[e];exact b),e]
 ·have e:CW vs ms cs fs=((gW cs).1,-1,-1):=by unfold CW;rw[if_neg (λq=>q a),if_neg (λq=>q b),if_pos c]
  rw[KO (by rw[e];exact c),e]
 all_goals have e:CW vs ms cs fs=((gW (jD fs)).1,(gW (jD fs)).2,-1):=by unfold CW;rw[if_neg (λq=>q a),if_neg (λq=>q b),if_neg (λq=>q c)]
 ·rw[KO (by rw[e];exact d),e,if_neg d]
 have z:(CW vs ms cs fs).1=0:=by rw[e];exact d
 clear e a b c d
 by_cases hc:8 < vs.length∨4 < ms.length∨4 < cs.length∨8 < fs.length
 ·have e:Az vs ms cs fs=4:=by unfold Az;rw[if_pos hc]
  rw[ab7 z (by rw[e];simp),e]
  refine ah.2 ⟨λ_=>⟨rfl,rfl⟩,λh=>?_⟩
  simp only[qH,dh]at h;omega
 refine ah.2 ⟨λh=>?_,λ_=>⟨⟨0,⟨by omega,λj hj=>by omega⟩,⟨rfl,trivial⟩,rfl⟩,λk hk=>ah.2 ⟨λh=>?_,λh=>⟨⟨0,⟨by omega,λj hj=>by omega⟩,⟨rfl,trivial⟩,rfl⟩,λm hm=>ah.2 ⟨λh8=>?_,λh8=>⟨trivial,rfl,?_⟩⟩⟩⟩⟩⟩
 ·simp only[AA,dG]at h;omega
 ·simp only[dG]at h;have hN:(↑k:Int).toNat=k:=by omega
  rw[hN];refine⟨by omega,λd hd=>⟨trivial,ah.2 ⟨λh9=>⟨rfl,?_⟩,λh9=>⟨au.2 (by omega),k+1,⟨by omega,λj hj v hv=>?_⟩,⟨rfl,trivial⟩,rfl,by omega⟩⟩⟩⟩
  ·have h9:bV d.2.1=false:=by simpa using h9
   have e:Az vs ms cs fs=2:=by
    unfold Az;rw[if_neg hc,if_neg];intro hh;rw[X0]at hh;have:=hh d (iF hd);rw[h9]at this;cases this
   rw[ab7 z (by rw[e];simp),e]
  ·have h9:bV d.2.1=true:=by simpa using h9
   by_cases gq:j=k
   ·subst gq;rw[hd]at hv;cases hv;exact h9
   ·exact hk.2 j (by omega) v hv
 all_goals
  simp only[dh]at h;have z2:Az vs ms cs fs=0:=by
   unfold Az;rw[if_neg hc,if_pos];rw[X0];intro v hv;obtain⟨j,hj⟩:=wQ hv;exact hk.2 j (by have:=(eU.1 hj).1;omega) v hj
 ·simp only[dG]at h8;have hN:(↑m:Int).toNat=m:=by omega
  rw[hN];refine⟨by omega,λd hd=>⟨trivial,ah.2 ⟨λh9=>⟨rfl,?_⟩,λh9=>⟨au.2 (by omega),m+1,⟨by omega,λj hj v hv=>?_⟩,⟨rfl,trivial⟩,rfl,by omega⟩⟩⟩⟩
  ·have h9:(zU vs ms cs fs d.2.1).1≠0:=by simpa using h9
   have e:=ab6 hd h9 hm.2;rw[ane z z2 (by rw[e];exact h9),e]
  ·have h9:(zU vs ms cs fs d.2.1).1=0:=by simpa using h9
   by_cases gq:j=m
   ·subst gq;rw[hd]at hv;cases hv;exact h9
   ·exact hm.2 j (by omega) v hv
 ·simp only[dh]at h8;have e:=ahr (vs:=vs) (ms:=ms) (cs:=cs) λj g hj=>hm.2 j (by have:=(eU.1 hj).1;omega) g hj
  rw[anf z z2 (by rw[e])]
theorem KP:Go.aV.Met Tryz.prog aK.gd 66 F6:=
 jC (cx:=aK) (n:=120) (cl:=[(132,ab3),(133,Rz),(134,Ro),(135,akm),(136,akj)]) ay ⟨ab4,ab2,Ov,ab5,abY,trivial⟩ Tryz.func66 λd hd=>by
  obtain⟨⟨vs,ms,cs,fs,ts,⟨⟩⟩,⟨⟩⟩:=d;exact aH (arb vs ms cs fs ts) (ang vs ms cs fs ts hd) (by kernel_rfl)
def aI(n:Int):Int:=if n % 4294967296≤2147483647 then n % 4294967296 else n % 4294967296 - 4294967296
theorem oL(n:Int):-2147483648≤aI n∧aI n≤2147483647:=by
 unfold aI;split<;>omega
theorem F9{n:Int}:aI n=n↔-2147483648≤n∧n≤2147483647:=by
 unfold aI;constructor
 ·intro h;split at h<;>omega
 ·intro h;split<;>omega
theorem BF{n m:Int} (h:n % 4294967296=m % 4294967296):aI n=aI m:=by
 unfold aI;rw[h]
def acf(n:Int):Int:=
 if(if n.tmod 4294967296 < 0 then n.tmod 4294967296+4294967296 else n.tmod 4294967296) > 2147483647 then
  (if n.tmod 4294967296 < 0 then n.tmod 4294967296+4294967296 else n.tmod 4294967296) - 4294967296
 else(if n.tmod 4294967296 < 0 then n.tmod 4294967296+4294967296 else n.tmod 4294967296)
theorem Gg(n:Int){m:Int} (hm:0 < m):n.tmod m=if 0≤n∨n % m=0 then n % m else n % m - m:=by
 rw[Int.tmod_eq_emod];have h1:(m ∣ n)↔n % m=0:=Int.dvd_iff_emod_eq_zero;simp only[h1];split
 ·simp
 ·have:(m.natAbs:Int)=m:=by omega
  simp[this]
theorem acg(n:Int):acf n=aI n:=by
 unfold acf aI;rw[Gg n (by omega)]
 split<;>split<;>split<;>first | omega | (split<;>omega)
def je(X Y:Nat) (r:List Int):Nat→Int
 | 0=>0
 | i+1=>je X Y r i+2 ^ i * r.getD (2 * (X / 2 ^ i % 2)+Y / 2 ^ i % 2) 0
theorem I5{X Y:Nat}{r:List Int} (h:∀v∈r,v=0∨v=1):∀i,0≤je X Y r i∧je X Y r i < 2 ^ i
 | 0=>by simp[je]
 | i+1=>by
   have ih:=I5 (X:=X) (Y:=Y) h i;have hv:r.getD (2 * (X / 2 ^ i % 2)+Y / 2 ^ i % 2) 0=0∨r.getD (2 * (X / 2 ^ i % 2)+Y / 2 ^ i % 2) 0=1:=by
    rw[H8];cases hq:r[2 * (X / 2 ^ i % 2)+Y / 2 ^ i % 2]? with
    | none=>exact .inl rfl
    | some v=>exact h v (iF hq)
   unfold je;rw[Int.pow_succ];rcases hv with e | e<;>rw[e]<;>omega
theorem KR(n i:Nat):n % 2 ^ (i+1)=n % 2 ^ i+2 ^ i * (n / 2 ^ i % 2):=by
 rw[Nat.pow_succ,Nat.mod_mul]
theorem KT(n i:Nat):n / 2 ^ i % 2=(n.testBit i).toNat:=by
 rw[Nat.testBit_eq_decide_div_mod_eq];rcases Nat.mod_two_eq_zero_or_one (n / 2 ^ i) with h | h<;>simp[h]
theorem DF{X Y Z:Nat}{r:List Int} (h:∀i,r.getD (2 * (X.testBit i).toNat+(Y.testBit i).toNat) 0=((Z.testBit i).toNat:Int)):∀i,je X Y r i=((Z % 2 ^ i:Nat):Int)
 | 0=>by simp[je,Nat.mod_one]
 | i+1=>by
   unfold je;rw[DF h i,KR,KT,KT,h,KT]
   push_cast
   rfl
theorem oM(x:Int):((BitVec.ofInt 64 x).toNat % 4294967296:Nat)=(x % 4294967296).toNat:=by
 rw[BitVec.toNat_ofInt];omega
theorem tJ(n:Int):IntKind.i64.wrap n % 4294967296=n % 4294967296:=by
 simp only[IntKind.wrap,IntKind.bits,IntKind.signed];simp;split<;>omega
theorem tK(n:Nat):((n % 2 ^ 32 % 2 ^ 32:Nat):Int) % 4294967296=(n:Int) % 4294967296:=by omega
theorem ach{x y:Int}:aI (je (x % 4294967296).toNat (y % 4294967296).toNat [0,0,0,1] 32)=aI (kX .and .i64 x y):=by
 apply BF;rw[DF (Z:=(x % 4294967296).toNat &&& (y % 4294967296).toNat) λi=>by
  rw[Nat.testBit_and];cases ((x % 4294967296).toNat.testBit i)<;>cases ((y % 4294967296).toNat.testBit i)<;>rfl]
 simp only[kX];rw[tJ,BitVec.toNat_and,←oM,←oM];rw[show(4294967296:Nat)=2 ^ 32 from rfl,←Nat.and_mod_two_pow]
 exact tK _
theorem ahv{x y:Int}:aI (je (x % 4294967296).toNat (y % 4294967296).toNat [0,1,1,1] 32)=aI (kX .or .i64 x y):=by
 apply BF;rw[DF (Z:=(x % 4294967296).toNat ||| (y % 4294967296).toNat) λi=>by
  rw[Nat.testBit_or];cases ((x % 4294967296).toNat.testBit i)<;>cases ((y % 4294967296).toNat.testBit i)<;>rfl]
 simp only[kX];rw[tJ,BitVec.toNat_or,←oM,←oM];rw[show(4294967296:Nat)=2 ^ 32 from rfl,←Nat.or_mod_two_pow]
 exact tK _
theorem aci{x y:Int}:aI (je (x % 4294967296).toNat (y % 4294967296).toNat [0,1,1,0] 32)=aI (kX .xor .i64 x y):=by
 apply BF;rw[DF (Z:=(x % 4294967296).toNat ^^^ (y % 4294967296).toNat) λi=>by
  rw[Nat.testBit_xor];cases ((x % 4294967296).toNat.testBit i)<;>cases ((y % 4294967296).toNat.testBit i)<;>rfl]
 simp only[kX];rw[tJ,BitVec.toNat_xor,←oM,←oM];rw[show(4294967296:Nat)=2 ^ 32 from rfl,←Nat.xor_mod_two_pow]
 exact tK _
def dP(f a b:Int):Int×Int:=
 if f=1 then(aI (aI a+aI b),0) else if f=2 then(aI (aI a - aI b),0) else if f=3 then(aI (aI a * aI b),0)
 else if f=4 then(aI (kX .and .i64 (aI a) (aI b)),0) else if f=5 then(aI (kX .or .i64 (aI a) (aI b)),0) else if f=6 then(aI (kX .xor .i64 (aI a) (aI b)),0)
 else if f=7 then(if aI a=aI b then 1 else 0,0) else if f=8 then(if aI a=aI b then 0 else 1,0) else if f=9 then(if aI a < aI b then 1 else 0,0)
 else if f=10 then(if aI a≤aI b then 1 else 0,0) else(0,8)
theorem RG(f a b:Int):-2147483648≤(dP f a b).1∧(dP f a b).1≤2147483647:=by
 unfold dP
 repeat' split
 all_goals first | exact oL _ | (constructor<;>omega)
def dY:Nat→Int→Int→Int
 | 0,_,_=>-1
 | n+1,d,id=>if id < 8 then d else if 7≤id.tmod 8 then -1 else dY n (d+1) (id.tdiv 8 - 1)
def aU(id:Int):Int:=if id < 0 then -1 else dY 5 0 id
theorem yu:∀(n:Nat) (d id:Int),0≤d→dY n d id = -1∨(d≤dY n d id∧dY n d id < d+n)
 | 0,d,id,h=>.inl rfl
 | n+1,d,id,h=>by
   unfold dY;split
   ·right;omega
   ·split
    ·exact .inl rfl
    ·rcases yu n (d+1) (id.tdiv 8 - 1) (by omega) with e | e
     ·exact .inl e
     ·right;omega
theorem Gh(id:Int):-1≤aU id∧aU id≤4:=by
 unfold aU;split
 ·omega
 ·rcases yu 5 0 id (by omega) with e | e<;>omega
theorem zX:∀(n:Nat) (d id r:Int),dY (n+1) d id=r→0≤d→0≤r→r < d+n→dY n (d+1) id=r+1
 | 0,d,id,r,h,h0,h1,h2=>by
   have h:dY 1 d id=r:=h;rcases yu 1 d id h0 with e | e<;>omega
 | n+1,d,id,r,h,h0,h1,h2=>by
   unfold dY at h ⊢
   split at h
   ·rename_i q;rw[if_pos q];omega
   ·rename_i q;rw[if_neg q];split at h
    ·omega
    ·rename_i q2;rw[if_neg q2];exact zX n (d+1) _ r h (by omega) h1 (by omega)
def RH:Nat→Int
 | 0=>0
 | n+1=>8 * (RH n+1)
theorem I7:∀(n:Nat) (d id:Int),0≤d→0≤id→0≤dY n d id→id < RH n
 | 0,d,id,h0,h1,h2=>by simp[dY]at h2
 | n+1,d,id,h0,h1,h2=>by
   have hp:0≤RH n:=by
    clear h2
    induction n with
    | zero=>simp[RH]
    | succ n ih=>unfold RH;omega
   unfold dY at h2;unfold RH;split at h2
   ·omega
   ·split at h2
    ·omega
    ·have e:id.tdiv 8=id / 8:=VL h1;rw[e]at h2;have:=I7 n (d+1) (id / 8 - 1) (by omega) (by omega) h2
     omega
theorem mQ{id:Int} (h:0≤aU id):0≤id∧id < 37448:=by
 unfold aU at h;split at h
 ·omega
 ·have:=I7 5 0 id (by omega) (by omega) h
  simp only[RH]at this;omega
def dB(id ch:Int):Int×Bool:=if aU id < 0∨aU id=4∨ch < 0∨7≤ch then(0,false) else(8 * (id+1)+ch,true)
def UF(id:Int):Int×Bool:=if aU id < 1 then(0,false) else(id.tdiv 8 - 1,true)
def iI(id:Int):Int:=if aU id < 0 then 0 else aU id
theorem Cm{id ch:Int} (h0:0≤aU id) (h4:aU id≠4) (c0:0≤ch) (c7:ch < 7):aU (8 * (id+1)+ch)=aU id+1∧(8 * (id+1)+ch).tdiv 8 - 1=id:=by
 obtain⟨i0,i1⟩:=mQ h0;have e1:(8 * (id+1)+ch).tdiv 8=id+1:=by rw[VL (by omega)];omega
 have e2:(8 * (id+1)+ch).tmod 8=ch:=by rw[aeC (by omega)];omega
 have hr:=Gh id;refine⟨?_,by omega⟩
 have hd:aU (8 * (id+1)+ch)=dY 4 1 id:=by
  unfold aU;rw[if_neg (by omega)]
  rw[dY,if_neg (by omega),e2,if_neg (by omega),e1,show id+1 - 1=id by omega]
  rfl
 rw[hd];have:aU id=dY 5 0 id:=by unfold aU;rw[if_neg (by omega)]
 exact zX 4 0 id _ this.symm (by omega) h0 (by omega)
abbrev dQ:Sh:=.pair (.int .i64) (.pair (.int .i64) (.pair (.int .i64) (.pair (.arr 8 (.int .i64)) (.pair (.int .i64) (.pair (.int .i64) (.pair (.int .i64) (.pair (.int .i64) (.pair (.int .i64) (.pair (.sl (.int .i64)) .unit)))))))))
abbrev TD:=Int×Int×Int×List Int×Int×Int×Int×Int×Int×List Int×Unit
def jf(op:Int):Bool:=decide (8≤op∧op≤22)
def jh(i:ID):Int×Bool:=if rX i≠0∨use i.1 0=false then(0,false) else(i.2.1,true)
def codeF(fs:List FD) (fn:Int):List ID:=(fs.getD fn.toNat (⟨#[]⟩,[],())).2.1
def lH(fs:List FD) (fn pc:Int):Option ID:=(codeF fs fn)[pc.toNat]?
def atR(fs:List FD) (fn pc:Int):ID×Bool:=match lH fs fn pc with
 | some i=>(i,true)
 | none=>((0,0,0,0,0,0,0,0,()),false)
def iQ(id ch ph:Int) (hd:List Int) (i:ID):Int:=
 if ph≠0 then 0 else if i.1=18 then(if dM hd i.2.2.2.2.2.1=true then 0 else 27) else if i.1=16 then(if dM hd i.2.2.2.2.1=true then 0 else 27)
 else if i.1=21 then(if(dB id ch).2=true then 0 else 28) else 0
def bG(ms:List ByteArray) (fs:List FD) (bound:Int):TD→Prop
 | (id,fn,pc,rg,st,ch,ph,su,fa,hd,_)=>0≤aU id∧(0≤fn∧fn < fs.length)∧(0≤pc∧pc≤(codeF fs fn).length)∧(∀k < 8,∀r,rg[k]?=some r→bV r=true) ∧
   (0≤st∧st≤bound)∧(0≤ch∧ch≤7∧(aU id=4→ch=0))∧SS hd∧(∀m∈hd,0≤m∧m < ms.length) ∧
   (ph=0∨((ph=1∨ph=2)∧∃i,lH fs fn pc=some i∧i.1=18∧dM hd i.2.2.2.2.2.1=false))
open Classical in
def iV(ms:List ByteArray) (fs:List FD) (bound:Int) (t:TD):Bool:=decide (bG ms fs bound t)
def dW:TD→ID→TD×Bool
 | (id,fn,pc,rg,st,ch,ph,su,fa,hd,_),(op,a,b,c,obj,n,f,_,_)=>
   if op=1 then((id,fn,pc+1,rg.set a.toNat n,st,ch,ph,su,fa,hd,()),true)
   else if op=2 then((id,fn,pc+1,rg.set a.toNat (rg.getD b.toNat 0),st,ch,ph,su,fa,hd,()),true)
   else if op=3 then((id,fn,pc+1,if(dP f (rg.getD b.toNat 0) (rg.getD c.toNat 0)).2=0 then rg.set a.toNat (dP f (rg.getD b.toNat 0) (rg.getD c.toNat 0)).1 else rg,st,ch,ph,su,fa,hd,()),true)
   else if op=4 then((id,fn,n,rg,st,ch,ph,su,fa,hd,()),true)
   else if op=5 then((id,fn,if rg.getD b.toNat 0=0 then pc+1 else n,rg,st,ch,ph,su,fa,hd,()),true)
   else if op=6∧rg.getD b.toNat 0=0 then((id,fn,pc,rg,st,ch,ph,3,26,hd,()),false)
   else if op=7 then((id,fn,pc,rg,st,ch,ph,2,0,hd,()),false)
   else((id,fn,pc+1,rg,st,ch,ph,su,fa,hd,()),true)
def zY:TD→Int→Int→TD
 | (id,fn,pc,rg,st,ch,ph,_,_,hd,_),s,f=>(id,fn,pc,rg,st,ch,ph,s,f,hd,())
def topS(fs:List FD) (bound:Int) (t:TD) (rest:ID→TD):TD:=match t with
 | (id,fn,pc,rg,st,ch,ph,su,fa,hd,_)=>match lH fs fn pc with
   | none=>(id,fn,pc,rg,st,ch,ph,2,0,hd,())
   | some i=>if jf i.1=true then
    (if iQ id ch ph hd i≠0 then(id,fn,pc,rg,st,ch,ph,3,iQ id ch ph hd i,hd,()) else if st=bound then(id,fn,pc,rg,st,ch,ph,4,0,hd,()) else(id,fn,pc,rg,st,ch,ph,su,fa,hd,()))
     else rest i
def eF(fs:List FD) (bound:Int):Nat→TD→TD
 | 0,t=>topS fs bound t λ_=>zY t 3 29
 | k+1,t=>topS fs bound t λi=>if(dW t i).2=true then eF fs bound k (dW t i).1 else(dW t i).1
def qQ(ms:List ByteArray) (fs:List FD) (bound:Int):TD→Prop
 | (id,fn,pc,rg,st,ch,ph,su,fa,hd,u)=>bG ms fs bound (id,fn,pc,rg,st,ch,ph,su,fa,hd,u) ∧
   (((su=1∧st < bound∨su=4∧1≤st)∧fa=0∧∃i,lH fs fn pc=some i∧jf i.1=true∧iQ id ch ph hd i=0) ∨
    (su=2∧fa=0∧ph=0∧∀i,lH fs fn pc=some i→i.1=7) ∨
    (su=3∧ph=0∧∃i,lH fs fn pc=some i∧(fa=26∧i.1=6∧rg.getD i.2.2.1.toNat 0=0∨fa=29∧jf i.1=false∨fa≠26∧fa≠29∧fa≠0∧iQ id ch ph hd i=fa)))
open Classical in
def mW(ms:List ByteArray) (fs:List FD) (bound:Int) (t:TD):Bool:=decide (qQ ms fs bound t)
theorem kH{i:ID} (h:rX i=0):(0≤i.2.1∧i.2.1 < 8)∧(0≤i.2.2.1∧i.2.2.1 < 8)∧(0≤i.2.2.2.1∧i.2.2.2.1 < 8)∧(1≤i.1∧i.1≤22):=by
 unfold rX pG at h;split at h
 ·simp at h
 split at h
 ·simp at h
 split at h
 ·simp at h
 ·rename_i h1 h2 h3;simp only[Xx,tu]at h1 h3;simp only[AA,G6,A86,dh]at h1 h3;refine⟨?_,?_,?_,?_⟩<;>omega
theorem ahw{i:ID} (h:rX i=0) (h3:i.1=3):1≤i.2.2.2.2.2.2.1∧i.2.2.2.2.2.2.1≤10:=by
 unfold rX pG at h
 repeat' split at h
 all_goals first | (simp at h;done) | skip
 rename_i h1 h2 h4 h5 h6 h7;have hu:use i.1 5=true:=by rw[h3];rfl
 rw[hu]at h6
 by_cases hc:1≤i.2.2.2.2.2.2.1∧i.2.2.2.2.2.2.1≤10
 ·exact hc
 ·exfalso;apply h6;unfold vK;rw[if_neg hc];rfl
theorem anl{i:ID} (h:rX i=0) (h1:i.1=1):bV i.2.2.2.2.2.1=true:=by
 unfold rX pG at h
 repeat' split at h
 all_goals first | (simp at h;done) | skip
 rename_i q1 q2 q3 q4 q5 q6;simp[h1]at q6;unfold bV;simp;omega
theorem ahx{fs:List FD}{k:Nat}{x:FD} (hx:fs[k]?=some x){j:Nat}{i:ID} (hj:x.2.1[j]?=some i):(((k:Int),(j:Int),()),i,())∈dR fs:=by
 unfold dR;rw[BA k fs 0 hx];refine akD _ (List.mem_append_left _ ?_);unfold qF;rw[List.mem_map];refine⟨(i,j),?_,by simp⟩
 rw[List.mem_iff_getElem?];exact⟨j,by rw[Ym,hj];simp⟩
theorem oN{fs:List FD}{fn:Int} (h:0≤fn∧fn < fs.length):∃x,fs[fn.toNat]?=some x∧codeF fs fn=x.2.1:=by
 have hl:fn.toNat < fs.length:=by omega
 refine⟨fs[fn.toNat],l7 hl,?_⟩;unfold codeF;rw[H8,l7 hl];rfl
theorem xk{vs:List VD}{ms cs:List ByteArray}{fs:List FD}{ts:List SD} (h:(aB vs ms cs fs ts).1=0){fn pc:Int}{i:ID} (hf:0≤fn∧fn < fs.length) (hi:lH fs fn pc=some i):wI vs ms cs fs i (codeF fs fn).length=0:=by
 obtain⟨c1,c2,c3⟩:=nJ h;obtain⟨x,hx,ex⟩:=oN hf;unfold lH at hi;rw[ex]at hi ⊢;have:=am6 c2 _ (ahx hx hi)
 rwa [IZ hx]at this
theorem mY{vs:List VD}{ms cs:List ByteArray}{fs:List FD}{i:ID}{m:Int} (h:wI vs ms cs fs i m=0):rX i=0∧(0≤pK vs ms cs fs i.1→0≤i.2.2.2.2.1∧i.2.2.2.2.1 < pK vs ms cs fs i.1)∧(i.1=18→0≤i.2.2.2.2.2.1∧i.2.2.2.2.2.1 < ms.length)∧(i.1=4∨i.1=5→0≤i.2.2.2.2.2.1∧i.2.2.2.2.2.1≤m):=by
 unfold wI ciS at h;split at h
 ·rename_i q;exact absurd h q
 split at h
 ·cases h
 split at h
 ·cases h
 split at h
 ·cases h
 ·rename_i q1 q2 q3 q4;refine⟨GU.1 q1,λh0=>?_,λh0=>?_,λh0=>?_⟩
  ·omega
  ·omega
  ·omega
theorem Aa{rg:List Int}{a:Nat}{v:Int} (h:∀k < 8,∀r,rg[k]?=some r→bV r=true) (hv:bV v=true):∀k < 8,∀r,(rg.set a v)[k]?=some r→bV r=true:=by
 intro k hk r hr;rw[List.getElem?_set]at hr;split at hr
 ·split at hr
  ·cases hr;exact hv
  ·cases hr
 ·exact h k hk r hr
theorem acj{rg:List Int}{b:Int} (h:∀k < 8,∀r,rg[k]?=some r→bV r=true) (hb:0≤b∧b < 8):bV (rg.getD b.toNat 0)=true:=by
 rw[H8];cases hq:rg[b.toNat]? with
 | none=>rfl
 | some r=>exact h _ (by omega) r hq
theorem ahy(f a b:Int):bV (dP f a b).1=true:=by
 have:=RG f a b;unfold bV;simpa using this
theorem UG{pc:Int}{n:Nat} (h:0≤pc) (h2:pc.toNat < n):0≤pc+1∧pc+1≤(n:Int):=by omega
theorem akn{fs:List FD}{fn pc:Int}{i:ID} (h:lH fs fn pc=some i):pc.toNat < (codeF fs fn).length:=(eU.1 h).1
theorem acn{ms:List ByteArray}{fs:List FD}{bound id fn pc st ch ph su fa:Int}{rg hd:List Int}{u:Unit}{i:ID} (h:bG ms fs bound (id,fn,pc,rg,st,ch,ph,su,fa,hd,u)) (hi:lH fs fn pc=some i) (hv:jf i.1=false):ph=0:=by
 rcases h.2.2.2.2.2.2.2.2 with e | ⟨_,j,hj,h18,_⟩
 ·exact e
 ·rw[hi]at hj;cases hj;rw[h18]at hv;cases hv
theorem ahz{ms:List ByteArray}{fs:List FD}{bound id fn pc st ch ph su fa:Int}{rg hd:List Int}{u:Unit} (h:bG ms fs bound (id,fn,pc,rg,st,ch,ph,su,fa,hd,u)) (hi:lH fs fn pc=none):ph=0:=by
 rcases h.2.2.2.2.2.2.2.2 with e | ⟨_,j,hj,h18,_⟩
 ·exact e
 ·rw[hi]at hj;cases hj
theorem yw{vs:List VD}{ms cs:List ByteArray}{fs:List FD}{ts:List SD} (hc:(aB vs ms cs fs ts).1=0){bound:Int}{t:TD}{i:ID} (h:bG ms fs bound t) (hi:lH fs t.2.1 t.2.2.1=some i) (hv:jf i.1=false):bG ms fs bound (dW t i).1:=by
 obtain⟨id,fn,pc,rg,st,ch,ph,su,fa,hd,u⟩:=t;obtain⟨op,a,b,c,obj,n,f,ord,u2⟩:=i;have hi:lH fs fn pc=some (op,a,b,c,obj,n,f,ord,u2):=hi;have hp:=acn h hi hv;have iO:=akn hi;obtain⟨h1,h2,h3,h4,h5,h6,h7,h8,h9⟩:=h;have ok:=xk hc h2 hi;obtain⟨k1,k2,k3,k4⟩:=mY ok;obtain⟨r1,r2,r3,r4⟩:=kH k1;have k4:op=4∨op=5→0≤n∧n≤((codeF fs fn).length:Int):=k4;have hpc:=UG h3.1 iO;have key:∀(pc':Int) (DI:List Int) (Oz UH:Int),(0≤pc'∧pc'≤((codeF fs fn).length:Int))→(∀k < 8,∀r,DI[k]?=some r→bV r=true)→bG ms fs bound (id,fn,pc',DI,st,ch,ph,Oz,UH,hd,()):=
  λpc' DI Oz UH q1 q2=>⟨h1,h2,q1,q2,h5,h6,h7,h8,.inl hp⟩
 unfold dW;simp only;split
 ·rename_i e;exact key _ _ _ _ hpc (Aa h4 (anl k1 e))
 split
 ·exact key _ _ _ _ hpc (Aa h4 (acj h4 r2))
 split
 ·split
  ·exact key _ _ _ _ hpc (Aa h4 (ahy _ _ _))
  ·exact key _ _ _ _ hpc h4
 split
 ·rename_i e;exact key _ _ _ _ (k4 (.inl e)) h4
 split
 ·rename_i e;split
  ·exact key _ _ _ _ hpc h4
  ·exact key _ _ _ _ (k4 (.inr e)) h4
 split
 ·exact key _ _ _ _ h3 h4
 split
 ·exact key _ _ _ _ h3 h4
 ·exact key _ _ _ _ hpc h4
theorem Ac(t:TD) (i:ID):(dW t i).1.1=t.1∧(dW t i).1.2.1=t.2.1∧(dW t i).1.2.2.2.2.1=t.2.2.2.2.1∧(dW t i).1.2.2.2.2.2.1=t.2.2.2.2.2.1∧(dW t i).1.2.2.2.2.2.2.1=t.2.2.2.2.2.2.1∧(dW t i).1.2.2.2.2.2.2.2.2.2.1=t.2.2.2.2.2.2.2.2.2.1∧((dW t i).2=true→(dW t i).1.2.2.2.2.2.2.2.1=t.2.2.2.2.2.2.2.1∧(dW t i).1.2.2.2.2.2.2.2.2.1=t.2.2.2.2.2.2.2.2.1):=by
 obtain⟨id,fn,pc,rg,st,ch,ph,su,fa,hd,u⟩:=t;obtain⟨op,a,b,c,obj,n,f,ord,u2⟩:=i;unfold dW;simp only
 repeat' split
 all_goals simp
theorem XH(id ch ph:Int) (hd:List Int) (i:ID):iQ id ch ph hd i=0∨(ph=0∧(iQ id ch ph hd i=27∨iQ id ch ph hd i=28)):=by
 unfold iQ
 repeat' split
 all_goals first | exact .inl rfl | (right;constructor<;>first | omega | simp)
theorem top_vld{ms:List ByteArray}{fs:List FD}{bound:Int} (hb:1≤bound){rest:ID→TD}{id fn pc st ch ph:Int}{rg hd:List Int}{u:Unit} (h:bG ms fs bound (id,fn,pc,rg,st,ch,ph,1,0,hd,u))
 (hr:∀i,lH fs fn pc=some i→jf i.1=false→ph=0→qQ ms fs bound (rest i)):qQ ms fs bound (topS fs bound (id,fn,pc,rg,st,ch,ph,1,0,hd,u) rest):=by
 unfold topS;simp only;split
 ·rename_i hi;exact⟨h,.inr (.inl ⟨rfl,rfl,ahz h hi,λi q=>by rw[hi]at q;cases q⟩)⟩
 rename_i i hi;split
 ·rename_i hv;have ho:=XH id ch ph hd i;split
  ·rename_i e;refine⟨h,.inr (.inr ⟨rfl,by omega,i,hi,.inr (.inr ⟨by omega,by omega,by omega,rfl⟩)⟩)⟩
  ·rename_i e;have e:iQ id ch ph hd i=0:=by omega
   have hst:=h.2.2.2.2.1;split
   ·exact⟨h,.inl ⟨.inr ⟨rfl,by omega⟩,rfl,i,hi,hv,e⟩⟩
   ·exact⟨h,.inl ⟨.inl ⟨rfl,by omega⟩,rfl,i,hi,hv,e⟩⟩
 ·rename_i hv;have hv:jf i.1=false:=by simpa using hv
  exact hr i hi hv (acn h hi hv)
theorem UJ{vs:List VD}{ms cs:List ByteArray}{fs:List FD}{ts:List SD} (hc:(aB vs ms cs fs ts).1=0){bound:Int} (hb:1≤bound):∀(k:Nat) (t:TD),bG ms fs bound t→t.2.2.2.2.2.2.2.1=1→t.2.2.2.2.2.2.2.2.1=0→qQ ms fs bound (eF fs bound k t):=by
 intro k
 induction k with
 | zero=>
   rintro⟨id,fn,pc,rg,st,ch,ph,su,fa,hd,u⟩ h h1 h2;have h1:su=1:=h1;have h2:fa=0:=h2;subst h1;subst h2;rw[eF];refine top_vld hb h λi hi hv hp=>?_
   show qQ ms fs bound (id,fn,pc,rg,st,ch,ph,3,29,hd,());exact⟨h,.inr (.inr ⟨rfl,hp,i,hi,.inr (.inl ⟨rfl,hv⟩)⟩)⟩
 | succ k ih=>
   rintro⟨id,fn,pc,rg,st,ch,ph,su,fa,hd,u⟩ h h1 h2;have h1:su=1:=h1;have h2:fa=0:=h2;subst h1;subst h2;rw[eF];refine top_vld hb h λi hi hv hp=>?_
   have hf:=yw hc (t:=(id,fn,pc,rg,st,ch,ph,1,0,hd,u)) h hi hv;have hk:=Ac (id,fn,pc,rg,st,ch,ph,1,0,hd,u) i;split
   ·rename_i e;exact ih _ hf (hk.2.2.2.2.2.2 e).1 (hk.2.2.2.2.2.2 e).2
   ·rename_i e;obtain⟨op,a,b,c,obj,n,f,ord,u2⟩:=i;unfold dW at e ⊢;simp only at e ⊢
    by_cases n1:op=1
    ·rw[if_pos n1]at e;exact absurd rfl e
    rw[if_neg n1]at e ⊢
    by_cases n2:op=2
    ·rw[if_pos n2]at e;exact absurd rfl e
    rw[if_neg n2]at e ⊢
    by_cases n3:op=3
    ·rw[if_pos n3]at e;exact absurd rfl e
    rw[if_neg n3]at e ⊢
    by_cases n4:op=4
    ·rw[if_pos n4]at e;exact absurd rfl e
    rw[if_neg n4]at e ⊢
    by_cases n5:op=5
    ·rw[if_pos n5]at e;exact absurd rfl e
    rw[if_neg n5]at e ⊢
    by_cases n6:op=6∧rg.getD b.toNat 0=0
    ·rw[if_pos n6];exact⟨h,.inr (.inr ⟨rfl,hp,_,hi,.inl ⟨rfl,n6.1,n6.2⟩⟩)⟩
    rw[if_neg n6]at e ⊢
    by_cases n7:op=7
    ·rw[if_pos n7];exact⟨h,.inr (.inl ⟨rfl,rfl,hp,λj hj=>by rw[hi]at hj;cases hj;exact n7⟩)⟩
    rw[if_neg n7]at e;exact absurd rfl e
theorem top_keep{fs:List FD}{bound:Int}{t:TD}{rest:ID→TD} (hr:∀i,(rest i).1=t.1∧(rest i).2.1=t.2.1∧(rest i).2.2.2.2.1=t.2.2.2.2.1∧(rest i).2.2.2.2.2.2.2.2.2.1=t.2.2.2.2.2.2.2.2.2.1):
 (topS fs bound t rest).1=t.1∧(topS fs bound t rest).2.1=t.2.1∧(topS fs bound t rest).2.2.2.2.1=t.2.2.2.2.1∧(topS fs bound t rest).2.2.2.2.2.2.2.2.2.1=t.2.2.2.2.2.2.2.2.2.1:=by
 obtain⟨id,fn,pc,rg,st,ch,ph,su,fa,hd,u⟩:=t;unfold topS;simp only;split
 ·exact⟨rfl,rfl,rfl,rfl⟩
 split
 ·repeat' split
  all_goals exact⟨rfl,rfl,rfl,rfl⟩
 ·exact hr _
theorem OA(fs:List FD) (bound:Int):∀(k:Nat) (t:TD),(eF fs bound k t).1=t.1∧(eF fs bound k t).2.1=t.2.1∧(eF fs bound k t).2.2.2.2.1=t.2.2.2.2.1∧(eF fs bound k t).2.2.2.2.2.2.2.2.2.1=t.2.2.2.2.2.2.2.2.2.1:=by
 intro k
 induction k with
 | zero=>
   intro t;rw[eF];exact top_keep λi=>⟨rfl,rfl,rfl,rfl⟩
 | succ k ih=>
   intro t;rw[eF];refine top_keep λi=>?_
   have hk:=Ac t i;have:=ih (dW t i).1;split
   ·exact⟨this.1.trans hk.1,this.2.1.trans hk.2.1,this.2.2.1.trans hk.2.2.1,this.2.2.2.trans hk.2.2.2.2.2.1⟩
   ·exact⟨hk.1,hk.2.1,hk.2.2.1,hk.2.2.2.2.2.1⟩
def jl(l o:List Int) (b:Bool):List Int:=l.filter λx=>dM o x == b
def yx(l:List Int) (x:Int):List Int:=jl (aX l) [x] false
def uK(l:List Int) (x:Int):List Int:=aX (l++[x])
theorem RI(l:List Int) (x:Int):SS (yx l x):=List.Pairwise.filter _ (oG l)
theorem KU{l:List Int}{x y:Int}:y∈yx l x↔y∈l∧y≠x:=by
 unfold yx jl;rw[List.mem_filter,pJ];have:(dM [x] y == false)=true↔y≠x:=by
  rw[GX,pI,Ye]
 rw[this]
theorem UK{l:List Int}{x y:Int}:y∈uK l x↔y∈l∨y=x:=by
 unfold uK;rw[pJ];simp
theorem yA{l:List Int}{n:Int} (h:SS l):l.filter (λx=>decide (x≠n))=yx l n:=by
 refine yh (List.Pairwise.filter _ h) (RI _ _) λx=>?_
 rw[KU,List.mem_filter];simp
def zT:TD:=(0,0,0,[0,0,0,0,0,0,0,0],0,0,0,0,0,[],())
def jP:TD→ID→Int→TD
 | (id,fn,pc,rg,st,ch,ph,su,fa,hd,_),i,result=>
   if i.1=18 then
    (if ph=0 then(id,fn,pc,if(jh i).2=true then rg.set (jh i).1.toNat result else rg,st+1,ch,1,su,fa,yx hd i.2.2.2.2.2.1,())
     else if ph=1 then(id,fn,pc,if(jh i).2=true then rg.set (jh i).1.toNat result else rg,st+1,ch,2,su,fa,hd,())
     else(id,fn,pc+1,if(jh i).2=true then rg.set (jh i).1.toNat result else rg,st+1,ch,0,su,fa,uK hd i.2.2.2.2.2.1,()))
   else(id,fn,pc+1,if(jh i).2=true then rg.set (jh i).1.toNat result else rg,st+1,if i.1=21 then ch+1 else ch,ph,su,fa,
    if i.1=15∨(i.1=17∧result≠0) then uK hd i.2.2.2.2.1 else if i.1=16 then yx hd i.2.2.2.2.1 else hd,())
theorem XI{vs:List VD}{ms cs:List ByteArray}{fs:List FD}{op:Int} (h:op=15∨op=16∨op=17):pK vs ms cs fs op=ms.length:=by
 unfold pK;rw[if_neg (by omega),if_pos h]
theorem yB{ms:List ByteArray}{fs:List FD}{bound:Int}{t:TD} (h:qQ ms fs bound t) (h1:t.2.2.2.2.2.2.2.1=1):t.2.2.2.2.2.2.2.2.1=0∧t.2.2.2.2.1 < bound∧∃i,lH fs t.2.1 t.2.2.1=some i∧jf i.1=true∧iQ t.1 t.2.2.2.2.2.1 t.2.2.2.2.2.2.1 t.2.2.2.2.2.2.2.2.2.1 i=0:=by
 obtain⟨id,fn,pc,rg,st,ch,ph,su,fa,hd,u⟩:=t;have h1:su=1:=h1;subst h1;obtain⟨hf,q | q | q⟩:=h
 ·obtain⟨q1,q2,i,hi,hv,ho⟩:=q;rcases q1 with⟨_,q1⟩ | ⟨q1,_⟩
  ·exact⟨q2,q1,i,hi,hv,ho⟩
  ·exact absurd q1 (by decide)
 ·exact absurd q.1 (by decide)
 ·exact absurd q.1 (by decide)
theorem yC{vs:List VD}{ms cs:List ByteArray}{fs:List FD}{ts:List SD} (hc:(aB vs ms cs fs ts).1=0){bound:Int}{t:TD} (h:qQ ms fs bound t) (h1:t.2.2.2.2.2.2.2.1=1){i:ID} (hi:lH fs t.2.1 t.2.2.1=some i){result:Int} (hv:bV result=true):bG ms fs bound (jP t i result):=by
 obtain⟨f0,s0,j,hj,vj,oj⟩:=yB h h1;rw[hi]at hj;cases hj;obtain⟨id,fn,pc,rg,st,ch,ph,su,fa,hd,u⟩:=t;have hf:bG ms fs bound (id,fn,pc,rg,st,ch,ph,su,fa,hd,u):=h.1;have hi:lH fs fn pc=some i:=hi;have s0:st < bound:=s0;have oj:iQ id ch ph hd i=0:=oj;have iO:=akn hi;obtain⟨a1,a2,a3,a4,a5,a6,a7,a8,a9⟩:=hf;obtain⟨k1,k2,k3,k4⟩:=mY (xk hc a2 hi);have hpc:=UG a3.1 iO;have hst:0≤st+1∧st+1≤bound:=⟨Int.add_nonneg a5.1 (by decide),s0⟩
 have hrg:∀k < 8,∀r,(if(jh i).2=true then rg.set (jh i).1.toNat result else rg)[k]?=some r→bV r=true:=by
  split
  ·exact Aa a4 hv
  ·exact a4
 have anm:∀x,SS (yx hd x)∧∀m∈yx hd x,0≤m∧m < (ms.length:Int):=λx=>⟨RI _ _,λm hm=>a8 m (KU.1 hm).1⟩
 have hadd:∀x,0≤x∧x < (ms.length:Int)→SS (uK hd x)∧∀m∈uK hd x,0≤m∧m < (ms.length:Int):=λx hx=>⟨oG _,λm hm=>by
  rcases UK.1 hm with q | q
  ·exact a8 m q
  ·subst q;exact hx⟩
 unfold jP;simp only;split
 ·rename_i e;split
  ·rename_i e0;subst e0;refine⟨a1,a2,a3,hrg,hst,a6,(anm _).1,(anm _).2,.inr ⟨.inl rfl,i,hi,e,?_⟩⟩;rw[pI];exact λq=>(KU.1 q).2 rfl
  rename_i n0;have a10:=a9.resolve_left n0;split
  ·exact⟨a1,a2,a3,hrg,hst,a6,a7,a8,.inr ⟨.inr rfl,a10.2⟩⟩
  ·exact⟨a1,a2,hpc,hrg,hst,a6,(hadd _ (k3 e)).1,(hadd _ (k3 e)).2,.inl rfl⟩
 ·rename_i e;have e0:ph=0:=by
   rcases a9 with q | ⟨_,j,hj,q,_⟩
   ·exact q
   ·rw[hi]at hj;cases hj;exact absurd q e
  subst e0;have hch:0≤(if i.1=21 then ch+1 else ch)∧(if i.1=21 then ch+1 else ch)≤7∧(aU id=4→(if i.1=21 then ch+1 else ch)=0):=by
   split
   ·rename_i e21;have:(dB id ch).2=true:=by
     unfold iQ at oj;rw[if_neg (by simp),if_neg e,if_neg (by omega),if_pos e21]at oj
     by_cases q:(dB id ch).2=true
     ·exact q
     ·rw[if_neg q]at oj;cases oj
    unfold dB at this;split at this
    ·cases this
    ·rename_i q;omega
   ·exact a6
  refine⟨a1,a2,hpc,hrg,hst,hch,?_,?_,.inl rfl⟩
  ·split
   ·exact oG _
   split
   ·exact RI _ _
   ·exact a7
  ·split
   ·rename_i q;have ho:=XI (vs:=vs) (ms:=ms) (cs:=cs) (fs:=fs) (op:=i.1) (by omega)
    rw[ho]at k2;exact(hadd _ (k2 (by omega))).2
   split
   ·exact(anm _).2
   ·exact a8
theorem aco(t:TD) (i:ID) (r:Int):(jP t i r).1=t.1∧(jP t i r).2.1=t.2.1∧(jP t i r).2.2.2.2.1=t.2.2.2.2.1+1∧(jP t i r).2.2.2.2.2.2.2.1=t.2.2.2.2.2.2.2.1∧(jP t i r).2.2.2.2.2.2.2.2.1=t.2.2.2.2.2.2.2.2.1:=by
 obtain⟨id,fn,pc,rg,st,ch,ph,su,fa,hd,u⟩:=t;unfold jP;simp only
 repeat' split
 all_goals simp
def bM(e bound:Int):Int:=if e≠0 then e else if bound < 1∨32 < bound then 2 else 0
theorem fM{e bound:Int}:bM e bound=0↔e=0∧1≤bound∧bound≤32:=by
 unfold bM;constructor
 ·intro h;split at h
  ·rename_i q;exact absurd h q
  ·rename_i q;split at h
   ·cases h
   ·omega
 ·rintro⟨h1,h2,h3⟩;rw[if_neg (by omega),if_neg (by omega)]
def newS(e:Int) (fs:List FD) (bound id fn arg:Int):TD×Int:=
 if bM e bound≠0 then(zT,bM e bound) else if aU id < 0 then(zT,2) else if fn < 0∨(fs.length:Int)≤fn then(zT,11) else if bV arg=false then(zT,2)
 else(eF fs bound 256 (id,fn,0,[arg,0,0,0,0,0,0,0],0,0,0,1,0,[],()),0)
theorem yD(ms:List ByteArray){fs:List FD}{bound id fn arg:Int} (hb:1≤bound) (h1:¬aU id < 0) (h2:¬(fn < 0∨(fs.length:Int)≤fn)) (h3:¬bV arg=false):bG ms fs bound (id,fn,0,[arg,0,0,0,0,0,0,0],0,0,0,1,0,[],()):=by
 refine⟨by omega,by omega,by omega,λk hk r hr=>?_,by omega,⟨by omega,by omega,λ_=>rfl⟩,List.Pairwise.nil,λm hm=>(nomatch hm),.inl rfl⟩
 match k,hr with
 | 0,hr=>cases hr;simpa using h3
 | k+1,hr=>
   have:r=0:=by
    have:=iF (show[(0:Int),0,0,0,0,0,0][k]?=some r by simpa using hr)
    simpa using this
   rw[this];rfl
open Classical in
def iJ(e:Int) (ms:List ByteArray) (fs:List FD) (t:TD):ID×Bool:=
 if e=0∧t.2.2.2.2.2.2.2.1=1∧qQ ms fs 32 t then atR fs t.2.1 t.2.2.1 else((0,0,0,0,0,0,0,0,()),false)
open Classical in
def gY(e:Int) (ms:List ByteArray) (fs:List FD) (bound:Int) (t:TD) (result:Int):TD×Int:=
 if bM e bound≠0 then(zT,bM e bound) else if¬qQ ms fs bound t then(zT,1) else if t.2.2.2.2.2.2.2.1≠1 then(zT,30) else if bV result=false then(zT,2)
 else(eF fs bound 256 (jP t (atR fs t.2.1 t.2.2.1).1 result),0)
end
end Go.Proofs.YtjhenjhcbcalpaaGreatDoor
