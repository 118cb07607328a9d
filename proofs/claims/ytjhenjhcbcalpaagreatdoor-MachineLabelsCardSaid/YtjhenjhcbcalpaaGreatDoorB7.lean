/- Part 7 of the proof. Conditions: the rows'. -/
import Derived.Test.YtjhenjhcbcalpaaGreatDoorB6
set_option linter.unusedSimpArgs false
set_option linter.unusedVariables false
set_option maxRecDepth 1000000
set_option maxHeartbeats 8000000
namespace Go.Proofs.YtjhenjhcbcalpaaGreatDoor
open Go Go.jl
noncomputable section
variable {i:ID}{l rg:List Int}{k:Nat}{vs:List VD}{ms cs:List ByteArray}{fs:List FD}{d:bT [lS,lG]}{ts:List SD}{m y id ch pc bound:Int}
def Hg(s:ByteArray) (i:Nat):Int:=match s[i]? with | some u=>(u.toNat:Int) | none=>0
theorem Jp{s:ByteArray}{i:Nat}{u:UInt8} (h:s[i]?=some u):Hg s i=u.toNat:=by simp[Hg,h]
def okB(c:Int):Bool:=sF c || decide (c=95) || decide (48<=c/\c<=57)
def dK(s:ByteArray):Bool:=decide (1<=s.size/\s.size<=16) && sF (Hg s 0) && (List.range s.size).all λi=>okB (Hg s i)
abbrev anC:CT:={ ps:=[.str],pre:=λd=>True,res:=λd=>([],vB (dK d.1)) }
abbrev ajU(s:ByteArray):Nat->Option (St->jq):=λk=>match k with
 | 4=>some λ_=>.inv { α:=Nat,slots:=λk=>[(20,.c (.v (.int .i64 k)))],res:=λk=>[],inv:=λk=>k<=((List.range s.size)).length/\∀j < k,okB (Hg s j)=true,meas:=λk=>((List.range s.size)).length - k }
 | _=>none
theorem aeK(s:ByteArray):
 let z5:=(s.size:Int) < (1:Int);let z3:=!(decide z5 || decide (16 < (s.size:Int)));let z6:=List.range s.size;let z2:=λ(x:Nat)=>(x<=z6.length/\∀(j:Nat),j < x->okB (Hg s j)=true);let z4:=λ(u u_1:UInt8)=>!sF (u.toNat:Int) && !decide ((u_1.toNat:Int)=(95:Int));let z1:=λ(u_2 u u_1:UInt8)=>!decide ((u_2.toNat:Int) < (48:Int)) && (z4 u u_1);(z3=true->(0:Int)<=(0:Int)/\0 < (s.size:Int))/\∀(u:UInt8),(z3=true->s[0]?=some u)->(z3=true->True)/\br (decide z5 || decide (16 < (s.size:Int)) || !sF (u.toNat:Int)) (qB (dK s) false) ((∃x,(z2 x)/\(cI 0=cI (x:Int)/\True)/\([]:List dJ)=[])/\∀(x:Nat),(z2 x)->br (decide ((x:Int) < (s.size:Int))) ((0<=(x:Int)/\(x:Int) < (s.size:Int))/\∀(u:UInt8),s[(x:Int).toNat]?=some u->True/\((!sF (u.toNat:Int))=true->0<=(x:Int)/\(x:Int) < (s.size:Int))/\∀(u_1:UInt8),((!sF (u.toNat:Int))=true->s[(x:Int).toNat]?=some u_1)->((z4 u u_1)=true->0<=(x:Int)/\(x:Int) < (s.size:Int))/\∀(u_2:UInt8),((z4 u u_1)=true->s[(x:Int).toNat]?=some u_2)->((z1 u_2 u u_1)=true->0<=(x:Int)/\(x:Int) < (s.size:Int))/\∀(u_3:UInt8),((z1 u_2 u u_1)=true->s[(x:Int).toNat]?=some u_3)->br (!sF (u.toNat:Int) && !decide ((u_1.toNat:Int)=(95:Int)) && (decide ((u_2.toNat:Int) < (48:Int)) || decide (57 < (u_3.toNat:Int)))) (qB (dK s) false) (iR ((x:Int)+(1:Int))/\∃x',(z2 x')/\(cI ((x:Int)+(1:Int))=cI (x':Int)/\True)/\([]:List dJ)=[]/\z6.length - x' < z6.length - x)) (qB (dK s) true)):=by
 conv=>zeta
 delta dJ cI qB iR;have hs2:(!(decide ((s.size:Int) < (1:Int)) || decide ((16:Int) < (s.size:Int))))=true↔(1<=s.size/\s.size<=16):=by
  simp only[Dc,lX,eH];omega
 refine⟨λh=>by have:=hs2.1 h;omega,λu hu=>⟨λ_=>trivial,ah.2 ⟨λh=>⟨rfl,?_⟩,λh=>?_⟩⟩⟩
 .have:dK s=false:=by
   unfold dK
   by_cases hs:1<=s.size/\s.size<=16
   .have e:=Jp (hu (hs2.2 hs));simp only[wz,dH,Dc]at h;have h0:sF (Hg s 0)=false:=by
     rw[e];rcases h with(h | h) | h
     .omega
     .omega
     .exact h
    rw[h0];simp
   .rw[yh hs];rfl
  rw[this]
 .simp only[lX,eH,wR]at h;obtain⟨⟨h1,h2⟩,h3⟩:=h;have hs:1<=s.size/\s.size<=16:=by omega
  have e:=Jp (hu (hs2.2 hs));have hl:(List.range s.size).length=s.size:=List.length_range;rw[hl];refine⟨⟨0,⟨by omega,λj hj=>by omega⟩,⟨rfl,trivial⟩,rfl⟩,λk hk=>ah.2 ⟨λh=>?_,λh=>?_⟩⟩
  .simp only[dH]at h;have hN:(k:Int).toNat=k:=by omega
   rw[hN];refine⟨by omega,λv hv=>⟨trivial,λ_=>by omega,λv1 hv1=>⟨λ_=>by omega,λv2 hv2=>⟨λ_=>by omega,λv3 hv3=>?_⟩⟩⟩⟩
   have ev:=Jp hv;have bad:okB (Hg s k)=false->dK s=false:=by
    intro hb;unfold dK;have:((List.range s.size).all λi=>okB (Hg s i))=false:=by
     rw[List.all_eq_false];exact⟨k,by simp;omega,by rw[hb];simp⟩
    rw[this];simp
   have fin:okB (Hg s k)=true->(mP IntKind.i64 ((k:Int)+1)/\∃x',(x'<=s.size/\∀(j:Nat),j < x'->okB (Hg s j)=true)/\(SV.c (SC.v (Value.int IntKind.i64 ((k:Int)+1)))=SV.c (SC.v (Value.int IntKind.i64 (x':Int)))/\True)/\([]:List (Go.jl.Gd×Go.jl.ay))=[]/\s.size - x' < s.size - k):=λho=>
    ⟨ak.2 (by omega),k+1,⟨by omega,λj hj=>by
     by_cases gQ:j=k
     .rw[gQ];exact ho
     .exact hk.2 j (by omega)⟩,⟨rfl,trivial⟩,rfl,by omega⟩
   cases hA:sF (v.toNat:Int) with
   | true=>
     refine ah.2 ⟨λh=>by simp at h,λ_=>fin ?_⟩
     rw[ev];unfold okB;rw[hA];rfl
   | false=>
     have hv1:=hv1 (by rw[hA];rfl)
     rw[hv]at hv1;cases hv1
     by_cases h95:(v.toNat:Int)=95
     .refine ah.2 ⟨λh=>by simp[h95]at h,λ_=>fin ?_⟩
      rw[ev];unfold okB;simp[h95]
     .have hd95:decide ((v.toNat:Int)=95)=false:=yh h95;have hv2:=hv2 (by rw[hA,hd95];rfl)
      rw[hv]at hv2;cases hv2
      by_cases h48:(v.toNat:Int) < 48
      .refine ah.2 ⟨λ_=>⟨rfl,?_⟩,λh=>by simp[h95,h48]at h⟩
       rw[bad (by rw[ev];unfold okB;rw[hA,hd95];simp;omega)]
      .have apw:decide ((v.toNat:Int) < 48)=false:=yh h48;have hv3:=hv3 (by rw[hA,hd95,apw];rfl)
       rw[hv]at hv3;cases hv3
       by_cases h57:57 < (v.toNat:Int)
       .refine ah.2 ⟨λ_=>⟨rfl,?_⟩,λh=>by simp[h95,h57]at h⟩
        rw[bad (by rw[ev];unfold okB;rw[hA,hd95];simp;omega)]
       .refine ah.2 ⟨λh=>by simp[h95,h48,h57]at h,λ_=>fin ?_⟩
        rw[ev];unfold okB;rw[hA,hd95];simp;omega
  .simp only[eH]at h;have:dK s=true:=by
    unfold dK;rw[wV hs,e,h3];simp only[FB];rw[Nz];intro i hi;simp at hi;exact hk.2 i (by omega)
   rw[this];exact⟨rfl,rfl⟩
theorem ZA:aT aS.gd 208 anC:=
 jD (cx:=aS) (n:=47) (cl:=[(214,ahm)]) au ⟨Zr,trivial⟩ Tryz.func208 λd hd=>by
  obtain⟨s,⟨⟩⟩:=d;exact⟨ajU s,cast (by kernel_rfl) (aeK s)⟩
def gJ(l:List ByteArray):Int×Int:=match(List.range l.length).find? (λi=>!dK (l.getD i ⟨#[]⟩) || tY (l.take i) (l.getD i ⟨#[]⟩)) with
 | some i=>(if dK (l.getD i ⟨#[]⟩) then 7 else 6,i)
 | none=>(0,-1)
theorem vT{l:List ByteArray} (hk:k < l.length) (h:∀j < k,dK (l.getD j ⟨#[]⟩)=true/\tY (l.take j) (l.getD j ⟨#[]⟩)=false) (hf:dK (l.getD k ⟨#[]⟩)=false\/tY (l.take k) (l.getD k ⟨#[]⟩)=true):
 gJ l=(if dK (l.getD k ⟨#[]⟩) then 7 else 6,(k:Int)):=by
 unfold gJ;rw[show(List.range l.length).find? (λi=>!dK (l.getD i ⟨#[]⟩) || tY (l.take i) (l.getD i ⟨#[]⟩))=some k from List.find?_range_eq_some.2 ⟨by rcases hf with hf | hf<;>rw[hf]<;>simp,by simpa using hk,λj hj=>by obtain⟨a,b⟩:=h j hj;rw[a,b];rfl⟩]
theorem MB{l:List ByteArray} (h:∀j < l.length,dK (l.getD j ⟨#[]⟩)=true/\tY (l.take j) (l.getD j ⟨#[]⟩)=false):gJ l=(0,-1):=by
 unfold gJ;rw[show(List.range l.length).find? (λi=>!dK (l.getD i ⟨#[]⟩) || tY (l.take i) (l.getD i ⟨#[]⟩))=none from A90.2 λi hi=>by
  obtain⟨a,b⟩:=h i (by simpa using hi)
  rw[a,b];simp]
abbrev ZB:CT:={ ps:=[.sl .str],pre:=λd=>d.1.length<=1000000,res:=λd=>([],.iq [.c (.v (.int .i64 (gJ d.1).1)),.c (.v (.int .i64 (gJ d.1).2))]) }
abbrev ajV(l:List ByteArray):Nat->Option (St->jq):=λk=>match k with
 | 2=>some λ_=>.inv { α:=Nat,slots:=λk=>[(8,.c (.v (.int .i64 k)))],res:=λk=>[],inv:=λk=>k<=(l).length/\∀j < k,dK (l.getD j ⟨#[]⟩)=true/\tY (l.take j) (l.getD j ⟨#[]⟩)=false,meas:=λk=>(l).length - k }
 | _=>none
theorem aeL(l:List ByteArray) (aF:ZB.pre (l,())):
 let z1:=λ(x:Nat)=>(x<=l.length/\∀(j:Nat),j < x->dK (l.getD j { data:=#[]:ByteArray })=true/\tY (List.take j l) (l.getD j { data:=#[]:ByteArray })=false);let z2:=[cI ((gJ l).fst),cI ((gJ l).snd)];(∃x,(z1 x)/\(cI 0=cI (x:Int)/\True)/\([]:List dJ)=[])/\∀(x:Nat),(z1 x)->br (decide ((x:Int) < (l.length:Int))) ((0<=(x:Int)/\(x:Int) < (l.length:Int))/\∀(d:ByteArray),l[(x:Int).toNat]?=some d->True/\br (!dK d) (rT z2 [cI 6,cI (x:Int)]) (((0:Int)<=(0:Int)/\0<=(x:Int)/\(x:Int)<=(l.length:Int))/\(List.drop 0 (List.take (x:Int).toNat l)).length<=1000000/\br (tY (List.drop 0 (List.take (x:Int).toNat l)) d) (rT z2 [cI 7,cI (x:Int)]) (iR ((x:Int)+(1:Int))/\∃x',(z1 x')/\(cI ((x:Int)+(1:Int))=cI (x':Int)/\True)/\([]:List dJ)=[]/\l.length - x' < l.length - x))) (rT z2 [cI 0,cI (-1)]):=by
 conv=>zeta
 delta dJ cI rT iR;have hp:l.length<=1000000:=aF;refine⟨⟨0,⟨by omega,λj hj=>by omega⟩,⟨rfl,trivial⟩,rfl⟩,λk hk=>ah.2 ⟨λh=>?_,λh=>?_⟩⟩
 .simp only[dH]at h;have hN:(k:Int).toNat=k:=by omega
  rw[hN];refine⟨by omega,λd hd=>?_⟩
  have hg:l.getD k ⟨#[]⟩=d:=by rw[J7,hd];rfl
  refine⟨trivial,ah.2 ⟨λh2=>⟨rfl,?_⟩,λh2=>⟨⟨by omega,by omega,by omega⟩,by simp;omega,ah.2 ⟨λh3=>⟨rfl,?_⟩,λh3=>⟨ak.2 (by omega),k+1,⟨by omega,λj hj=>?_⟩,⟨rfl,trivial⟩,rfl,by omega⟩⟩⟩⟩⟩
  .have h2:dK d=false:=by simpa using h2
   rw[vT (by omega) hk.2 (.inl (by rw[hg];exact h2)),hg,h2];rfl
  .have h2:dK d=true:=by simpa using h2
   have h3:tY (l.take k) d=true:=by simpa using h3
   rw[vT (by omega) hk.2 (.inr (by rw[hg];exact h3)),hg,h2];rfl
  .by_cases gQ:j=k
   .subst gQ;rw[hg];exact⟨by simpa using h2,by simpa using h3⟩
   .exact hk.2 j (by omega)
 .simp only[eH]at h;rw[MB λj hj=>hk.2 j (by omega)];exact⟨rfl,rfl⟩
theorem ZC:aT aS.gd 184 ZB:=
 jD (cx:=aS) (n:=24) (cl:=[(208,anC),(209,PE)]) au ⟨ZA,Zz,trivial⟩ Tryz.func184 λd hd=>by
  obtain⟨l,⟨⟩⟩:=d;exact⟨ajV l,cast (by kernel_rfl) (aeL l hd)⟩
def ciS(vs:List VD) (ms cs:List ByteArray) (fs:List FD) (e op obj n m:Int):Int:=if e≠0 then e else if 0<=oO vs ms cs fs op/\(obj < 0\/oO vs ms cs fs op<=obj) then 11 else if op=18/\(n < 0\/(ms.length:Int)<=n) then 11 else if(op=4\/op=5)/\(n < 0\/m < n) then 12 else 0
abbrev tZ(i:ID):Int:=qw i.1 i.2.1 i.2.2.1 i.2.2.2.1 i.2.2.2.2.1 i.2.2.2.2.2.1 i.2.2.2.2.2.2.1 i.2.2.2.2.2.2.2.1
abbrev vU(vs:List VD) (ms cs:List ByteArray) (fs:List FD) (i:ID) (m:Int):Int:=ciS vs ms cs fs (tZ i) i.1 i.2.2.2.2.1 i.2.2.2.2.2.1 m
abbrev anD:CT:={ ps:=[o7,lG,.int .i64],pre:=λd=>True,res:=λd=>([],.one (.c (.v (.int .i64 (vU d.1.1 d.1.2.1 d.1.2.2.1 d.1.2.2.2.1 d.2.1 d.2.2.1))))) }
theorem aeM(vs:List VD) (ms cs:List ByteArray) (fs:List FD) (ts:List SD) (op a b c obj n fn ord m:Int):
 let z3:=qw op a b c obj n fn ord;let z2:=ciS vs ms cs fs z3 op obj n m;let z1:=qI z2 (11:Int);True/\br (!decide (qw op a b c obj n fn ord=0)) (qI z2 z3) (True/\br (decide (0<=oO vs ms cs fs op) && (decide (obj < 0) || decide (oO vs ms cs fs op<=obj))) z1 (br (decide (op=18) && (decide (n < 0) || decide ((ms.length:Int)<=n))) z1 (br ((decide (op=4) || decide (op=5)) && (decide (n < 0) || decide (m < n))) (qI z2 (12:Int)) (qI z2 (0:Int))))):=by
 conv=>zeta
 delta qI;generalize qw op a b c obj n fn ord=e;unfold ciS;generalize oO vs ms cs fs op=o;refine⟨trivial,ah.2 ⟨λh=>⟨rfl,?_⟩,λh=>⟨trivial,ah.2 ⟨λh2=>⟨rfl,?_⟩,λh2=>ah.2 ⟨λh3=>⟨rfl,?_⟩,λh3=>ah.2 ⟨λh4=>⟨rfl,?_⟩,λh4=>⟨rfl,?_⟩⟩⟩⟩⟩⟩⟩
 all_goals simp only[Dc,wR,bV,wz,A70,lX,dH,eH]at *
 all_goals (congr 4;(repeat' split)<;>first | rfl | omega | (exfalso;omega))
theorem ZE:aT aS.gd 190 anD:=
 jD (cx:=aS) (n:=66) (cl:=[(168,ajB),(211,ahn)]) au ⟨LX,Zu,trivial⟩ Tryz.func190 λd hd=>by
  obtain⟨⟨vs,ms,cs,fs,ts,⟨⟩⟩,⟨op,a,b,c,obj,n,fn,ord,⟨⟩⟩,m,⟨⟩⟩:=d;exact⟨λ_=>none,cast (by kernel_rfl) (aeM vs ms cs fs ts op a b c obj n fn ord m)⟩
def BM(vs:List VD) (ms cs:List ByteArray) (fs:List FD):Int×Int×Int:=
 if(gJ (gY vs)).1≠0 then((gJ (gY vs)).1,-1,-1) else if(gJ ms).1≠0 then((gJ ms).1,-1,-1) else if(gJ cs).1≠0 then((gJ cs).1,-1,-1) else((gJ (ji fs)).1,(gJ (ji fs)).2,-1)
theorem ajW{d:List ByteArray} (hd:[gY vs,ms,cs][k]?=some d) (h:(gJ d).1≠0) (hn:∀j < k,∀x,[gY vs,ms,cs][j]?=some x->(gJ x).1=0):
 BM vs ms cs fs=((gJ d).1,-1,-1):=by
 unfold BM
 match k,hd,hn with
 | 0,hd,hn=>simp at hd;subst hd;rw[if_pos h]
 | 1,hd,hn=>
   simp at hd;subst hd;have h0:=hn 0 (by omega) (gY vs) rfl
   rw[if_neg (by rw[h0];simp),if_pos h]
 | 2,hd,hn=>
   simp at hd;subst hd;have h0:=hn 0 (by omega) (gY vs) rfl
   have h1:=hn 1 (by omega) ms rfl
   rw[if_neg (by rw[h0];simp),if_neg (by rw[h1];simp),if_pos h]
 | k+3,hd,hn=>simp at hd
theorem anE(hn:∀(j:Nat) x,[gY vs,ms,cs][j]?=some x->(gJ x).1=0):BM vs ms cs fs=((gJ (ji fs)).1,(gJ (ji fs)).2,-1):=by
 unfold BM;have h0:=hn 0 (gY vs) rfl;have h1:=hn 1 ms rfl;have h2:=hn 2 cs rfl;rw[if_neg (by rw[h0];simp),if_neg (by rw[h1];simp),if_neg (by rw[h2];simp)]
abbrev ajX:CT:={ ps:=[o7],pre:=λd=>d.1.1.length<=1000000/\d.1.2.1.length<=1000000/\d.1.2.2.1.length<=1000000/\d.1.2.2.2.1.length<=1000000,res:=λd=>([],.iq [.c (.v (.int .i64 ((BM d.1.1 d.1.2.1 d.1.2.2.1 d.1.2.2.2.1).1))),.agg [.v (.int .i64 ((BM d.1.1 d.1.2.1 d.1.2.2.1 d.1.2.2.2.1).2.1)),.v (.int .i64 ((BM d.1.1 d.1.2.1 d.1.2.2.1 d.1.2.2.2.1).2.2))]]) }
abbrev ajY(vs:List VD) (ms cs:List ByteArray) (fs:List FD) (ts:List SD):Nat->Option (St->jq):=λk=>match k with
 | 2=>some λ_=>.inv { α:=Nat,slots:=λk=>[(18,.c (.v (.int .i64 k)))],res:=λk=>[],inv:=λk=>k<=([gY vs,ms,cs]).length/\∀j < k,∀x,[gY vs,ms,cs][j]?=some x->(gJ x).1=0,meas:=λk=>([gY vs,ms,cs]).length - k }
 | _=>none
abbrev AB:=[v6 (-1),v6 (-1)]
theorem aeN(vs:List VD) (ms cs:List ByteArray) (fs:List FD) (ts:List SD) (aF:ajX.pre ((vs,ms,cs,fs,ts,()),())):
 let z3:=[gY vs,ms,cs];let z1:=[g0 (ay.blk 27 [SC.sl EM vs,SC.sl Sh.str ms,SC.sl Sh.str cs,SC.sl Bq fs,SC.sl lS ts]),g0 (ay.blk 162 [v6 0,v6 0]),g0 ay.gone,g0 (ay.row 23 Sh.str.sl z3)];let z4:=BM vs ms cs fs;let z2:=[cI (z4.fst),SV.agg [v6 (z4.snd.fst),v6 (z4.snd.snd)]];vs.length<=1000000/\(∃x,(x<=z3.length/\∀(j:Nat),j < x->∀(x:List ByteArray),z3[j]?=some x->(gJ x).fst=0)/\(cI 0=cI (x:Int)/\True)/\sm z1)/\∀(x:Nat),(x<=z3.length/\∀(j:Nat),j < x->∀(x:List ByteArray),z3[j]?=some x->(gJ x).fst=0)->br (decide ((x:Int) < (z3.length:Int))) ((0<=(x:Int)/\(x:Int) < (z3.length:Int))/\(x:Int).toNat < z3.length/\∀(d:List ByteArray),z3[(x:Int).toNat]?=some d->d.length<=1000000/\br (!decide ((gJ d).fst=0)) (rT z2 [cI ((gJ d).fst),SV.agg AB]) (iR ((x:Int)+(1:Int))/\∃x',(x'<=z3.length/\∀(j:Nat),j < x'->∀(x:List ByteArray),z3[j]?=some x->(gJ x).fst=0)/\(cI ((x:Int)+(1:Int))=cI (x':Int)/\True)/\sm z1/\z3.length - x' < z3.length - x)) (fs.length<=1000000/\(ji fs).length<=1000000/\rT z2 [cI ((gJ (ji fs)).fst),SV.agg [v6 ((gJ (ji fs)).snd),v6 (-1)]]):=by
 conv=>zeta
 delta AB v6 cI g0 rT sm I6 iR;obtain⟨hp1,hp2,hp3,hp4⟩:vs.length<=1000000/\ms.length<=1000000/\cs.length<=1000000/\fs.length<=1000000:=aF;refine⟨hp1,?_⟩;refine⟨⟨0,⟨by omega,λj hj=>by omega⟩,⟨rfl,trivial⟩,rfl⟩,λk hk=>ah.2 ⟨λh=>?_,λh=>?_⟩⟩
 .have h3:k < 3:=by simp at h;omega
  have h:k < [gY vs,ms,cs].length:=h3;have hN:(k:Int).toNat=k:=by omega
  rw[hN];refine⟨⟨by omega,by omega⟩,h,λd hd=>⟨?_,ah.2 ⟨λh2=>⟨rfl,?_⟩,λh2=>⟨ak.2 (by omega),k+1,⟨by omega,λj hj x hx=>?_⟩,⟨rfl,trivial⟩,rfl,by omega⟩⟩⟩⟩
  .have:d∈[gY vs,ms,cs]:=ig hd;simp only[mY,List.not_mem_nil,or_false]at this;rcases this with rfl | rfl | rfl
   .simpa[gY]using hp1
   .exact hp2
   .exact hp3
  .rw[ajW hd (by simpa using h2) hk.2]
  .by_cases gQ:j=k
   .subst gQ;rw[hd]at hx;cases hx;simpa using h2
   .exact hk.2 j (by omega) x hx
 .have h:¬k < [gY vs,ms,cs].length:=by
   have:¬k < 3:=by simp at h;omega
   exact this
  refine⟨hp4,by simpa[ji]using hp4,rfl,?_⟩
  rw[anE λj x hx=>hk.2 j (by have:=(A8.1 hx).1;omega) x hx]
theorem ZF:aT aS.gd 143 ajX:=
 jD (cx:=aS) (n:=41) (cl:=[(183,Pv),(184,ZB),(185,Px)]) au ⟨Zv,ZC,Zw,trivial⟩ Tryz.func143 λd hd=>by
  obtain⟨⟨vs,ms,cs,fs,ts,⟨⟩⟩,⟨⟩⟩:=d;exact⟨ajY vs ms cs fs ts,cast (by kernel_rfl) (aeN vs ms cs fs ts hd)⟩
def zV(vs:List VD) (ms cs:List ByteArray) (fs:List FD):Int:=if 8 < vs.length\/4 < ms.length\/4 < cs.length\/8 < fs.length then 4 else if vs.all λv=>bU v.2.1 then 0 else 2
abbrev anF:CT:={ ps:=[o7],pre:=λd=>True,res:=λd=>([],.iq [.c (.v (.int .i64 (zV d.1.1 d.1.2.1 d.1.2.2.1 d.1.2.2.2.1))),.agg [.v (.int .i64 (-1)),.v (.int .i64 (-1))]]) }
abbrev ajZ(vs:List VD) (ms cs:List ByteArray) (fs:List FD) (ts:List SD):Nat->Option (St->jq):=λk=>match k with
 | 5=>some λ_=>.inv { α:=Nat,slots:=λk=>[(34,.c (.v (.int .i64 k)))],res:=λk=>[],inv:=λk=>k<=(vs).length/\∀j < k,∀v,vs[j]?=some v->bU v.2.1=true,meas:=λk=>(vs).length - k }
 | _=>none
abbrev kq9:=[cI 0,SV.agg [v6 (-1),v6 (-1)]]
theorem aeO(vs:List VD) (ms cs:List ByteArray) (fs:List FD) (ts:List SD):
 let z3:=[cI (zV vs ms cs fs),SV.agg AB];let z2:=λ(x:Nat)=>(x<=vs.length/\∀(j:Nat),j < x->∀(v:ByteArray×Int×Unit),vs[j]?=some v->bU v.snd.fst=true);let z1:=[g0 (ay.blk 27 [SC.sl EM vs,SC.sl Sh.str ms,SC.sl Sh.str cs,SC.sl Bq fs,SC.sl lS ts]),g0 (ay.blk 162 [v6 0,v6 0]),g0 (ay.blk 162 AB)];br (decide (8 < (vs.length:Int)) || decide (4 < (ms.length:Int)) || decide (4 < (cs.length:Int)) || decide (8 < (fs.length:Int))) (rT z3 [cI 4,SV.agg AB]) ((∃x,(z2 x)/\(cI 0=cI (x:Int)/\True)/\sm z1)/\∀(x:Nat),(z2 x)->br (decide ((x:Int) < (vs.length:Int))) ((0<=(x:Int)/\(x:Int) < (vs.length:Int))/\∀(d:ByteArray×(I6.pair Sh.unit).den),vs[(x:Int).toNat]?=some d->True/\br (!bU (d.snd.fst,()).fst) (rT z3 [cI 2,SV.agg AB]) (iR ((x:Int)+(1:Int))/\∃x',(z2 x')/\(cI ((x:Int)+(1:Int))=cI (x':Int)/\True)/\sm z1/\vs.length - x' < vs.length - x)) (rT z3 kq9)):=by
 conv=>zeta
 delta AB kq9 v6 cI g0 rT sm I6 iR
 by_cases hc:8 < vs.length\/4 < ms.length\/4 < cs.length\/8 < fs.length
 .have e:zV vs ms cs fs=4:=by unfold zV;rw[if_pos hc]
  rw[e];refine ah.2 ⟨λ_=>⟨rfl,rfl⟩,λh=>?_⟩
  simp only[lX,eH]at h;omega
 refine ah.2 ⟨λh=>?_,λh=>⟨⟨0,⟨by omega,λj hj=>by omega⟩,⟨rfl,trivial⟩,rfl⟩,λk hk=>ah.2 ⟨λh2=>?_,λh2=>?_⟩⟩⟩
 .simp only[wz,dH]at h;omega
 .simp only[dH]at h2;have hN:(k:Int).toNat=k:=by omega
  rw[hN];refine⟨by omega,λd hd=>⟨trivial,ah.2 ⟨λh3=>⟨rfl,?_⟩,λh3=>⟨ak.2 (by omega),k+1,⟨by omega,λj hj v hv=>?_⟩,⟨rfl,trivial⟩,rfl,by omega⟩⟩⟩⟩
  .have h3:bU d.2.1=false:=by simpa using h3
   have e:zV vs ms cs fs=2:=by
    unfold zV;rw[if_neg hc,if_neg];intro hh;rw[Nz]at hh;have:=hh d (ig hd);rw[h3]at this;cases this
   rw[e]
  .have h3:bU d.2.1=true:=by simpa using h3
   by_cases gQ:j=k
   .subst gQ;rw[hd]at hv;cases hv;exact h3
   .exact hk.2 j (by omega) v hv
 .simp only[eH]at h2;have e:zV vs ms cs fs=0:=by
   unfold zV;rw[if_neg hc,if_pos];rw[Nz];intro v hv;obtain⟨j,hj⟩:=yg hv;exact hk.2 j (by have:=(A8.1 hj).1;omega) v hj
  rw[e];exact⟨rfl,rfl⟩
theorem ZG:aT aS.gd 144 anF:=
 jD (cx:=aS) (n:=45) (cl:=[(186,Zt)]) au ⟨Md,trivial⟩ Tryz.func144 λd hd=>by
  obtain⟨⟨vs,ms,cs,fs,ts,⟨⟩⟩,⟨⟩⟩:=d;exact⟨ajZ vs ms cs fs ts,cast (by kernel_rfl) (aeO vs ms cs fs ts)⟩
def CO(n:Nat) (t:SD):Int:=if t.1 < 0\/(n:Int)<=t.1 then 11 else if bU t.2.1 then 0 else 2
def CP(fs:List FD) (ts:List SD):Int:=if ts.length < 1\/8 < ts.length then 4 else match ts.find? (λt=>decide (CO fs.length t≠0)) with | some t=>CO fs.length t | none=>0
theorem xQ{α:Type}{l:List α}{p:α->Bool}{d:α} (hd:l[k]?=some d) (hp:p d=true) (hn:∀j < k,∀t,l[j]?=some t->p t=false):l.find? p=some d:=by
 induction l generalizing k with
 | nil=>simp at hd
 | cons x l ih=>
   cases k with
   | zero=>simp at hd;subst hd;simp[hp]
   | succ k=>
     have h0:=hn 0 (by omega) x (by simp)
     rw[List.find?_cons,h0];exact ih (by simpa using hd) λj hj t ht=>hn (j+1) (by omega) t (by simpa using ht)
theorem Rq{α:Type}{l:List α}{p:α->Bool} (hn:∀(j:Nat) t,l[j]?=some t->p t=false):l.find? p=none:=by
 rw[A90];intro x hx;obtain⟨j,hj⟩:=yg hx;rw[hn j x hj];simp
theorem zy{d:SD} (hc:¬(ts.length < 1\/8 < ts.length)) (hd:ts[k]?=some d) (h:CO fs.length d≠0) (hn:∀j < k,∀t,ts[j]?=some t->CO fs.length t=0):CP fs ts=CO fs.length d:=by
 unfold CP;rw[if_neg hc,xQ hd (by simpa using h) λj hj t ht=>by simpa using hn j hj t ht]
theorem Rt(hc:¬(ts.length < 1\/8 < ts.length)) (hn:∀(j:Nat) t,ts[j]?=some t->CO fs.length t=0):CP fs ts=0:=by
 unfold CP;rw[if_neg hc,Rq λj t ht=>by simpa using hn j t ht]
abbrev anH:CT:={ ps:=[o7],pre:=λd=>True,res:=λd=>([],.iq [.c (.v (.int .i64 (CP d.1.2.2.2.1 d.1.2.2.2.2.1))),.agg [.v (.int .i64 (-1)),.v (.int .i64 (-1))]]) }
abbrev aj0(vs:List VD) (ms cs:List ByteArray) (fs:List FD) (ts:List SD):Nat->Option (St->jq):=λk=>match k with
 | 5=>some λ_=>.inv { α:=Nat,slots:=λk=>[(22,.c (.v (.int .i64 k)))],res:=λk=>[],inv:=λk=>k<=(ts).length/\∀j < k,∀t,ts[j]?=some t->CO fs.length t=0,meas:=λk=>(ts).length - k }
 | _=>none
theorem aeP(vs:List VD) (ms cs:List ByteArray) (fs:List FD) (ts:List SD):
 let z3:=[cI (CP fs ts),SV.agg AB];let z2:=λ(x:Nat)=>(x<=ts.length/\∀(j:Nat),j < x->∀(t:Int×Int×Unit),ts[j]?=some t->CO fs.length t=0);let z1:=[g0 (ay.blk 27 [SC.sl EM vs,SC.sl Sh.str ms,SC.sl Sh.str cs,SC.sl Bq fs,SC.sl lS ts]),g0 (ay.blk 162 [v6 0,v6 0]),g0 (ay.blk 162 AB)];br (decide ((ts.length:Int) < (1:Int)) || decide (8 < (ts.length:Int))) (rT z3 [cI 4,SV.agg AB]) ((∃x,(z2 x)/\(cI 0=cI (x:Int)/\True)/\sm z1)/\∀(x:Nat),(z2 x)->br (decide ((x:Int) < (ts.length:Int))) ((0<=(x:Int)/\(x:Int) < (ts.length:Int))/\∀(d:Int×(I6.pair Sh.unit).den),ts[(x:Int).toNat]?=some d->br (decide (d.fst < 0) || decide ((fs.length:Int)<=d.fst)) (rT z3 [cI 11,SV.agg AB]) (True/\br (!bU (d.snd.fst,()).fst) (rT z3 [cI 2,SV.agg AB]) (iR ((x:Int)+(1:Int))/\∃x',(z2 x')/\(cI ((x:Int)+(1:Int))=cI (x':Int)/\True)/\sm z1/\ts.length - x' < ts.length - x))) (rT z3 kq9)):=by
 conv=>zeta
 delta AB kq9 v6 cI g0 rT sm I6 iR
 by_cases hc:ts.length < 1\/8 < ts.length
 .have e:CP fs ts=4:=by unfold CP;rw[if_pos hc]
  rw[e];refine ah.2 ⟨λ_=>⟨rfl,rfl⟩,λh=>?_⟩
  simp only[lX,eH]at h;omega
 refine ah.2 ⟨λh=>?_,λh=>⟨⟨0,⟨by omega,λj hj=>by omega⟩,⟨rfl,trivial⟩,rfl⟩,λk hk=>ah.2 ⟨λh2=>?_,λh2=>?_⟩⟩⟩
 .simp only[wz,dH]at h;omega
 .simp only[dH]at h2;have hN:(k:Int).toNat=k:=by omega
  rw[hN];refine⟨by omega,λd hd=>ah.2 ⟨λh3=>⟨rfl,?_⟩,λh3=>⟨trivial,ah.2 ⟨λh4=>⟨rfl,?_⟩,λh4=>⟨ak.2 (by omega),k+1,⟨by omega,λj hj v hv=>?_⟩,⟨rfl,trivial⟩,rfl,by omega⟩⟩⟩⟩⟩
  .have h3:d.1 < 0\/(fs.length:Int)<=d.1:=by simpa using h3
   have e:CO fs.length d=11:=by unfold CO;rw[if_pos h3]
   rw[zy hc hd (by rw[e];simp) hk.2,e]
  .have h3:¬(d.1 < 0\/(fs.length:Int)<=d.1):=by simpa using h3
   have h4:bU d.2.1=false:=by simpa using h4
   have e:CO fs.length d=2:=by unfold CO;rw[if_neg h3,if_neg (by rw[h4];simp)]
   rw[zy hc hd (by rw[e];simp) hk.2,e]
  .have h3:¬(d.1 < 0\/(fs.length:Int)<=d.1):=by simpa using h3
   have h4:bU d.2.1=true:=by simpa using h4
   by_cases gQ:j=k
   .subst gQ;rw[hd]at hv;cases hv;unfold CO;rw[if_neg h3,if_pos h4]
   .exact hk.2 j (by omega) v hv
 .simp only[eH]at h2;rw[Rt hc λj t hj=>hk.2 j (by have:=(A8.1 hj).1;omega) t hj];exact⟨rfl,rfl⟩
theorem ZH:aT aS.gd 146 anH:=
 jD (cx:=aS) (n:=45) (cl:=[(186,Zt)]) au ⟨Md,trivial⟩ Tryz.func146 λd hd=>by
  obtain⟨⟨vs,ms,cs,fs,ts,⟨⟩⟩,⟨⟩⟩:=d;exact⟨aj0 vs ms cs fs ts,cast (by kernel_rfl) (aeP vs ms cs fs ts)⟩
abbrev ZI:CT:={ ps:=[Bq],pre:=λd=>True,res:=λd=>([],vB (decide (64 < d.1.2.1.length))) }
theorem aeQ(nm:ByteArray) (l:List ID):
 qB (decide (64 < l.length)) (decide (64 < (l.length:Int))):=by
 delta qB;refine⟨rfl,?_⟩
 congr 4
 rw[Fz];simp only[dH];omega
theorem ZJ:aT aS.gd 188 ZI:=
 jD (cx:=aS) (n:=7) (cl:=[]) au trivial Tryz.func188 λd hd=>by
  obtain⟨⟨nm,l,⟨⟩⟩,⟨⟩⟩:=d;exact⟨λ_=>none,cast (by kernel_rfl) (aeQ nm l)⟩
def dL(fs:List FD):Int:=match fs.findIdx? (λf=>decide (64 < f.2.1.length)) with | some k=>(k:Int) | none=>-1
theorem EN{d:FD} (hd:fs[k]?=some d) (h2:64 < d.2.1.length) (hn:∀j < k,∀f,fs[j]?=some f->f.2.1.length<=64):dL fs=k:=by
 have iO:k < fs.length:=(A8.1 hd).1;have:fs.findIdx? (λf=>decide (64 < f.2.1.length))=some k:=by
  rw[A50];refine⟨iO,by rw[(A8.1 hd).2];simpa using h2,λj hj=>?_⟩
  have:=hn j hj fs[j] (lK (by omega))
  simpa using this
 simp[dL,this]
theorem AL(hn:∀(j:Nat) f,fs[j]?=some f->f.2.1.length<=64):dL fs = -1:=by
 have:fs.findIdx? (λf=>decide (64 < f.2.1.length))=none:=by
  rw[A73];intro y hy;obtain⟨j,hj⟩:=yg hy;simpa using hn j y hj
 simp[dL,this]
abbrev Jq:CT:={ ps:=[.sl Bq],pre:=λd=>d.1.length<=1000000,res:=λd=>([],.one (.c (.v (.int .i64 (dL d.1))))) }
abbrev aj1(fs:List FD):Nat->Option (St->jq):=λk=>match k with
 | 2=>some λ_=>.inv { α:=Nat,slots:=λk=>[(8,.c (.v (.int .i64 k)))],res:=λk=>[],inv:=λk=>k<=(fs).length/\∀j < k,∀f,fs[j]?=some f->f.2.1.length<=64,meas:=λk=>(fs).length - k }
 | _=>none
theorem aeR(fs:List FD) (aF:Jq.pre (fs,())):
 let z1:=λ(x:Nat)=>(x<=fs.length/\∀(j:Nat),j < x->∀(f:ByteArray×List ID×Unit),fs[j]?=some f->f.snd.fst.length<=64);(∃x,(z1 x)/\(cI 0=cI (x:Int)/\True)/\([]:List dJ)=[])/\∀(x:Nat),(z1 x)->br (decide ((x:Int) < (fs.length:Int))) ((0<=(x:Int)/\(x:Int) < (fs.length:Int))/\∀(d:ByteArray×(lG.sl.pair Sh.unit).den),fs[(x:Int).toNat]?=some d->True/\br (decide (64 < List.length (d.snd.fst,()).fst)) (qI (dL fs) (x:Int)) (iR ((x:Int)+(1:Int))/\∃x',(z1 x')/\(cI ((x:Int)+(1:Int))=cI (x':Int)/\True)/\([]:List dJ)=[]/\fs.length - x' < fs.length - x)) (qI (dL fs) (-1:Int)):=by
 conv=>zeta
 delta dJ cI qI I6 iR;have hp:fs.length<=1000000:=aF;refine⟨⟨0,⟨by omega,λj hj=>by omega⟩,⟨rfl,trivial⟩,rfl⟩,λk hk=>ah.2 ⟨λh=>?_,λh=>?_⟩⟩
 .simp only[dH]at h;have hN:(k:Int).toNat=k:=by omega
  rw[hN];refine⟨by omega,λd hd=>⟨trivial,ah.2 ⟨λh2=>⟨rfl,?_⟩,λh2=>⟨ak.2 (by omega),k+1,⟨by omega,λj hj f hf=>?_⟩,⟨rfl,trivial⟩,rfl,by omega⟩⟩⟩⟩
  .have h2:64 < d.2.1.length:=by simpa using h2
   rw[EN hd h2 hk.2]
  .have h2:¬64 < d.2.1.length:=by simpa using h2
   by_cases gQ:j=k
   .subst gQ;rw[hd]at hf;cases hf;omega
   .exact hk.2 j (by omega) f hf
 .simp only[eH]at h;rw[AL λj f hf=>hk.2 j (by have:=(A8.1 hf).1;omega) f hf];exact⟨rfl,rfl⟩
theorem Vm:Jf Tryz.prog aS.gd 187 [.func (.func 188) #[] #[]] Jq:=
 (nR (cx:=aS) (n:=19) (cl:=[(188,ZI)]) (il:=Zl) (hl:=hlN) (ml:=mlN) (rc:=[]) (lits:=[]) (suf:=[.func (.func 188) #[] #[]]) (by kernel_rfl) au ⟨ZJ,trivial⟩ trivial trivial trivial Tryz.func187 (by kernel_rfl) (by kernel_rfl) rfl (by kernel_rfl) (by kernel_rfl) (by simp) λd hd=>by
  obtain⟨fs,⟨⟩⟩:=d;exact⟨aj1 fs,cast (by kernel_rfl) (aeR fs hd)⟩)
def Jr(vs:List VD) (ms cs:List ByteArray) (fs:List FD) (d:bT [lS,lG]):Int:=vU vs ms cs fs d.2.1 (((fs.getD d.1.1.toNat (⟨#[]⟩,[],())).2.1.length:Nat):Int)
def EO(vs:List VD) (ms cs:List ByteArray) (fs:List FD):Int×Int×Int:=match(dN fs).find? (λd=>decide (d.1.1=dL fs) || decide (Jr vs ms cs fs d≠0)) with
 | some d=>if d.1.1=dL fs then(4,dL fs,-1) else(Jr vs ms cs fs d,d.1.1,d.1.2.1)
 | none=>if 0<=dL fs then(4,dL fs,-1) else(0,-1,-1)
theorem Ru{e:FD} (he:fs[d.1.1.toNat]?=some e):Jr vs ms cs fs d=vU vs ms cs fs d.2.1 (e.2.1.length:Int):=by
 unfold Jr;rw[J7,he];rfl
theorem vV:∀(l:List FD) (n:Nat){d:bT [lS,lG]},d∈jK n l->∃(k:Nat) (x:FD) (j:Nat) (e:ID),l[k]?=some x/\x.2.1[j]?=some e/\d=((((n+k:Nat):Int),(j:Int),()),e,())
 | [],n,d,h=>by simp[jK]at h
 | x :: l,n,d,h=>by
   simp only[jK,Fv]at h;rcases h with h | h
   .unfold qg at h;obtain⟨p,hp,rfl⟩:=List.mem_map.1 h;have:=List.mk_mem_zipIdx_iff_getElem?.1 (show(p.1,p.2)∈x.2.1.zipIdx from hp)
    exact⟨0,x,p.2,p.1,rfl,this,rfl⟩
   .obtain⟨k,y,j,e,h1,h2,rfl⟩:=vV l (n+1) h;exact⟨k+1,y,j,e,by simpa using h1,h2,by rw[show n+1+k=n+(k+1) by omega]⟩
theorem MC{i:Nat} (hd:(dN fs)[i]?=some d):0<=d.1.1/\d.1.1 < fs.length:=by
 obtain⟨k,x,j,e,h1,h2,rfl⟩:=vV fs 0 (ig hd);have:=(A8.1 h1).1;show 0<=((0+k:Nat):Int)/\((0+k:Nat):Int) < _;omega
theorem Rw{i:Nat} (hd:(dN fs)[i]?=some d) (hb:d.1.1=dL fs\/Jr vs ms cs fs d≠0)
 (hn:∀j < i,∀d,(dN fs)[j]?=some d->d.1.1≠dL fs/\Jr vs ms cs fs d=0):EO vs ms cs fs=if d.1.1=dL fs then(4,dL fs,-1) else(Jr vs ms cs fs d,d.1.1,d.1.2.1):=by
 unfold EO;rw[xQ hd (by simpa using hb) λj hj t ht=>by obtain⟨a,b⟩:=hn j hj t ht;simp[a,b]]
theorem PG(hn:∀(j:Nat) d,(dN fs)[j]?=some d->d.1.1≠dL fs/\Jr vs ms cs fs d=0):EO vs ms cs fs=if 0<=dL fs then(4,dL fs,-1) else(0,-1,-1):=by
 unfold EO;rw[Rq λj t ht=>by obtain⟨a,b⟩:=hn j t ht;simp[a,b]]
abbrev aj2:CT:={ ps:=[o7],pre:=λd=>d.1.2.2.2.1.length<=1000000/\∀x∈d.1.2.2.2.1,x.2.1.length<=1000000,res:=λd=>([],.iq [.c (.v (.int .i64 ((EO d.1.1 d.1.2.1 d.1.2.2.1 d.1.2.2.2.1).1))),.agg [.v (.int .i64 ((EO d.1.1 d.1.2.1 d.1.2.2.1 d.1.2.2.2.1).2.1)),.v (.int .i64 ((EO d.1.1 d.1.2.1 d.1.2.2.1 d.1.2.2.2.1).2.2))]]) }
abbrev aj3(vs:List VD) (ms cs:List ByteArray) (fs:List FD) (ts:List SD):Nat->Option (St->jq):=λk=>match k with
 | 5=>some λ_=>.rng { α:=Nat,res:=λ_=>[],inv:=λi n=>n=i/\∀j < n,∀d,(dN fs)[j]?=some d->d.1.1≠dL fs/\Jr vs ms cs fs d=0 }
 | _=>none
abbrev anI:List (Nat×Nat×CT):=[(187,188,Jq)]
theorem aeS(vs:List VD) (ms cs:List ByteArray) (fs:List FD) (ts:List SD) (aF:aj2.pre ((vs,ms,cs,fs,ts,()),())):
 let z5:=[g0 (ay.blk 27 [SC.sl EM vs,SC.sl Sh.str ms,SC.sl Sh.str cs,SC.sl Bq fs,SC.sl lS ts]),g0 (ay.blk 38 [v6 0]),g0 (ay.blk 162 [v6 0,v6 0]),g0 (ay.blk 3 [v6 (dL fs)])];let z11:=EO vs ms cs fs;let z9:=[cI (z11.fst),SV.agg [v6 (z11.snd.fst),v6 (z11.snd.snd)]];let z10:=[cI 4,SV.agg [v6 (dL fs),v6 (-1)]];let z3:=((rT z9 z10)/\rT z9 z10)/\rT z9 z10;let z8:=rT z9 kq9;let z4:=λ(d:lS.den×bT [I6.pair (I6.pair (I6.pair (I6.pair (I6.pair (I6.pair lS)))))])=>(d.snd.fst.fst,d.snd.fst.snd.fst,d.snd.fst.snd.snd.fst,d.snd.fst.snd.snd.snd.fst,d.snd.fst.snd.snd.snd.snd.fst,d.snd.fst.snd.snd.snd.snd.snd.fst,d.snd.fst.snd.snd.snd.snd.snd.snd.fst,d.snd.fst.snd.snd.snd.snd.snd.snd.snd.fst,());let z6:=λ(d:lS.den×bT [I6.pair (I6.pair (I6.pair (I6.pair (I6.pair (I6.pair lS)))))])=>(d.snd.fst.snd.snd.snd.snd.fst,d.snd.fst.snd.snd.snd.snd.snd.fst,d.snd.fst.snd.snd.snd.snd.snd.snd.fst,d.snd.fst.snd.snd.snd.snd.snd.snd.snd.fst,());let z7:=λ(d:lS.den×bT [I6.pair (I6.pair (I6.pair (I6.pair (I6.pair (I6.pair lS)))))])=>(d.snd.fst.snd.snd.snd.snd.snd.fst,d.snd.fst.snd.snd.snd.snd.snd.snd.fst,d.snd.fst.snd.snd.snd.snd.snd.snd.snd.fst,());let z2:=λ(d:lS.den×bT [I6.pair (I6.pair (I6.pair (I6.pair (I6.pair (I6.pair lS)))))])=>qw (z4 d).fst (d.snd.fst.snd.fst,d.snd.fst.snd.snd.fst,d.snd.fst.snd.snd.snd.fst,d.snd.fst.snd.snd.snd.snd.fst,d.snd.fst.snd.snd.snd.snd.snd.fst,d.snd.fst.snd.snd.snd.snd.snd.snd.fst,d.snd.fst.snd.snd.snd.snd.snd.snd.snd.fst,()).fst (d.snd.fst.snd.snd.fst,d.snd.fst.snd.snd.snd.fst,d.snd.fst.snd.snd.snd.snd.fst,d.snd.fst.snd.snd.snd.snd.snd.fst,d.snd.fst.snd.snd.snd.snd.snd.snd.fst,d.snd.fst.snd.snd.snd.snd.snd.snd.snd.fst,()).fst (d.snd.fst.snd.snd.snd.fst,d.snd.fst.snd.snd.snd.snd.fst,d.snd.fst.snd.snd.snd.snd.snd.fst,d.snd.fst.snd.snd.snd.snd.snd.snd.fst,d.snd.fst.snd.snd.snd.snd.snd.snd.snd.fst,()).fst (z6 d).fst (z7 d).fst (d.snd.fst.snd.snd.snd.snd.snd.snd.fst,d.snd.fst.snd.snd.snd.snd.snd.snd.snd.fst,()).fst (d.snd.fst.snd.snd.snd.snd.snd.snd.snd.fst,()).fst;let z1:=λ(d:lS.den×bT [I6.pair (I6.pair (I6.pair (I6.pair (I6.pair (I6.pair lS)))))]) (dI:ByteArray×(lG.sl.pair Sh.unit).den)=>[cI (ciS vs ms cs fs (z2 d) (z4 d).fst (z6 d).fst (z7 d).fst ((List.length dI.snd.fst):Int)),SV.agg [v6 d.fst.fst,v6 d.fst.snd.fst]];fs.length<=1000000/\(fs.length<=1000000/\∀(x:ByteArray×(lG.sl.pair Sh.unit).den),x∈fs->List.length x.snd.fst<=1000000)/\some Tryz.prog=some Tryz.prog/\(∃x,(x=0/\∀(j:Nat),j < x->∀(d:lS.den×bT [I6.pair (I6.pair (I6.pair (I6.pair (I6.pair (I6.pair lS)))))]),(dN fs)[j]?=some d->d.fst.fst≠dL fs/\Jr vs ms cs fs d=0)/\sm z5)/\(∀(i x:Nat) (d:lS.den×bT [I6.pair (I6.pair (I6.pair (I6.pair (I6.pair (I6.pair lS)))))]),(x=i/\∀(j:Nat),j < x->∀(d:lS.den×bT [I6.pair (I6.pair (I6.pair (I6.pair (I6.pair (I6.pair lS)))))]),(dN fs)[j]?=some d->d.fst.fst≠dL fs/\Jr vs ms cs fs d=0)->(dN fs)[i]?=some d->br (decide (d.fst.fst=dL fs)) (br (decide (0<=dL fs)) z3 z8) ((0<=d.fst.fst/\d.fst.fst < (fs.length:Int))/\∀(dI:ByteArray×(lG.sl.pair Sh.unit).den),fs[Int.toNat d.fst.fst]?=some dI->True/\br (!decide (ciS vs ms cs fs (z2 d) (z4 d).fst (z6 d).fst (z7 d).fst ((List.length dI.snd.fst):Int)=(0:Int))) ((rT z9 (z1 d dI))/\rT z9 (z1 d dI)) (∃x',(x'=i+1/\∀(j:Nat),j < x'->∀(d:lS.den×bT [I6.pair (I6.pair (I6.pair (I6.pair (I6.pair (I6.pair lS)))))]),(dN fs)[j]?=some d->d.fst.fst≠dL fs/\Jr vs ms cs fs d=0)/\sm z5)))/\∀(x:Nat),(x=aQ (dN fs)/\∀(j:Nat),j < x->∀(d:lS.den×bT [I6.pair (I6.pair (I6.pair (I6.pair (I6.pair (I6.pair lS)))))]),(dN fs)[j]?=some d->d.fst.fst≠dL fs/\Jr vs ms cs fs d=0)->br (decide (0<=dL fs)) z3 z8:=by
 conv=>zeta
 delta v6 cI g0 rT sm I6;refine⟨aF.1,aF,rfl,⟨0,⟨rfl,λj hj=>by omega⟩,rfl⟩,λi x d hi hd=>?_,λx hx=>?_⟩
 .obtain⟨rfl,hi⟩:=hi;refine ah.2 ⟨λh=>?_,λh=>?_⟩
  .have h:d.1.1=dL fs:=by simpa using h
   obtain⟨hb1,hb2⟩:=MC hd;have hl:(0:Int)<=dL fs:=by rw[<-h];exact hb1
   rw[Rw hd (.inl h) hi,if_pos h];exact ah.2 ⟨λ_=>⟨⟨⟨rfl,rfl⟩,rfl,rfl⟩,rfl,rfl⟩,λhh=>absurd hl (TU hh)⟩
  .have h:¬d.1.1=dL fs:=by simpa using h
   obtain⟨hb1,hb2⟩:=MC hd;refine⟨⟨hb1,hb2⟩,λe he=>⟨trivial,ah.2 ⟨λh2=>?_,λh2=>⟨x+1,⟨rfl,λj hj d' hd'=>?_⟩,rfl⟩⟩⟩⟩
   .have h2:Jr vs ms cs fs d≠0:=by rw[Ru he];simpa using h2
    rw[Rw hd (.inr h2) hi,if_neg h,Ru he];exact⟨⟨rfl,rfl⟩,rfl,rfl⟩
   .by_cases hji:j=x
    .subst hji;rw[hd]at hd';cases hd';exact⟨h,by rw[Ru he];simpa using h2⟩
    .exact hi j (by omega) d' hd'
 .obtain⟨rfl,hx⟩:=hx;refine ah.2 ⟨λh=>?_,λh=>?_⟩
  .have h:(0:Int)<=dL fs:=by simpa using h
   rw[PG λj d hd=>hx j (by rw[bF];exact(A8.1 hd).1) d hd,if_pos h]
   exact⟨⟨⟨rfl,rfl⟩,rfl,rfl⟩,rfl,rfl⟩
  .have h:¬(0:Int)<=dL fs:=by simpa using h
   rw[PG λj d hd=>hx j (by rw[bF];exact(A8.1 hd).1) d hd,if_neg h]
   exact⟨rfl,rfl⟩
theorem ZK:aT aS.gd 145 aj2:=
 (nR (cx:=aS) (n:=39) (cl:=[(189,Jo),(190,anD)]) (il:=Zl) (hl:=anI) (ml:=mlN) (rc:=[]) (lits:=[]) (suf:=[]) (by kernel_rfl) au ⟨Zq,ZE,trivial⟩ trivial ⟨Vm,trivial⟩ trivial Tryz.func145 (by kernel_rfl) (by kernel_rfl) rfl (by kernel_rfl) (by kernel_rfl) (by simp) λd hd=>by
  obtain⟨⟨vs,ms,cs,fs,ts,⟨⟩⟩,⟨⟩⟩:=d;exact⟨aj3 vs ms cs fs ts,cast (by kernel_rfl) (aeS vs ms cs fs ts hd)⟩).met
abbrev bnd(d:bT [o7]):Prop:=d.1.1.length<=1000000/\d.1.2.1.length<=1000000/\d.1.2.2.1.length<=1000000/\d.1.2.2.2.1.length<=1000000/\d.1.2.2.2.2.1.length<=1000000/\(∀x∈d.1.2.2.2.1,x.2.1.length<=1000000)/\(dN d.1.2.2.2.1).length<=1000000
def aG(vs:List VD) (ms cs:List ByteArray) (fs:List FD) (ts:List SD):Int×Int×Int:=
 if(BM vs ms cs fs).1≠0 then BM vs ms cs fs else if zV vs ms cs fs≠0 then(zV vs ms cs fs,-1,-1) else if(EO vs ms cs fs).1≠0 then EO vs ms cs fs else if CP fs ts≠0 then(CP fs ts,-1,-1) else(0,-1,-1)
abbrev Hl:CT:={ ps:=[o7],pre:=λd=>bnd d,res:=λd=>([],.iq [.c (.v (.int .i64 (aG d.1.1 d.1.2.1 d.1.2.2.1 d.1.2.2.2.1 d.1.2.2.2.2.1).1)),.c (.v (.int .i64 (aG d.1.1 d.1.2.1 d.1.2.2.1 d.1.2.2.2.1 d.1.2.2.2.2.1).2.1)),.c (.v (.int .i64 (aG d.1.1 d.1.2.1 d.1.2.2.1 d.1.2.2.2.1 d.1.2.2.2.2.1).2.2))]) }
theorem aj6(vs:List VD) (ms cs:List ByteArray) (fs:List FD) (ts:List SD) (aF:Hl.pre ((vs,ms,cs,fs,ts,()),())):
 let z10:=BM vs ms cs fs;let z7:=z10.fst=0;let z5:=decide z7;let z6:=decide (zV vs ms cs fs=0);let z11:=EO vs ms cs fs;let z8:=z11.fst=0;let z9:=aG vs ms cs fs ts;let z4:=[cI (z9.fst),cI (z9.snd.fst),cI (z9.snd.snd)];let z3:=rT z4 [cI 0,cI (-1),cI (-1)];let z2:=True/\br (!decide (CP fs ts=0)) (rT z4 [cI (CP fs ts),cI (-1),cI (-1)]) z3;let z1:=(fs.length<=1000000/\∀(x:ByteArray×(lG.sl.pair Sh.unit).den),x∈fs->List.length x.snd.fst<=1000000)/\br (decide z8) z2 (br (!decide z8) (rT z4 [cI (z11.fst),cI (z11.snd.fst),cI (z11.snd.snd)]) z3);(vs.length<=1000000/\ms.length<=1000000/\cs.length<=1000000/\fs.length<=1000000)/\br z5 (True/\br z6 z1 (br z6 z2 (br (!decide (zV vs ms cs fs=0)) (rT z4 [cI (zV vs ms cs fs),cI (-1),cI (-1)]) z3))) (br z5 z1 (br z5 z2 (br (!decide z7) (rT z4 [cI (z10.fst),cI (z10.snd.fst),cI (z10.snd.snd)]) z3))):=by
 conv=>zeta
 delta cI rT I6;obtain⟨h1,h2,h3,h4,h5,h6,h7⟩:bnd ((vs,ms,cs,fs,ts,()),()):=aF;have hA:∀x∈fs,x.2.1.length<=1000000:=h6;have hB:fs.length<=1000000/\∀x∈fs,x.2.1.length<=1000000:=⟨h4,h6⟩;have hC:vs.length<=1000000/\ms.length<=1000000/\cs.length<=1000000/\fs.length<=1000000:=⟨h1,h2,h3,h4⟩;clear h1 h2 h3 h4 h5 h6 h7 hA;unfold aG;simp only[ah]
 repeat' (first | exact hB | exact hC | (refine And.intro ?_ ?_) | (intro _))
 all_goals first | trivial | rfl | (clear hB hC;simp_all;done)
theorem CQ:aT aS.gd 74 Hl:=
 jD (cx:=aS) (n:=40) (cl:=[(143,ajX),(144,anF),(145,aj2),(146,anH)]) au ⟨ZF,ZG,ZK,ZH,trivial⟩ Tryz.func74 λd hd=>by
  obtain⟨⟨vs,ms,cs,fs,ts,⟨⟩⟩,⟨⟩⟩:=d;exact⟨λ_=>none,cast (by kernel_rfl) (aj6 vs ms cs fs ts hd)⟩
abbrev ZL:CT:={ ps:=[o7],pre:=λd=>bnd d,res:=λd=>([],vB (decide ((aG d.1.1 d.1.2.1 d.1.2.2.1 d.1.2.2.2.1 d.1.2.2.2.2.1).1=0))) }
theorem ZM{hi:Int}:∀(l:List Int) (lo:Int),SS l->(∀x∈l,lo<=x/\x < hi)->lo<=hi->(l.length:Int)<=hi - lo
 | [],lo,_,_,h=>by simp;omega
 | x :: l,lo,hs,hb,h=>by
   obtain⟨h1,h2⟩:=A89.1 hs;obtain⟨b1,b2⟩:=hb x (by simp)
   have:=ZM l (x+1) h2 (λy hy=>⟨by have:=h1 y hy;omega,(hb y (by simp[hy])).2⟩) (by omega)
   simp only[wS];omega
theorem ZN{n:Nat} (hs:SS l) (hb:∀x∈l,0<=x/\x < (n:Int)):l.length<=n:=by
 have:=ZM l 0 hs hb (by omega)
 omega
theorem oP(h:(aG vs ms cs fs ts).1=0):zV vs ms cs fs=0/\(EO vs ms cs fs).1=0/\CP fs ts=0:=by
 unfold aG at h;split at h
 .rename_i h1;exact absurd h h1
 .split at h
  .rename_i h1;exact absurd h h1
  .split at h
   .rename_i h1;exact absurd h h1
   .split at h
    .rename_i h1;exact absurd h h1
    .rename_i h1 h2 h3 h4;exact⟨by omega,by omega,by omega⟩
theorem aj7(h:(EO vs ms cs fs).1=0):∀d∈dN fs,Jr vs ms cs fs d=0:=by
 unfold EO at h;split at h
 .rename_i d hd;have hp:=VY hd;split at h
  .cases h
  .rename_i h1;simp only[wz,dH]at hp;rcases hp with hp | hp
   .exact absurd hp h1
   .exact absurd h hp
 .rename_i hd;intro d hm;have:=A90.1 hd d hm;simp only[wz,dH,not_or]at this;omega
theorem aI{α:Type 1}{Q:α->Prop}{V:Prop} (a:α) (v:V) (h:V=Q a):∃a,Q a:=⟨a,cast h v⟩
def Vo(vs:List VD) (ms cs:List ByteArray) (fs:List FD) (ts:List SD):Bool:=decide (vs.length<=20/\ms.length<=20/\cs.length<=20/\fs.length<=20/\ts.length<=20) && fs.all λf=>decide (f.2.1.length<=100)
abbrev anJ:CT:={ ps:=[o7],pre:=λd=>True,res:=λd=>([],vB (Vo d.1.1 d.1.2.1 d.1.2.2.1 d.1.2.2.2.1 d.1.2.2.2.2.1)) }
abbrev anK(vs:List VD) (ms cs:List ByteArray) (fs:List FD) (ts:List SD):Nat->Option (St->jq):=λk=>match k with
 | 4=>some λ_=>.inv { α:=Nat,slots:=λk=>[(3,.c (.v (.int .i64 k)))],res:=λk=>[],inv:=λk=>k<=(fs).length/\∀j < k,∀f,fs[j]?=some f->f.2.1.length<=100,meas:=λk=>(fs).length - k }
 | _=>none
theorem aj8(vs:List VD) (ms cs:List ByteArray) (fs:List FD) (ts:List SD):
 let z3:=qB (Vo vs ms cs fs ts) false;let z1:=λ(x:Nat)=>(x<=fs.length/\∀(j:Nat),j < x->∀(f:ByteArray×List ID×Unit),fs[j]?=some f->f.snd.fst.length<=100);let z2:=[g0 (ay.blk 27 [SC.sl EM vs,SC.sl Sh.str ms,SC.sl Sh.str cs,SC.sl Bq fs,SC.sl lS ts])];br (decide (20 < (vs.length:Int)) || decide (20 < (ms.length:Int)) || decide (20 < (cs.length:Int)) || decide (20 < (fs.length:Int)) || decide (20 < (ts.length:Int))) z3 ((∃x,(z1 x)/\(cI 0=cI (x:Int)/\True)/\sm z2)/\∀(x:Nat),(z1 x)->br (decide ((x:Int) < (fs.length:Int))) ((0<=(x:Int)/\(x:Int) < (fs.length:Int))/\∀(d:ByteArray×(lG.sl.pair Sh.unit).den),fs[(x:Int).toNat]?=some d->br (decide (100 < ((List.length d.snd.fst):Int))) z3 (iR ((x:Int)+(1:Int))/\∃x',(z1 x')/\(cI ((x:Int)+(1:Int))=cI (x':Int)/\True)/\sm z2/\fs.length - x' < fs.length - x)) (qB (Vo vs ms cs fs ts) true)):=by
 conv=>zeta
 delta cI g0 qB sm I6 iR
 by_cases hc:¬(vs.length<=20/\ms.length<=20/\cs.length<=20/\fs.length<=20/\ts.length<=20)
 .have e:Vo vs ms cs fs ts=false:=by unfold Vo;rw[yh hc];rfl
  rw[e];refine ah.2 ⟨λ_=>⟨rfl,rfl⟩,λh=>?_⟩
  simp only[lX,eH]at h;omega
 have hc:=JZ.1 hc;refine ah.2 ⟨λh=>?_,λ_=>?_⟩
 .simp only[wz,dH]at h;omega
 refine⟨⟨0,⟨by omega,λj hj=>by omega⟩,⟨rfl,trivial⟩,rfl⟩,λk hk=>ah.2 ⟨λh=>?_,λh=>?_⟩⟩
 .simp only[dH]at h;have hN:(k:Int).toNat=k:=by omega
  rw[hN];refine⟨by omega,λd hd=>ah.2 ⟨λh2=>⟨rfl,?_⟩,λh2=>⟨ak.2 (by omega),k+1,⟨by omega,λj hj f hf=>?_⟩,⟨rfl,trivial⟩,rfl,by omega⟩⟩⟩
  .have h2:¬d.2.1.length<=100:=by simp only[dH]at h2;omega
   have e:Vo vs ms cs fs ts=false:=by
    unfold Vo;rw[show(fs.all λf=>decide (f.2.1.length<=100))=false from List.all_eq_false.2 ⟨d,ig hd,by simpa using h2⟩,Bool.and_false]
   rw[e]
  .by_cases gQ:j=k
   .subst gQ;rw[hd]at hf;cases hf;simp only[eH]at h2;omega
   .exact hk.2 j (by omega) f hf
 .simp only[eH]at h;have e:Vo vs ms cs fs ts=true:=by
   unfold Vo;rw[wV hc,FB,Nz];intro f hf;obtain⟨j,hj⟩:=yg hf;simpa using hk.2 j (by have:=(A8.1 hj).1;omega) f hj
  rw[e];exact⟨rfl,rfl⟩
theorem aeT:aT aS.gd 10 anJ:=
 jD (cx:=aS) (n:=47) (cl:=[]) au trivial Tryz.func10 λd hd=>by
  obtain⟨⟨vs,ms,cs,fs,ts,⟨⟩⟩,⟨⟩⟩:=d;exact aI (anK vs ms cs fs ts) (aj8 vs ms cs fs ts) (by kernel_rfl)
abbrev aho:CT:={ ps:=[o7],pre:=λd=>True,res:=λd=>([],.one (.c (.v (.int .i64 (CP d.1.2.2.2.1 d.1.2.2.2.2.1))))) }
abbrev aj9(vs:List VD) (ms cs:List ByteArray) (fs:List FD) (ts:List SD):Nat->Option (St->jq):=λk=>match k with
 | 4=>some λ_=>.inv { α:=Nat,slots:=λk=>[(3,.c (.v (.int .i64 k)))],res:=λk=>[],inv:=λk=>k<=(ts).length/\∀j < k,∀t,ts[j]?=some t->CO fs.length t=0,meas:=λk=>(ts).length - k }
 | _=>none
theorem aeU(vs:List VD) (ms cs:List ByteArray) (fs:List FD) (ts:List SD):
 let z1:=λ(x:Nat)=>(x<=ts.length/\∀(j:Nat),j < x->∀(t:Int×Int×Unit),ts[j]?=some t->CO fs.length t=0);let z2:=[g0 (ay.blk 27 [SC.sl EM vs,SC.sl Sh.str ms,SC.sl Sh.str cs,SC.sl Bq fs,SC.sl lS ts])];let z3:=λ(x:Nat)=>0<=(x:Int)/\(x:Int) < (ts.length:Int);br (decide ((ts.length:Int) < (1:Int)) || decide (8 < (ts.length:Int))) (qI (CP fs ts) (4:Int)) ((∃x,(z1 x)/\(cI 0=cI (x:Int)/\True)/\sm z2)/\∀(x:Nat),(z1 x)->br (decide ((x:Int) < (ts.length:Int))) ((z3 x)/\∀(d:Int×(I6.pair Sh.unit).den),ts[(x:Int).toNat]?=some d->((!decide (d.fst < 0))=true->0<=(x:Int)/\(x:Int) < (ts.length:Int))/\∀(dI:Int×(I6.pair Sh.unit).den),((!decide (d.fst < 0))=true->ts[(x:Int).toNat]?=some dI)->br (decide (d.fst < 0) || decide ((fs.length:Int)<=dI.fst)) (qI (CP fs ts) (11:Int)) ((z3 x)/\∀(d:Int×(I6.pair Sh.unit).den),ts[(x:Int).toNat]?=some d->True/\br (!bU (d.snd.fst,()).fst) (qI (CP fs ts) (2:Int)) (iR ((x:Int)+(1:Int))/\∃x',(z1 x')/\(cI ((x:Int)+(1:Int))=cI (x':Int)/\True)/\sm z2/\ts.length - x' < ts.length - x))) (qI (CP fs ts) (0:Int))):=by
 conv=>zeta
 delta cI g0 qI sm I6 iR
 by_cases hc:ts.length < 1\/8 < ts.length
 .have e:CP fs ts=4:=by unfold CP;rw[if_pos hc]
  rw[e];refine ah.2 ⟨λ_=>⟨rfl,rfl⟩,λh=>?_⟩
  simp only[lX,eH]at h;omega
 refine ah.2 ⟨λh=>?_,λh=>⟨⟨0,⟨by omega,λj hj=>by omega⟩,⟨rfl,trivial⟩,rfl⟩,λk hk=>ah.2 ⟨λh2=>?_,λh2=>?_⟩⟩⟩
 .simp only[wz,dH]at h;omega
 .simp only[dH]at h2;have hN:(k:Int).toNat=k:=by omega
  rw[hN];refine⟨by omega,λd hd=>⟨λ_=>by omega,λd1 hd1=>ah.2 ⟨λh3=>⟨rfl,?_⟩,λh3=>⟨by omega,λd2 hd2=>⟨trivial,ah.2 ⟨λh4=>⟨rfl,?_⟩,λh4=>⟨ak.2 (by omega),k+1,⟨by omega,λj hj v hv=>?_⟩,⟨rfl,trivial⟩,rfl,by omega⟩⟩⟩⟩⟩⟩⟩
  .have h3:d.1 < 0\/(fs.length:Int)<=d.1:=by
    by_cases hn:d.1 < 0
    .exact .inl hn
    .have:=hd1 (by simp[hn])
     rw[hd]at this;cases this;exact by simpa using h3
   have e:CO fs.length d=11:=by unfold CO;rw[if_pos h3]
   rw[zy hc hd (by rw[e];simp) hk.2,e]
  all_goals
   rw[hd]at hd2;cases hd2;have h3:¬(d.1 < 0\/(fs.length:Int)<=d.1):=by
    simp only[lX,eH]at h3;have:=hd1 (by rw[yh h3.1];rfl)
    rw[hd]at this;cases this;exact λq=>q.elim (λq=>h3.1 q) (λq=>h3.2 q)
  .have h4:bU d.2.1=false:=by simpa using h4
   have e:CO fs.length d=2:=by unfold CO;rw[if_neg h3,if_neg (by rw[h4];simp)]
   rw[zy hc hd (by rw[e];simp) hk.2,e]
  .have h4:bU d.2.1=true:=by simpa using h4
   by_cases gQ:j=k
   .subst gQ;rw[hd]at hv;cases hv;unfold CO;rw[if_neg h3,if_pos h4]
   .exact hk.2 j (by omega) v hv
 .simp only[eH]at h2;rw[Rt hc λj t hj=>hk.2 j (by have:=(A8.1 hj).1;omega) t hj];exact⟨rfl,rfl⟩
theorem ZO:aT aS.gd 136 aho:=
 jD (cx:=aS) (n:=48) (cl:=[(134,Pq)]) au ⟨Me,trivial⟩ Tryz.func136 λd hd=>by
  obtain⟨⟨vs,ms,cs,fs,ts,⟨⟩⟩,⟨⟩⟩:=d;exact aI (aj9 vs ms cs fs ts) (aeU vs ms cs fs ts) (by kernel_rfl)
def exS(vs:List VD) (ms cs:List ByteArray) (fs:List FD) (op obj n:Int):Bool:=!decide (0<=oO vs ms cs fs op/\(obj < 0\/oO vs ms cs fs op<=obj)) && !decide (op=18/\(n < 0\/(ms.length:Int)<=n))
abbrev ahp:CT:={ ps:=[o7,lG],pre:=λd=>True,res:=λd=>([],vB (exS d.1.1 d.1.2.1 d.1.2.2.1 d.1.2.2.2.1 d.2.1.1 d.2.1.2.2.2.2.1 d.2.1.2.2.2.2.2.1)) }
theorem aeV(vs:List VD) (ms cs:List ByteArray) (fs:List FD) (ts:List SD) (op a b c obj n fn ord:Int):
 let z7:=exS vs ms cs fs op obj n;let z4:=qB z7 (decide (0<=obj) && decide (obj < (vs.length:Int)));let z5:=qB z7 (decide (0<=obj) && decide (obj < (ms.length:Int)));let z6:=qB z7 (decide (0<=obj) && decide (obj < (cs.length:Int)));let z3:=br (decide (op=21)) (qB z7 (decide (0<=obj) && decide (obj < (fs.length:Int)))) (qB z7 true);let z2:=br (decide (op=18)) (br (decide (n < 0) || decide ((ms.length:Int)<=n)) (qB z7 false) z6) (br (decide (op=19)) (br (decide (op=19)) z6 z3) (br (decide (op=20)) z6 z3));let z1:=br (decide (op=15)) (br (decide (op=15)) z5 z2) (br (decide (op=16)) (br (decide (op=16)) z5 z2) (br (decide (op=17)) z5 z2));br (decide (op=8)) (br (decide (op=8)) z4 z1) (br (decide (op=9)) (br (decide (op=9)) z4 z1) (br (decide (op=10)) (br (decide (op=10)) z4 z1) (br (decide (op=11)) (br (decide (op=11)) z4 z1) (br (decide (op=12)) (br (decide (op=12)) z4 z1) (br (decide (op=14)) z4 z1))))):=by
 conv=>zeta
 delta qB;simp only[ah]
 repeat' (first | (refine And.intro ?_ ?_) | (intro _))
 all_goals first | rfl | (simp_all[exS,oO];done) | (simp_all[exS,oO];omega) | (simp_all[exS,oO];rw[Fz];simp<;>omega)
theorem ZP:aT aS.gd 179 ahp:=
 jD (cx:=aS) (n:=61) (cl:=[]) au trivial Tryz.func179 λd hd=>by
  obtain⟨⟨vs,ms,cs,fs,ts,⟨⟩⟩,⟨op,a,b,c,obj,n,fn,ord,⟨⟩⟩,⟨⟩⟩:=d;exact aI (λ_=>none) (aeV vs ms cs fs ts op a b c obj n fn ord) (by kernel_rfl)
abbrev ahq:CT:={ ps:=[.str],pre:=λd=>True,res:=λd=>([],vB (dK d.1)) }
abbrev akb(s:ByteArray):Nat->Option (St->jq):=λk=>match k with
 | 4=>some λ_=>.inv { α:=Nat,slots:=λk=>[(3,.c (.v (.int .i64 k)))],res:=λk=>[],inv:=λk=>k<=((List.range s.size)).length/\∀j < k,(sF (Hg s j)=true\/(j≠0/\okB (Hg s j)=true)),meas:=λk=>((List.range s.size)).length - k }
 | _=>none
theorem aeW(s:ByteArray):
 let z2:=List.range s.size;let z1:=λ(x:Nat)=>(x<=z2.length/\∀(j:Nat),j < x->sF (Hg s j)=true\/j≠0/\okB (Hg s j)=true);br (decide ((s.size:Int) < (1:Int)) || decide (16 < (s.size:Int))) (qB (dK s) false) ((∃x,(z1 x)/\(cI 0=cI (x:Int)/\True)/\([]:List dJ)=[])/\∀(x:Nat),(z1 x)->br (decide ((x:Int) < (s.size:Int))) ((0<=(x:Int)/\(x:Int) < (s.size:Int))/\∀(u:UInt8),s[(x:Int).toNat]?=some u->br (!(decide (97<=(u.toNat:Int)) && decide ((u.toNat:Int)<=(122:Int)) || decide (65<=(u.toNat:Int)) && decide ((u.toNat:Int)<=(90:Int))) && (decide ((x:Int)=(0:Int)) || !decide ((u.toNat:Int)=(95:Int)) && (decide ((u.toNat:Int) < (48:Int)) || decide (57 < (u.toNat:Int))))) (qB (dK s) false) (iR ((x:Int)+(1:Int))/\∃x',(z1 x')/\(cI ((x:Int)+(1:Int))=cI (x':Int)/\True)/\([]:List dJ)=[]/\z2.length - x' < z2.length - x)) (qB (dK s) true)):=by
 conv=>zeta
 delta dJ cI qB iR;have hl:(List.range s.size).length=s.size:=List.length_range;rw[hl]
 by_cases hs:¬(1<=s.size/\s.size<=16)
 .have:dK s=false:=by unfold dK;rw[yh hs];rfl
  rw[this];refine ah.2 ⟨λ_=>⟨rfl,rfl⟩,λh=>?_⟩
  simp only[lX,eH]at h;omega
 have hs:=JZ.1 hs;refine ah.2 ⟨λh=>?_,λ_=>⟨⟨0,⟨by omega,λj hj=>by omega⟩,⟨rfl,trivial⟩,rfl⟩,λk hk=>ah.2 ⟨λh=>?_,λh=>?_⟩⟩⟩
 .simp only[wz,dH]at h;omega
 .simp only[dH]at h;have hN:(k:Int).toNat=k:=by omega
  rw[hN];refine⟨by omega,λu hu=>?_⟩
  have eu:=Jp hu;have eL:sF (Hg s k)=(decide (97<=(u.toNat:Int)) && decide ((u.toNat:Int)<=122) || decide (65<=(u.toNat:Int)) && decide ((u.toNat:Int)<=90)):=by
   rw[eu];unfold sF;rw[Fz];simp
  rw[<-eL];refine ah.2 ⟨λh2=>⟨rfl,?_⟩,λh2=>⟨ak.2 (by omega),k+1,⟨by omega,λj hj=>?_⟩,⟨rfl,trivial⟩,rfl,by omega⟩⟩
  .have:dK s=false:=by
    simp only[bV,wz,Dc,dH,eH]at h2;obtain⟨a,b⟩:=h2;unfold dK;rcases b with b | b
    .have:k=0:=by omega
     subst this;rw[a];simp
    .have hb:okB (Hg s k)=false:=by
      unfold okB;rw[a,eu];simp;omega
     rw[show((List.range s.size).all λi=>okB (Hg s i))=false from List.all_eq_false.2 ⟨k,by simp;omega,by rw[hb];simp⟩,Bool.and_false]
   rw[this]
  .by_cases gQ:j=k
   .subst gQ;cases hA:sF (Hg s j) with
    | true=>exact .inl rfl
    | false=>
      rw[hA]at h2;refine .inr ?_;simp at h2;refine⟨by omega,?_⟩
      unfold okB;rw[eu];simp;omega
   .exact hk.2 j (by omega)
 .simp only[eH]at h;have:dK s=true:=by
   unfold dK;have h0:sF (Hg s 0)=true:=(hk.2 0 (by omega)).elim id λq=>absurd rfl q.1
   rw[wV hs,h0];simp only[FB];rw[Nz];intro i hi;simp at hi;rcases hk.2 i (by omega) with q | q
   .unfold okB;rw[q];rfl
   .exact q.2
  rw[this];exact⟨rfl,rfl⟩
theorem ZQ:aT aS.gd 178 ahq:=
 jD (cx:=aS) (n:=55) (cl:=[]) au trivial Tryz.func178 λd hd=>by
  obtain⟨s,⟨⟩⟩:=d;exact aI (akb s) (aeW s) (by kernel_rfl)
abbrev PI:CT:={ ps:=[.sl .str],pre:=λd=>d.1.length<=1000000,res:=λd=>([],.iq [.c (.v (.int .i64 (if(gJ d.1).1=0 then 0 else(gJ d.1).2))),.c (.v (.int .i64 (gJ d.1).1))]) }
abbrev akc(l:List ByteArray):Nat->Option (St->jq):=λk=>match k with
 | 2=>some λ_=>.inv { α:=Nat,slots:=λk=>[(4,.c (.v (.int .i64 k)))],res:=λ_=>[],inv:=λk=>k<=l.length/\∀j < k,dK (l.getD j ⟨#[]⟩)=true/\tY (l.take j) (l.getD j ⟨#[]⟩)=false,meas:=λk=>l.length - k }
 | 7=>some λs=>.inv { α:=Nat,slots:=λk=>[(5,.c (.v (.int .i64 k)))],res:=λ_=>[],inv:=λk=>k<=(Q8 s 4).toNat/\∀j < k,¬l.getD j ⟨#[]⟩=l.getD ((Q8 s 4).toNat) ⟨#[]⟩,meas:=λk=>(Q8 s 4).toNat - k }
 | _=>none
theorem aeX(l:List ByteArray) (aF:PI.pre (l,())):
 let z1:=λ(x:Nat)=>(x<=l.length/\∀(j:Nat),j < x->dK (l.getD j { data:=#[]:ByteArray })=true/\tY (List.take j l) (l.getD j { data:=#[]:ByteArray })=false);let z4:=λ(x:Nat)=>0<=(x:Int)/\(x:Int) < (l.length:Int);let z3:=[cI (if(gJ l).fst=0 then(0:Int) else(gJ l).snd),cI ((gJ l).fst)];let z2:=λ(x_1 x:Nat)=>(x_1<=(x:Int).toNat/\∀(j:Nat),j < x_1->¬l.getD j { data:=#[]:ByteArray }=l.getD (x:Int).toNat { data:=#[]:ByteArray });let z5:=λ(x_1:Nat)=>(x_1:Int)+(1:Int);(∃x,(z1 x)/\(cI 0=cI (x:Int)/\True)/\([]:List dJ)=[])/\∀(x:Nat),(z1 x)->br (decide ((x:Int) < (l.length:Int))) ((z4 x)/\∀(d:ByteArray),l[(x:Int).toNat]?=some d->True/\br (!dK d) (rT z3 [cI (x:Int),cI 6]) ((∃x_1,(z2 x_1 x)/\(cI 0=cI (x_1:Int)/\True)/\([]:List dJ)=[])/\∀(x_1:Nat),(z2 x_1 x)->br (decide ((x_1:Int) < (x:Int))) ((z4 x_1)/\∀(dI:ByteArray),l[(x_1:Int).toNat]?=some dI->(z4 x)/\∀(nS:ByteArray),l[(x:Int).toNat]?=some nS->br (decide (dI=nS)) (rT z3 [cI (x:Int),cI 7]) (iR (z5 x_1)/\∃x',(x'<=(x:Int).toNat/\∀(j:Nat),j < x'->¬l.getD j { data:=#[]:ByteArray }=l.getD (x:Int).toNat { data:=#[]:ByteArray })/\(cI (z5 x_1)=cI (x':Int)/\True)/\([]:List dJ)=[]/\(x:Int).toNat - x' < (x:Int).toNat - x_1)) (iR (z5 x)/\∃x',(z1 x')/\(cI (z5 x)=cI (x':Int)/\True)/\([]:List dJ)=[]/\l.length - x' < l.length - x))) (rT z3 [cI 0,cI 0]):=by
 conv=>zeta
 delta dJ cI rT iR;have hp:l.length<=1000000:=aF;refine⟨⟨0,⟨by omega,λj hj=>by omega⟩,⟨rfl,trivial⟩,rfl⟩,λk hk=>ah.2 ⟨λh=>?_,λh=>?_⟩⟩
 .simp only[dH]at h;have hN:(k:Int).toNat=k:=by omega
  rw[hN];refine⟨by omega,λd hd=>?_⟩
  have hg:l.getD k ⟨#[]⟩=d:=by rw[J7,hd];rfl
  refine⟨trivial,ah.2 ⟨λh2=>⟨rfl,?_⟩,λh2=>⟨⟨0,⟨by omega,λj hj=>by omega⟩,⟨rfl,trivial⟩,rfl⟩,λm hm=>ah.2 ⟨λh3=>?_,λh3=>⟨ak.2 (by omega),k+1,⟨by omega,λj hj=>?_⟩,⟨rfl,trivial⟩,rfl,by omega⟩⟩⟩⟩⟩
  .have h2:dK d=false:=by simpa using h2
   rw[vT (by omega) hk.2 (.inl (by rw[hg];exact h2)),hg,h2];rfl
  .simp only[dH]at h3;have hM:(m:Int).toNat=m:=by omega
   rw[hM];refine⟨by omega,λd1 hd1=>⟨by omega,λd2 hd2=>?_⟩⟩
   rw[hd]at hd2;cases hd2;have hg1:l.getD m ⟨#[]⟩=d1:=by rw[J7,hd1];rfl
   refine ah.2 ⟨λh4=>⟨rfl,?_⟩,λh4=>⟨ak.2 (by omega),m+1,⟨by omega,λj hj=>?_⟩,⟨rfl,trivial⟩,rfl,by omega⟩⟩
   .have h3':tY (l.take k) d=true:=J9.2 ⟨d1,ig (i:=m) (by rw[ahI (by omega)];exact hd1),h4⟩
    have h2v:dK d=true:=by simpa using h2
    rw[vT (by omega) hk.2 (.inr (by rw[hg];exact h3')),hg,h2v];rfl
   .by_cases hjm:j=m
    .subst hjm;rw[hg1,hg];simpa using h4
    .exact hm.2 j (by omega)
  .simp only[eH]at h3
   by_cases gQ:j=k
   .subst gQ;rw[hg];refine⟨by simpa using h2,?_⟩
    unfold tY;rw[TV];intro y hy;obtain⟨i,hi⟩:=yg hy;have hij:i < j:=by
     have:=(A8.1 hi).1;simp at this;omega
    rw[ahI hij]at hi;have:=hm.2 i (by omega)
    rw[hg,J7,hi]at this;simpa using this
   .exact hk.2 j (by omega)
 .simp only[eH]at h;rw[MB λj hj=>hk.2 j (by omega)];exact⟨rfl,rfl⟩
theorem ZR:aT aS.gd 133 PI:=
 jD (cx:=aS) (n:=34) (cl:=[(178,ahq)]) au ⟨ZQ,trivial⟩ Tryz.func133 λd hd=>by
  obtain⟨l,⟨⟩⟩:=d;exact aI (akc l) (aeX l hd) (by kernel_rfl)
abbrev ZT:CT:={ ps:=[o7],pre:=λd=>d.1.1.length<=1000000/\d.1.2.2.2.1.length<=1000000,res:=λd=>([.row 9 .str (gY d.1.1),.row 9 .str (ji d.1.2.2.2.1)],.iq [.c (.row 0),.c (.row 1)]) }
abbrev akd(vs:List VD) (ms cs:List ByteArray) (fs:List FD) (ts:List SD):Nat->Option (St->jq):=λk=>match k with
 | 3=>some λ_=>.inv { α:=Nat,slots:=λk=>[(6,.c (.v (.int .i64 k))),(4,.c (.row 1))],res:=λk=>[(1,.row 9 .str (gY (vs.take k)))],inv:=λk=>k<=vs.length,meas:=λk=>vs.length - k,nil:=[(4,9,.str)] }
 | 7=>some λ_=>.inv { α:=Nat,slots:=λk=>[(7,.c (.v (.int .i64 k))),(5,.c (.row 2))],res:=λk=>[(2,.row 9 .str (ji (fs.take k)))],inv:=λk=>k<=fs.length,meas:=λk=>fs.length - k,nil:=[(5,9,.str)] }
 | _=>none
theorem aeY(vs:List VD) (ms cs:List ByteArray) (fs:List FD) (ts:List SD) (aF:ZT.pre ((vs,ms,cs,fs,ts,()),())):
 let z3:=[SC.sl EM vs,SC.sl Sh.str ms,SC.sl Sh.str cs,SC.sl Bq fs,SC.sl lS ts];let z5:=λ(x:Nat)=>gY (List.take x vs);let z2:=λ(x:Nat)=>[g0 (ay.blk 27 z3),g0 (ay.row 9 Sh.str (z5 x))];let z4:=λ(x:Nat)=>(x:Int)+(1:Int);let z1:=λ(x x_1:Nat)=>[g0 (ay.blk 27 z3),g0 (ay.row 9 Sh.str (z5 x)),g0 (ay.row 9 Sh.str (ji (List.take x_1 fs)))];(∃x,x<=vs.length/\(cI 0=cI (x:Int)/\SV.c (SC.row (Nat.succ 0))=SV.c (SC.row 1)/\True)/\[g0 (ay.blk 27 z3),g0 (ay.row 9 Sh.str [])]=(z2 x))/\∀(x:Nat),x<=vs.length->br (decide ((x:Int) < (vs.length:Int))) ((0<=(x:Int)/\(x:Int) < (vs.length:Int))/\∀(d:ByteArray×(I6.pair Sh.unit).den),vs[(x:Int).toNat]?=some d->nO (List.length (z5 x)+List.length ([d.fst])) 16/\iR (z4 x)/\∃x',x'<=vs.length/\(cI (z4 x)=cI (x':Int)/\SV.c (SC.row 1)=SV.c (SC.row 1)/\True)/\[g0 (ay.blk 27 z3),g0 (ay.row 9 Sh.str (gY (List.take x vs)++[d.fst]))]=(z2 x')/\vs.length - x' < vs.length - x) ((∃x_1,x_1<=fs.length/\(cI 0=cI (x_1:Int)/\SV.c (SC.row (Nat.succ 0).succ)=SV.c (SC.row 2)/\True)/\[g0 (ay.blk 27 z3),g0 (ay.row 9 Sh.str (z5 x)),g0 (ay.row 9 Sh.str [])]=(z1 x x_1))/\∀(x_1:Nat),x_1<=fs.length->br (decide ((x_1:Int) < (fs.length:Int))) ((0<=(x_1:Int)/\(x_1:Int) < (fs.length:Int))/\∀(d:ByteArray×(lG.sl.pair Sh.unit).den),fs[(x_1:Int).toNat]?=some d->nO (List.length (ji (List.take x_1 fs))+List.length ([d.fst])) 16/\iR (z4 x_1)/\∃x',x'<=fs.length/\(cI (z4 x_1)=cI (x':Int)/\SV.c (SC.row 2)=SV.c (SC.row 2)/\True)/\[g0 (ay.blk 27 z3),g0 (ay.row 9 Sh.str (z5 x)),g0 (ay.row 9 Sh.str (ji (List.take x_1 fs)++[d.fst]))]=(z1 x x')/\fs.length - x' < fs.length - x_1) ([ay.row 9 Sh.str (gY vs),ay.row 9 Sh.str (ji fs)]=[ay.row 9 Sh.str (z5 x),ay.row 9 Sh.str (ji (List.take x_1 fs))]/\aZ.iq [SV.c (SC.row 0),SV.c (SC.row 1)]=aZ.iq [SV.c (SC.row 0),SV.c (SC.row (Nat.succ 0))])):=by
 conv=>zeta
 delta cI g0 I6 iR;obtain⟨hp1,hp2⟩:vs.length<=1000000/\fs.length<=1000000:=aF;refine⟨⟨0,by omega,⟨rfl,rfl,trivial⟩,rfl⟩,λk hk=>ah.2 ⟨λh=>?_,λh=>⟨⟨0,by omega,⟨rfl,rfl,trivial⟩,rfl⟩,λm hm=>ah.2 ⟨λh2=>?_,λh2=>?_⟩⟩⟩⟩
 .simp only[dH]at h;refine⟨by omega,λd hd=>?_⟩
  have hd:vs[k]?=some d:=by simpa using hd
  have e:gY (vs.take (k+1))=gY (vs.take k)++[d.1]:=by
   unfold gY;rw[NJ,hd];simp
  refine⟨?_,ak.2 (by omega),k+1,by omega,⟨rfl,rfl,trivial⟩,?_,by omega⟩
  .have:(gY (vs.take k)).length<=1000000:=by simp[gY];omega
   exact eF.2 (by simp only[wS,J3];omega)
  .rw[e]
 .simp only[dH]at h2;refine⟨by omega,λd hd=>?_⟩
  have hd:fs[m]?=some d:=by simpa using hd
  have e:ji (fs.take (m+1))=ji (fs.take m)++[d.1]:=by
   unfold ji;rw[NJ,hd];simp
  refine⟨?_,ak.2 (by omega),m+1,by omega,⟨rfl,rfl,trivial⟩,?_,by omega⟩
  .have:(ji (fs.take m)).length<=1000000:=by simp[ji];omega
   exact eF.2 (by simp only[wS,J3];omega)
  .rw[e]
 .simp only[eH]at h h2;rw[wu (by omega),wu (by omega)];exact⟨rfl,rfl⟩
theorem ZU:aT aS.gd 132 ZT:=
 jD (cx:=aS) (n:=42) (cl:=[]) au trivial Tryz.func132 λd hd=>by
  obtain⟨⟨vs,ms,cs,fs,ts,⟨⟩⟩,⟨⟩⟩:=d;exact aI (akd vs ms cs fs ts) (aeY vs ms cs fs ts hd) (by kernel_rfl)
def zA(vs:List VD) (ms cs:List ByteArray) (fs:List FD) (l:List ID):Int×Int:=if 64 < l.length then(4,-1) else match l.findIdx? (λi=>decide (vU vs ms cs fs i l.length≠0)) with
 | some k=>(vU vs ms cs fs (l.getD k (0,0,0,0,0,0,0,0,())) l.length,k)
 | none=>(0,-1)
theorem zB{l:List ID}{d:ID} (hl:¬64 < l.length) (hd:l[k]?=some d) (hb:vU vs ms cs fs d l.length≠0) (hn:∀j < k,∀i,l[j]?=some i->vU vs ms cs fs i l.length=0):zA vs ms cs fs l=(vU vs ms cs fs d l.length,(k:Int)):=by
 have iO:k < l.length:=(A8.1 hd).1;have:l.findIdx? (λi=>decide (vU vs ms cs fs i l.length≠0))=some k:=by
  rw[A50];refine⟨iO,by rw[(A8.1 hd).2];simpa using hb,λj hj=>?_⟩
  have:=hn j hj l[j] (lK (by omega))
  simpa using this
 unfold zA;rw[if_neg hl,this];show(vU vs ms cs fs (l.getD k _) l.length,(k:Int))=_;rw[J7,hd];rfl
theorem aeZ{l:List ID} (hl:¬64 < l.length) (hn:∀(j:Nat) i,l[j]?=some i->vU vs ms cs fs i l.length=0):zA vs ms cs fs l=(0,-1):=by
 have:l.findIdx? (λi=>decide (vU vs ms cs fs i l.length≠0))=none:=by
  rw[A73];intro y hy;obtain⟨j,hj⟩:=yg hy;simpa using hn j y hj
 unfold zA;rw[if_neg hl,this]
theorem anL{d:ID} (h:tZ d≠0):vU vs ms cs fs d m=tZ d:=by unfold vU ciS;rw[if_pos h]
theorem apx{d:ID} (h:tZ d=0) (h2:exS vs ms cs fs d.1 d.2.2.2.2.1 d.2.2.2.2.2.1=false):vU vs ms cs fs d m=11:=by
 unfold exS at h2;unfold vU ciS;rw[if_neg (by simpa using h)]
 split
 .rfl
 .rename_i h3;rw[yh h3]at h2;rw[NQ,FB,wR]at h2;rw[if_pos (Qk h2)]
theorem apy{d:ID} (h:tZ d=0) (h2:exS vs ms cs fs d.1 d.2.2.2.2.1 d.2.2.2.2.2.1=true):vU vs ms cs fs d m=if(d.1=4\/d.1=5)/\(d.2.2.2.2.2.1 < 0\/m < d.2.2.2.2.2.1) then 12 else 0:=by
 unfold exS at h2;rw[bV,Dc,Dc]at h2;unfold vU ciS;rw[if_neg (by simpa using h),if_neg (TU h2.1),if_neg (TU h2.2)]
abbrev ahr:CT:={ ps:=[o7,Bq],pre:=λd=>True,res:=λd=>([],.iq [.c (.v (.int .i64 (zA d.1.1 d.1.2.1 d.1.2.2.1 d.1.2.2.2.1 d.2.1.2.1).1)),.c (.v (.int .i64 (zA d.1.1 d.1.2.1 d.1.2.2.1 d.1.2.2.2.1 d.2.1.2.1).2))]) }
abbrev ake(vs:List VD) (ms cs:List ByteArray) (fs:List FD) (ts:List SD) (nm:ByteArray) (l:List ID):Nat->Option (St->jq):=λk=>match k with
 | 4=>some λ_=>.inv { α:=Nat,slots:=λk=>[(6,.c (.v (.int .i64 k)))],res:=λk=>[],inv:=λk=>k<=(l).length/\∀j < k,∀i,l[j]?=some i->vU vs ms cs fs i l.length=0,meas:=λk=>(l).length - k }
 | _=>none
theorem ae0(vs:List VD) (ms cs:List ByteArray) (fs:List FD) (ts:List SD) (nm:ByteArray) (l:List ID):
 let z10:=[cI ((zA vs ms cs fs l).fst),cI ((zA vs ms cs fs l).snd)];let z1:=λ(x:Nat)=>(x<=l.length/\∀(j:Nat),j < x->∀(i:Int×Int×Int×Int×Int×Int×Int×Int×Unit),l[j]?=some i->ciS vs ms cs fs (qw i.fst i.snd.fst i.snd.snd.fst i.snd.snd.snd.fst i.snd.snd.snd.snd.fst i.snd.snd.snd.snd.snd.fst i.snd.snd.snd.snd.snd.snd.fst i.snd.snd.snd.snd.snd.snd.snd.fst) i.fst i.snd.snd.snd.snd.fst i.snd.snd.snd.snd.snd.fst (l.length:Int)=(0:Int));let z5:=[g0 (ay.blk 27 [SC.sl EM vs,SC.sl Sh.str ms,SC.sl Sh.str cs,SC.sl Bq fs,SC.sl lS ts]),g0 (ay.blk 77 [SC.v (Value.string nm),SC.sl lG l])];let z2:=λ(d:ID)=>(d.fst,d.snd.fst,d.snd.snd.fst,d.snd.snd.snd.fst,d.snd.snd.snd.snd.fst,d.snd.snd.snd.snd.snd.fst,d.snd.snd.snd.snd.snd.snd.fst,d.snd.snd.snd.snd.snd.snd.snd.fst,());let z3:=λ(d:ID)=>(d.snd.fst,d.snd.snd.fst,d.snd.snd.snd.fst,d.snd.snd.snd.snd.fst,d.snd.snd.snd.snd.snd.fst,d.snd.snd.snd.snd.snd.snd.fst,d.snd.snd.snd.snd.snd.snd.snd.fst,());let z4:=λ(d:ID)=>(d.snd.snd.fst,d.snd.snd.snd.fst,d.snd.snd.snd.snd.fst,d.snd.snd.snd.snd.snd.fst,d.snd.snd.snd.snd.snd.snd.fst,d.snd.snd.snd.snd.snd.snd.snd.fst,());let z6:=λ(d:ID)=>(d.snd.snd.snd.fst,d.snd.snd.snd.snd.fst,d.snd.snd.snd.snd.snd.fst,d.snd.snd.snd.snd.snd.snd.fst,d.snd.snd.snd.snd.snd.snd.snd.fst,());let z7:=λ(d:ID)=>(d.snd.snd.snd.snd.fst,d.snd.snd.snd.snd.snd.fst,d.snd.snd.snd.snd.snd.snd.fst,d.snd.snd.snd.snd.snd.snd.snd.fst,());let z8:=λ(d:ID)=>(d.snd.snd.snd.snd.snd.fst,d.snd.snd.snd.snd.snd.snd.fst,d.snd.snd.snd.snd.snd.snd.snd.fst,());let z9:=λ(d:ID)=>(d.snd.snd.snd.snd.snd.snd.fst,d.snd.snd.snd.snd.snd.snd.snd.fst,());br (decide (64 < (l.length:Int))) (rT z10 [cI 4,cI (-1)]) ((∃x,(z1 x)/\(cI 0=cI (x:Int)/\True)/\sm z5)/\∀(x:Nat),(z1 x)->br (decide ((x:Int) < (l.length:Int))) ((0<=(x:Int)/\(x:Int) < (l.length:Int))/\∀(d:ID),l[(x:Int).toNat]?=some d->True/\br (!decide (qw (z2 d).fst (z3 d).fst (z4 d).fst (z6 d).fst (z7 d).fst (z8 d).fst (z9 d).fst (d.snd.snd.snd.snd.snd.snd.snd.fst,()).fst=0)) (rT z10 [cI (qw (z2 d).fst (z3 d).fst (z4 d).fst (z6 d).fst (z7 d).fst (z8 d).fst (z9 d).fst (d.snd.snd.snd.snd.snd.snd.snd.fst,()).fst),cI (x:Int)]) (True/\br (!exS vs ms cs fs (z2 d).fst (z7 d).fst (z8 d).fst) (rT z10 [cI 11,cI (x:Int)]) (br ((decide (d.fst=4) || decide (d.fst=5)) && (decide (d.snd.snd.snd.snd.snd.fst < 0) || decide ((l.length:Int) < d.snd.snd.snd.snd.snd.fst))) (rT z10 [cI 12,cI (x:Int)]) (iR ((x:Int)+(1:Int))/\∃x',(z1 x')/\(cI ((x:Int)+(1:Int))=cI (x':Int)/\True)/\sm z5/\l.length - x' < l.length - x)))) (rT z10 [cI 0,cI (-1)])):=by
 conv=>zeta
 delta cI g0 rT sm I6 iR
 by_cases hc:64 < l.length
 .have e:zA vs ms cs fs l=(4,-1):=by unfold zA;rw[if_pos hc]
  rw[e];refine ah.2 ⟨λ_=>⟨rfl,rfl⟩,λh=>?_⟩
  simp only[eH]at h;omega
 refine ah.2 ⟨λh=>?_,λ_=>⟨⟨0,⟨by omega,λj hj=>by omega⟩,⟨rfl,trivial⟩,rfl⟩,λk hk=>ah.2 ⟨λh=>?_,λh=>?_⟩⟩⟩
 .simp only[dH]at h;omega
 .simp only[dH]at h;have hN:(k:Int).toNat=k:=by omega
  rw[hN];refine⟨by omega,λd hd=>⟨trivial,ah.2 ⟨λh2=>⟨rfl,?_⟩,λh2=>⟨trivial,ah.2 ⟨λh3=>⟨rfl,?_⟩,λh3=>ah.2 ⟨λh4=>⟨rfl,?_⟩,λh4=>⟨ak.2 (by omega),k+1,⟨by omega,λj hj i hi=>?_⟩,⟨rfl,trivial⟩,rfl,by omega⟩⟩⟩⟩⟩⟩⟩
  .have h2:tZ d≠0:=by simpa using h2
   rw[zB hc hd (by rw[anL h2];exact h2) hk.2,anL h2]
  all_goals have h2:tZ d=0:=by simpa using h2
  .have h3:exS vs ms cs fs d.1 d.2.2.2.2.1 d.2.2.2.2.2.1=false:=by simpa using h3
   have e:=apx (m:=(l.length:Int)) h2 h3;rw[zB hc hd (by rw[e];simp) hk.2,e]
  all_goals have h3:exS vs ms cs fs d.1 d.2.2.2.2.1 d.2.2.2.2.2.1=true:=by simpa using h3
  all_goals have e:=apy (m:=(l.length:Int)) h2 h3
  .rw[if_pos (by simpa using h4)]at e
   rw[zB hc hd (by rw[e];simp) hk.2,e]
  .by_cases gQ:j=k
   .subst gQ;rw[hd]at hi;cases hi;rw[if_neg (λq=>by
     have:((decide (d.1=4) || decide (d.1=5)) && (decide (d.2.2.2.2.2.1 < 0) || decide ((l.length:Int) < d.2.2.2.2.2.1)))=true:=by simpa using q
     rw[h4]at this;cases this)]at e
    exact e
   .exact hk.2 j (by omega) i hi
 .simp only[eH]at h;rw[aeZ hc λj i hj=>hk.2 j (by have:=(A8.1 hj).1;omega) i hj];exact⟨rfl,rfl⟩
theorem ZV:aT aS.gd 135 ahr:=
 jD (cx:=aS) (n:=58) (cl:=[(176,anw),(179,ahp)]) au ⟨Zf,ZP,trivial⟩ Tryz.func135 λd hd=>by
  obtain⟨⟨vs,ms,cs,fs,ts,⟨⟩⟩,⟨nm,l,⟨⟩⟩,⟨⟩⟩:=d;exact aI (ake vs ms cs fs ts nm l) (ae0 vs ms cs fs ts nm l) (by kernel_rfl)
theorem AO:∀(i:Nat) (l:List FD) (n:Nat){x:FD},l[i]?=some x->jK n l=jK n (l.take i)++(qg (n+i) x++jK (n+i+1) (l.drop (i+1)))
 | 0,[],n,x,h=>by simp at h
 | 0,y :: l,n,x,h=>by
   simp at h;subst h;simp[jK]
 | i+1,[],n,x,h=>by simp at h
 | i+1,y :: l,n,x,h=>by
   have:=AO i l (n+1) (x:=x) (by simpa using h)
   simp only[ahM,List.drop_succ_cons,jK];rw[this,zW,show n+1+i=n+(i+1) by omega]
theorem PK{n:Nat}{x:FD} (h:(qg n x)[k]?=some d):∃e,x.2.1[k]?=some e/\d=(((n:Int),(k:Int),()),e,()):=by
 unfold qg at h;rw[Df,acu]at h;cases he:x.2.1[k]? with
 | none=>rw[he]at h;simp at h
 | some e=>rw[he]at h;simp at h;exact⟨e,rfl,h.symm⟩
theorem zC{l:List ID} (h:(zA vs ms cs fs l).1=0):l.length<=64/\∀(j:Nat) i,l[j]?=some i->vU vs ms cs fs i l.length=0:=by
 by_cases hl:64 < l.length
 .unfold zA at h;rw[if_pos hl]at h;simp at h
 refine⟨by omega,?_⟩
 cases hf:l.findIdx? (λi=>decide (vU vs ms cs fs i l.length≠0)) with
 | none=>
   rw[A73]at hf;intro j i hj;simpa using hf i (ig hj)
 | some k=>
   unfold zA at h;rw[if_neg hl,hf]at h;rw[A50]at hf;obtain⟨hk,h1,_⟩:=hf;have e:l.getD k (0,0,0,0,0,0,0,0,())=l[k]:=by rw[J7,lK hk];rfl
   have h:vU vs ms cs fs (l.getD k (0,0,0,0,0,0,0,0,())) l.length=0:=h;rw[e]at h;simp[h]at h1
theorem ae1{l:List ID} (hl:¬64 < l.length) (h:(zA vs ms cs fs l).1≠0):∃(k:Nat) (e:ID),l[k]?=some e/\vU vs ms cs fs e l.length≠0/\(∀j < k,∀i,l[j]?=some i->vU vs ms cs fs i l.length=0)/\zA vs ms cs fs l=(vU vs ms cs fs e l.length,(k:Int)):=by
 cases hf:l.findIdx? (λi=>decide (vU vs ms cs fs i l.length≠0)) with
 | none=>
   unfold zA at h;rw[if_neg hl,hf]at h;exact absurd rfl h
 | some k=>
   rw[A50]at hf;obtain⟨hk,h1,h2⟩:=hf;have hn:∀j < k,∀i,l[j]?=some i->vU vs ms cs fs i l.length=0:=λj hj i hi=>by
    have:=h2 j hj;rw[(A8.1 hi).2]at this;simpa using this
   have h1:vU vs ms cs fs l[k] l.length≠0:=by simpa using h1
   exact⟨k,l[k],lK hk,h1,hn,zB hl (lK hk) h1 hn⟩
theorem Ho{x:FD} (hx:fs[k]?=some x) (j:Int) (e:ID):Jr vs ms cs fs (((k:Int),j,()),e,())=vU vs ms cs fs e x.2.1.length:=Ru (d:=(((k:Int),j,()),e,())) (by simpa using hx)
theorem PL{i:Nat} (hn:∀j < i,∀f,fs[j]?=some f->f.2.1.length<=64):dL fs = -1\/(i:Int)<=dL fs:=by
 unfold dL;cases hf:fs.findIdx? (λf=>decide (64 < f.2.1.length)) with
 | none=>exact .inl rfl
 | some k=>
   refine .inr ?_;rw[A50]at hf;obtain⟨hk,h1,_⟩:=hf;show(i:Int)<=(k:Int)
   by_cases hki:k < i
   .have:=hn k hki _ (lK hk);simp at h1;omega
   .omega
theorem ZW{i:Nat}{f:FD} (hf:fs[i]?=some f) (h:(zA vs ms cs fs f.2.1).1≠0) (hn:∀j < i,∀g,fs[j]?=some g->(zA vs ms cs fs g.2.1).1=0):
 EO vs ms cs fs=((zA vs ms cs fs f.2.1).1,(i:Int),(zA vs ms cs fs f.2.1).2):=by
 have hb:=PL (fs:=fs) (i:=i) λj hj g hg=>(zC (hn j hj g hg)).1
 have aF:(jK 0 (fs.take i)).find? (λd=>decide (d.1.1=dL fs) || decide (Jr vs ms cs fs d≠0))=none:=by
  rw[A90];intro d hd;obtain⟨k,x,j,e,h1,h2,rfl⟩:=vV _ _ hd;have hk:k < i:=by have:=(A8.1 h1).1;simp at this;omega
  rw[ahI hk]at h1;have hz:=(zC (hn k hk x h1)).2 j e h2;rw[show(0+k:Nat)=k by omega,Ho h1,hz]
  have:¬((k:Int)=dL fs):=by omega
  simp[this]
 have hcut:=AO i fs 0 hf;have key:∀{k:Nat}{e:ID},f.2.1[k]?=some e->((i:Int)=dL fs\/vU vs ms cs fs e f.2.1.length≠0)->(∀j < k,∀u,f.2.1[j]?=some u->(i:Int)≠dL fs/\vU vs ms cs fs u f.2.1.length=0) ->
  (dN fs).find? (λd=>decide (d.1.1=dL fs) || decide (Jr vs ms cs fs d≠0))=some (((i:Int),(k:Int),()),e,()):=by
  intro k e he hbad hok;unfold dN;rw[hcut,List.find?_append,aF,Option.none_or,List.find?_append,show(0+i:Nat)=i by omega]
  rw[xQ (k:=k) (Hf he) (by rw[Ho hf];simpa using hbad) λj hj t ht=>by
   obtain⟨u,hu,rfl⟩:=PK ht;obtain⟨a,b⟩:=hok j hj u hu;rw[Ho hf,b];simp[a]]
  rfl
 by_cases hl:64 < f.2.1.length
 .have e1:dL fs=i:=EN hf hl λj hj g hg=>(zC (hn j hj g hg)).1
  have iO:0 < f.2.1.length:=by omega
  have:=key (k:=0) (lK iO) (.inl e1.symm) (λj hj=>by omega)
  unfold EO;rw[this];show(if(i:Int)=dL fs then _ else _)=_
  rw[if_pos e1.symm,e1];unfold zA;rw[if_pos hl]
 .obtain⟨k,e,h1,h2,h3,h4⟩:=ae1 hl h;have hne:(i:Int)≠dL fs:=by
   intro q;have:=AL (fs:=fs);unfold dL at q;cases hfi:fs.findIdx? (λf=>decide (64 < f.2.1.length)) with
   | none=>rw[hfi]at q;simp at q
   | some m=>
     rw[hfi]at q;rw[A50]at hfi;obtain⟨hm,a,_⟩:=hfi;have q:i=m:=by have q:(i:Int)=(m:Int):=q;omega
     subst q;rw[(A8.1 hf).2]at a;simp at a;omega
  have:=key h1 (.inr h2) (λj hj u hu=>⟨hne,h3 j hj u hu⟩)
  unfold EO;rw[this];show(if(i:Int)=dL fs then _ else(Jr vs ms cs fs _,(i:Int),(k:Int)))=_
  rw[if_neg hne,Ho hf,h4]
theorem ae2(hn:∀(j:Nat) g,fs[j]?=some g->(zA vs ms cs fs g.2.1).1=0):EO vs ms cs fs=(0,-1,-1):=by
 have hl:dL fs = -1:=AL λj g hg=>(zC (hn j g hg)).1
 rw[PG λj d hd=>?_,if_neg (by rw[hl];simp)]
 obtain⟨k,x,m,e,h1,h2,rfl⟩:=vV _ _ (ig hd);rw[show(0+k:Nat)=k by omega,Ho h1,hl]
 exact⟨by show¬((k:Int) = -1);omega,(zC (hn k x h1)).2 m e h2⟩
theorem Hq:∀(l:List FD) (n m:Nat),(∀x∈l,x.2.1.length<=m)->(jK n l).length<=l.length * m
 | [],n,m,h=>by simp[jK]
 | x :: l,n,m,h=>by
   have:=Hq l (n+1) m λy hy=>h y (by simp[hy])
   have:=h x (by simp)
   have e:(qg n x).length=x.2.1.length:=by simp[qg]
   simp only[jK,ku,wS,wW];omega
theorem Vp(h:Vo vs ms cs fs ts=true):bnd ((vs,ms,cs,fs,ts,()),()):=by
 unfold Vo at h;rw[bV,dH,Nz]at h;obtain⟨⟨h1,h2,h3,h4,h5⟩,h6⟩:=h;have h6:∀x∈fs,x.2.1.length<=100:=λx hx=>by simpa using h6 x hx
 have:=Hq fs 0 100 h6;refine⟨?_,?_,?_,?_,?_,λx hx=>?_,?_⟩
 .show vs.length<=_;omega
 .show ms.length<=_;omega
 .show cs.length<=_;omega
 .show fs.length<=_;omega
 .show ts.length<=_;omega
 .have:=h6 x hx;omega
 .show(jK 0 fs).length<=_;omega
theorem Js(h:(BM vs ms cs fs).1≠0):aG vs ms cs fs ts=BM vs ms cs fs:=by unfold aG;rw[if_pos h]
theorem ZX(z:(BM vs ms cs fs).1=0) (h:zV vs ms cs fs≠0):aG vs ms cs fs ts=(zV vs ms cs fs,-1,-1):=by unfold aG;rw[if_neg (λq=>q z),if_pos h]
theorem akf(z:(BM vs ms cs fs).1=0) (z2:zV vs ms cs fs=0) (h:(EO vs ms cs fs).1≠0):aG vs ms cs fs ts=EO vs ms cs fs:=by unfold aG;rw[if_neg (λq=>q z),if_neg (λq=>q z2),if_pos h]
theorem akg(z:(BM vs ms cs fs).1=0) (z2:zV vs ms cs fs=0) (z3:(EO vs ms cs fs).1=0):aG vs ms cs fs ts=(CP fs ts,-1,-1):=by
 unfold aG;rw[if_neg (λq=>q z),if_neg (λq=>q z2),if_neg (λq=>q z3)]
 split
 .rfl
 .rename_i h;rw[JZ.1 h]
abbrev Jt:CT:={ ps:=[o7],pre:=λd=>bnd d,res:=λd=>([],.iq [.c (.v (.int .i64 (aG d.1.1 d.1.2.1 d.1.2.2.1 d.1.2.2.2.1 d.1.2.2.2.2.1).1)),.c (.v (.int .i64 (aG d.1.1 d.1.2.1 d.1.2.2.1 d.1.2.2.2.1 d.1.2.2.2.2.1).2.1)),.c (.v (.int .i64 (aG d.1.1 d.1.2.1 d.1.2.2.1 d.1.2.2.2.1 d.1.2.2.2.2.1).2.2))]) }
abbrev anM(vs:List VD) (ms cs:List ByteArray) (fs:List FD) (ts:List SD):Nat->Option (St->jq):=λk=>match k with
 | 17=>some λ_=>.inv { α:=Nat,slots:=λk=>[(15,.c (.v (.int .i64 k)))],res:=λ_=>[],inv:=λk=>k<=vs.length/\∀j < k,∀v,vs[j]?=some v->bU v.2.1=true,meas:=λk=>vs.length - k }
 | 22=>some λ_=>.inv { α:=Nat,slots:=λk=>[(16,.c (.v (.int .i64 k)))],res:=λ_=>[],inv:=λk=>k<=fs.length/\∀j < k,∀g,fs[j]?=some g->(zA vs ms cs fs g.2.1).1=0,meas:=λk=>fs.length - k }
 | _=>none
theorem akh(vs:List VD) (ms cs:List ByteArray) (fs:List FD) (ts:List SD) (aF:Jt.pre ((vs,ms,cs,fs,ts,()),())):
 let z6:=aG vs ms cs fs ts;let z4:=[cI (z6.fst),cI (z6.snd.fst),cI (z6.snd.snd)];let z7:=gJ (ji fs);let z3:=λ(x:Nat)=>(x<=vs.length/\∀(j:Nat),j < x->∀(v:ByteArray×Int×Unit),vs[j]?=some v->bU v.snd.fst=true);let z1:=[g0 (ay.blk 27 [SC.sl EM vs,SC.sl Sh.str ms,SC.sl Sh.str cs,SC.sl Bq fs,SC.sl lS ts]),g0 (ay.row 9 Sh.str (gY vs)),g0 (ay.row 9 Sh.str (ji fs))];let z5:=λ(x:Nat)=>(x:Int)+(1:Int);let z2:=λ(x:Nat)=>(x<=fs.length/\∀(j:Nat),j < x->∀(g:ByteArray×List ID×Unit),fs[j]?=some g->(zA vs ms cs fs g.snd.fst).fst=0);(vs.length<=1000000/\fs.length<=1000000)/\(gY vs).length<=1000000/\br (!decide ((gJ (gY vs)).fst=0)) (rT z4 [cI ((gJ (gY vs)).fst),cI (-1),cI (-1)]) (ms.length<=1000000/\br (!decide ((gJ ms).fst=0)) (rT z4 [cI ((gJ ms).fst),cI (-1),cI (-1)]) (cs.length<=1000000/\br (!decide ((gJ cs).fst=0)) (rT z4 [cI ((gJ cs).fst),cI (-1),cI (-1)]) ((ji fs).length<=1000000/\br (!decide (z7.fst=0)) (rT z4 [cI (z7.fst),cI (if z7.fst=0 then(0:Int) else z7.snd),cI (-1)]) (br (decide (8 < (vs.length:Int)) || decide (4 < (ms.length:Int)) || decide (4 < (cs.length:Int)) || decide (8 < (fs.length:Int))) (rT z4 [cI 4,cI (-1),cI (-1)]) ((∃x,(z3 x)/\(cI 0=cI (x:Int)/\True)/\sm z1)/\∀(x:Nat),(z3 x)->br (decide ((x:Int) < (vs.length:Int))) ((0<=(x:Int)/\(x:Int) < (vs.length:Int))/\∀(d:ByteArray×(I6.pair Sh.unit).den),vs[(x:Int).toNat]?=some d->True/\br (!bU (d.snd.fst,()).fst) (rT z4 [cI 2,cI (-1),cI (-1)]) (iR (z5 x)/\∃x',(z3 x')/\(cI (z5 x)=cI (x':Int)/\True)/\sm z1/\vs.length - x' < vs.length - x)) ((∃x,(z2 x)/\(cI 0=cI (x:Int)/\True)/\sm z1)/\∀(x:Nat),(z2 x)->br (decide ((x:Int) < (fs.length:Int))) ((0<=(x:Int)/\(x:Int) < (fs.length:Int))/\∀(d:ByteArray×(lG.sl.pair Sh.unit).den),fs[(x:Int).toNat]?=some d->True/\br (!decide ((zA vs ms cs fs (d.snd.fst,()).fst).fst=0)) (rT z4 [cI ((zA vs ms cs fs (d.snd.fst,()).fst).fst),cI (x:Int),cI ((zA vs ms cs fs (d.snd.fst,()).fst).snd)]) (iR (z5 x)/\∃x',(z2 x')/\(cI (z5 x)=cI (x':Int)/\True)/\sm z1/\fs.length - x' < fs.length - x)) (True/\rT z4 [cI (CP fs ts),cI (-1),cI (-1)]))))))):=by
 conv=>zeta
 delta cI g0 rT sm I6 iR;obtain⟨h1,h2,h3,h4,h5,h6,h7⟩:bnd ((vs,ms,cs,fs,ts,()),()):=aF;have h1:vs.length<=1000000:=h1;have h4:fs.length<=1000000:=h4;refine⟨⟨h1,h4⟩,by simpa[gY]using h1,ah.2 ⟨λa=>⟨rfl,?_⟩,λa=>⟨h2,ah.2 ⟨λb=>⟨rfl,?_⟩,λb=>⟨h3,ah.2 ⟨λc=>⟨rfl,?_⟩,λc=>⟨by simpa[ji]using h4,ah.2 ⟨λd=>⟨rfl,?_⟩,λd=>?_⟩⟩⟩⟩⟩⟩⟩⟩
 all_goals try simp only[Dc,wR,dH,eH]at a
 all_goals try simp only[Dc,wR,dH,eH]at b
 all_goals try simp only[Dc,wR,dH,eH]at c
 all_goals try simp only[Dc,wR,dH,eH]at d
 .have e:BM vs ms cs fs=((gJ (gY vs)).1,-1,-1):=by unfold BM;rw[if_pos a]
  rw[Js (by rw[e];exact a),e]
 .have e:BM vs ms cs fs=((gJ ms).1,-1,-1):=by unfold BM;rw[if_neg (λq=>q a),if_pos b]
  rw[Js (by rw[e];exact b),e]
 .have e:BM vs ms cs fs=((gJ cs).1,-1,-1):=by unfold BM;rw[if_neg (λq=>q a),if_neg (λq=>q b),if_pos c]
  rw[Js (by rw[e];exact c),e]
 all_goals have e:BM vs ms cs fs=((gJ (ji fs)).1,(gJ (ji fs)).2,-1):=by unfold BM;rw[if_neg (λq=>q a),if_neg (λq=>q b),if_neg (λq=>q c)]
 .rw[Js (by rw[e];exact d),e,if_neg d]
 have z:(BM vs ms cs fs).1=0:=by rw[e];exact d
 clear e a b c d
 by_cases hc:8 < vs.length\/4 < ms.length\/4 < cs.length\/8 < fs.length
 .have e:zV vs ms cs fs=4:=by unfold zV;rw[if_pos hc]
  rw[ZX z (by rw[e];simp),e]
  refine ah.2 ⟨λ_=>⟨rfl,rfl⟩,λh=>?_⟩
  simp only[lX,eH]at h;omega
 refine ah.2 ⟨λh=>?_,λ_=>⟨⟨0,⟨by omega,λj hj=>by omega⟩,⟨rfl,trivial⟩,rfl⟩,λk hk=>ah.2 ⟨λh=>?_,λh=>⟨⟨0,⟨by omega,λj hj=>by omega⟩,⟨rfl,trivial⟩,rfl⟩,λm hm=>ah.2 ⟨λh8=>?_,λh8=>⟨trivial,rfl,?_⟩⟩⟩⟩⟩⟩
 .simp only[wz,dH]at h;omega
 .simp only[dH]at h;have hN:(k:Int).toNat=k:=by omega
  rw[hN];refine⟨by omega,λd hd=>⟨trivial,ah.2 ⟨λh9=>⟨rfl,?_⟩,λh9=>⟨ak.2 (by omega),k+1,⟨by omega,λj hj v hv=>?_⟩,⟨rfl,trivial⟩,rfl,by omega⟩⟩⟩⟩
  .have h9:bU d.2.1=false:=by simpa using h9
   have e:zV vs ms cs fs=2:=by
    unfold zV;rw[if_neg hc,if_neg];intro hh;rw[Nz]at hh;have:=hh d (ig hd);rw[h9]at this;cases this
   rw[ZX z (by rw[e];simp),e]
  .have h9:bU d.2.1=true:=by simpa using h9
   by_cases gQ:j=k
   .subst gQ;rw[hd]at hv;cases hv;exact h9
   .exact hk.2 j (by omega) v hv
 all_goals
  simp only[eH]at h;have z2:zV vs ms cs fs=0:=by
   unfold zV;rw[if_neg hc,if_pos];rw[Nz];intro v hv;obtain⟨j,hj⟩:=yg hv;exact hk.2 j (by have:=(A8.1 hj).1;omega) v hj
 .simp only[dH]at h8;have hN:(m:Int).toNat=m:=by omega
  rw[hN];refine⟨by omega,λd hd=>⟨trivial,ah.2 ⟨λh9=>⟨rfl,?_⟩,λh9=>⟨ak.2 (by omega),m+1,⟨by omega,λj hj v hv=>?_⟩,⟨rfl,trivial⟩,rfl,by omega⟩⟩⟩⟩
  .have h9:(zA vs ms cs fs d.2.1).1≠0:=by simpa using h9
   have e:=ZW hd h9 hm.2;rw[akf z z2 (by rw[e];exact h9),e]
  .have h9:(zA vs ms cs fs d.2.1).1=0:=by simpa using h9
   by_cases gQ:j=m
   .subst gQ;rw[hd]at hv;cases hv;exact h9
   .exact hm.2 j (by omega) v hv
 .simp only[eH]at h8;have e:=ae2 (vs:=vs) (ms:=ms) (cs:=cs) λj g hj=>hm.2 j (by have:=(A8.1 hj).1;omega) g hj
  rw[akg z z2 (by rw[e])]
theorem Rx:aT aS.gd 66 Jt:=
 jD (cx:=aS) (n:=120) (cl:=[(132,ZT),(133,PI),(134,Pq),(135,ahr),(136,aho)]) au ⟨ZU,ZR,Me,ZV,ZO,trivial⟩ Tryz.func66 λd hd=>by
  obtain⟨⟨vs,ms,cs,fs,ts,⟨⟩⟩,⟨⟩⟩:=d;exact aI (anM vs ms cs fs ts) (akh vs ms cs fs ts hd) (by kernel_rfl)
abbrev Ju:CT:={ ps:=[o7],pre:=λd=>bnd d,res:=λd=>([],vB (decide ((aG d.1.1 d.1.2.1 d.1.2.2.1 d.1.2.2.2.1 d.1.2.2.2.2.1).1=0))) }
abbrev aki:CT:={ ps:=[.sl (.int .i64),.int .i64],pre:=λd=>d.1.length<=4611686018427387904,res:=λd=>([],vB (dP d.1 d.2.1)) }
abbrev akj(l:List Int) (x:Int):Nat->Option (St->jq):=λk=>match k with
 | 2=>some λ_=>.inv { α:=Nat,slots:=λk=>[(5,.c (.v (.int .i64 k)))],res:=λ_=>[],inv:=λk=>k<=l.length/\∀j,j < k->∀b,l[j]?=some b->¬(b=x),meas:=λk=>l.length - k }
 | _=>none
theorem ae3(l:List Int) (x:Int) (aF:aki.pre (l,x,())):
 let z1:=λ(x_1:Nat)=>(x_1<=l.length/\∀(j:Nat),j < x_1->∀(b:Int),l[j]?=some b->¬b=x);(∃x_1,(z1 x_1)/\(cI 0=cI (x_1:Int)/\True)/\([]:List dJ)=[])/\∀(x_1:Nat),(z1 x_1)->br (decide ((x_1:Int) < (l.length:Int))) ((0<=(x_1:Int)/\(x_1:Int) < (l.length:Int))/\∀(d:Int),l[(x_1:Int).toNat]?=some d->br (decide (d=x)) (qB (dP l x) true) (iR ((x_1:Int)+(1:Int))/\∃x',(x'<=l.length/\∀(j:Nat),j < x'->∀(b:Int),l[j]?=some b->¬b=x)/\(cI ((x_1:Int)+(1:Int))=cI (x':Int)/\True)/\([]:List dJ)=[]/\l.length - x' < l.length - x_1)) (qB (dP l x) false):=by
 conv=>zeta
 delta dJ cI qB iR;have hp:l.length<=4611686018427387904:=aF;refine⟨⟨0,⟨by omega,λj hj=>by omega⟩,⟨rfl,trivial⟩,rfl⟩,λk hk=>ah.2 ⟨λh=>?_,λh=>?_⟩⟩
 .simp only[dH]at h;refine⟨by omega,λd hd=>ah.2 ⟨λh2=>?_,λh2=>?_⟩⟩
  .simp only[dH]at h2;have hm:dP l x=true:=J9.2 ⟨d,ig hd,by simpa using h2⟩
   rw[hm];exact⟨rfl,rfl⟩
  .simp only[eH]at h2;have hd:l[k]?=some d:=by simpa using hd
   refine⟨ak.2 (by omega),k+1,⟨by omega,λj hj b hb=>?_⟩,⟨by simp,trivial⟩,rfl,by omega⟩
   by_cases hjx:j=k
   .subst hjx;rw[hd]at hb;cases hb;exact h2
   .exact hk.2 j (by omega) b hb
 .simp only[eH]at h;have hm:dP l x=false:=by
   unfold dP;rw[TV];intro b hb;obtain⟨j,hj⟩:=yg hb;have:=(A8.1 hj).1;simpa using hk.2 j (by omega) b hj
  rw[hm];exact⟨rfl,rfl⟩
theorem ZY:aT aS.gd 172 aki:=
 jD (cx:=aS) (n:=18) (cl:=[]) au trivial Tryz.func172 λd hd=>by
  obtain⟨l,x,⟨⟩⟩:=d;exact⟨akj l x,cast (by kernel_rfl) (ae3 l x hd)⟩
theorem Z4{p:Int->Bool}:∀{l:List Int}{k:Nat},k<=l.length->(∀j,j < k->∀b,l[j]?=some b->p b=true)->(∀b,l[k]?=some b->p b=false)->(l.takeWhile p).length=k
 | [],k,h,_,_=>by simp at h;simp[h]
 | a :: l,0,_,_,h2=>by simp[TT,h2 a rfl]
 | a :: l,k+1,h,h1,h2=>by
   have h0:=h1 0 (by omega) a rfl
   simp only[TT,h0,if_true,wS];rw[Z4 (by simpa using h) (λj hj b hb=>h1 (j+1) (by omega) b hb) (λb hb=>h2 b hb)]
abbrev akk:CT:={ ps:=[.sl (.int .i64),.int .i64],pre:=λd=>d.1.length<=1000000,res:=λd=>([.row 3 (.int .i64) (d.1.take (zl d.1 d.2.1)++[d.2.1]++d.1.drop (zl d.1 d.2.1))],.one (.c (.row 0))) }
abbrev akl(l:List Int) (x:Int):Nat->Option (St->jq):=λk=>match k with
 | 2=>some λ_=>.inv { α:=Nat,slots:=λk=>[(5,.c (.v (.int .i64 k)))],res:=λ_=>[],inv:=λk=>k<=l.length/\∀j,j < k->∀b,l[j]?=some b->b < x,meas:=λk=>l.length - k }
 | _=>none
theorem ae4(l:List Int) (x:Int) (aF:akk.pre (l,x,())):
 let z1:=λ(x_1:Nat)=>(x_1<=l.length/\∀(j:Nat),j < x_1->∀(b:Int),l[j]?=some b->b < x);let z3:=λ(x_1:Nat)=>(x_1:Int) < (l.length:Int);let z4:=λ(x_1:Nat)=>List.take (x_1:Int).toNat l;let z2:=List.take (l.length:Int).toNat l;(∃x_1,(z1 x_1)/\(cI 0=cI (x_1:Int)/\True)/\([]:List dJ)=[])/\∀(x_1:Nat),(z1 x_1)->(decide (z3 x_1)=true->0<=(x_1:Int)/\(x_1:Int) < (l.length:Int))/\∀(d:Int),(decide (z3 x_1)=true->l[(x_1:Int).toNat]?=some d)->br (decide (z3 x_1) && decide (d < x)) (iR ((x_1:Int)+(1:Int))/\∃x',(x'<=l.length/\∀(j:Nat),j < x'->∀(b:Int),l[j]?=some b->b < x)/\(cI ((x_1:Int)+(1:Int))=cI (x':Int)/\True)/\([]:List dJ)=[]/\l.length - x' < l.length - x_1) (((0:Int)<=(0:Int)/\0<=(x_1:Int)/\(x_1:Int)<=(l.length:Int))/\nO (0+List.length (List.drop 0 (z4 x_1))) 8/\nO (List.length (([]++List.drop 0 (z4 x_1)))+List.length ([x])) 8/\(0<=(x_1:Int)/\(x_1:Int)<=(l.length:Int)/\(l.length:Int)<=(l.length:Int))/\nO (List.length ((([]++List.drop 0 (z4 x_1))++[x]))+List.length (List.drop (x_1:Int).toNat z2)) 8/\[ay.row 3 I6 (List.take (zl l x) l++[x]++List.drop (zl l x) l)]=[ay.row 3 I6 ((([]++List.drop 0 (z4 x_1))++[x])++List.drop (x_1:Int).toNat z2)]/\aZ.one (SV.c (SC.row 0))=aZ.one (SV.c (SC.row 0))):=by
 conv=>zeta
 delta dJ cI I6 iR;have hp:l.length<=1000000:=aF;refine⟨⟨0,⟨by omega,λj hj=>by omega⟩,⟨rfl,trivial⟩,rfl⟩,λk hk=>⟨λh=>by simp only[dH]at h;omega,λd hd=>ah.2 ⟨λh=>?_,λh=>?_⟩⟩⟩
 .simp only[bV,dH]at h;have hd:l[k]?=some d:=by simpa using hd (by simpa using h.1)
  refine⟨ak.2 (by omega),k+1,⟨by omega,λj hj b hb=>?_⟩,⟨by simp,trivial⟩,rfl,by omega⟩
  by_cases hjx:j=k
  .subst hjx;rw[hd]at hb;cases hb;exact h.2
  .exact hk.2 j (by omega) b hb
 .have hpos:zl l x=k:=by
   refine Z4 hk.1 (λj hj b hb=>by simpa using hk.2 j hj b hb) λb hb=>?_
   have hkl:=(A8.1 hb).1;have hd:l[k]?=some d:=by simpa using hd (by simpa using hkl)
   rw[hd]at hb;cases hb;simp only[A70,eH]at h;rcases h with h | h
   .omega
   .simpa using h
  have e1:((k:Int)).toNat=k:=by simp
  have e2:((l.length:Int)).toNat=l.length:=by simp
  rw[hpos];simp only[e1,e2,NK,VX,TN,eF,ku,kV,yc,wS,J3];refine⟨by omega,by omega,by omega,by omega,by omega,?_⟩
  simp
theorem Z5:aT aS.gd 207 akk:=
 jD (cx:=aS) (n:=36) (cl:=[]) au trivial Tryz.func207 λd hd=>by
  obtain⟨l,x,⟨⟩⟩:=d;exact⟨akl l x,cast (by kernel_rfl) (ae4 l x hd)⟩
abbrev akm:CT:={ ps:=[.sl (.int .i64)],pre:=λd=>d.1.length<=1000000,res:=λd=>([.row 3 (.int .i64) (bD d.1)],.one (.c (.row 0))) }
abbrev akn(l:List Int):Nat->Option (St->jq):=λk=>match k with
 | 3=>some λ_=>.inv { α:=Nat,slots:=λk=>[(4,.c (.v (.int .i64 k))),(3,.c (.row 0))],res:=λk=>[(0,.row 3 (.int .i64) (bD (l.take k)))],inv:=λk=>k<=l.length,meas:=λk=>l.length - k,ren:=[(0,1)],drop:=[5] }
 | _=>none
theorem ae5(l:List Int) (aF:akm.pre (l,())):
 let z4:=λ(x:Nat)=>bD (List.take x l);let z3:=λ(x:Nat)=>[g0 (ay.row 3 I6 (z4 x))];let z2:=λ(x:Nat)=>0<=(x:Int)/\(x:Int) < (l.length:Int);let z1:=λ(x x':Nat)=>cI ((x:Int)+(1:Int))=cI (x':Int)/\SV.c (SC.row 0)=SV.c (SC.row 0)/\True;(∃x,x<=l.length/\(cI 0=cI (x:Int)/\SV.c (SC.row 0)=SV.c (SC.row 0)/\True)/\[g0 (ay.row 3 I6 [])]=(z3 x))/\∀(x:Nat),x<=l.length->br (decide ((x:Int) < (l.length:Int))) ((z2 x)/\∀(d:Int),l[(x:Int).toNat]?=some d->(z4 x).length<=4611686018427387904/\br (!dP (z4 x) d) ((z2 x)/\∀(d:Int),l[(x:Int).toNat]?=some d->(z4 x).length<=1000000/\iR ((x:Int)+(1:Int))/\∃x',x'<=l.length/\(z1 x x')/\[g0 (ay.row 3 I6 (List.take (zl (z4 x) d) (z4 x)++[d]++List.drop (zl (z4 x) d) (z4 x)))]=(z3 x')/\l.length - x' < l.length - x) (iR ((x:Int)+(1:Int))/\∃x',x'<=l.length/\(z1 x x')/\(z3 x)=(z3 x')/\l.length - x' < l.length - x)) ([ay.row 3 I6 (bD l)]=[ay.row 3 I6 (z4 x)]/\aZ.one (SV.c (SC.row 0))=aZ.one (SV.c (SC.row 0))):=by
 conv=>zeta
 delta cI g0 I6 iR;have hp:l.length<=1000000:=aF;have hlen:∀k,(bD (l.take k)).length<=l.length:=λk=>o8 (G8 _) (by simp;omega)
 refine⟨⟨0,by omega,⟨rfl,rfl,trivial⟩,rfl⟩,λk hk=>ah.2 ⟨λh=>?_,λh=>?_⟩⟩
 .simp only[dH]at h;refine⟨by omega,λd hd=>⟨by have:=hlen k;omega,ah.2 ⟨λh2=>⟨by omega,λe he=>⟨by have:=hlen k;omega,ak.2 (by omega),k+1,by omega,⟨by simp,rfl,trivial⟩,?_,by omega⟩⟩,
   λh2=>⟨ak.2 (by omega),k+1,by omega,⟨by simp,rfl,trivial⟩,?_,by omega⟩⟩⟩⟩
  .have hd:l[k]?=some d:=by simpa using hd
   have he:l[k]?=some e:=by simpa using he
   rw[hd]at he;cases he;have h2:dP (bD (l.take k)) d=false:=by simpa using h2
   rw[EJ hd,h2];rfl
  .have hd:l[k]?=some d:=by simpa using hd
   have h2:dP (bD (l.take k)) d=true:=by simpa using h2
   rw[EJ hd,h2];rfl
 .simp only[eH]at h;rw[wu (by omega)];exact⟨rfl,rfl⟩
theorem Z7:aT aS.gd 181 akm:=
 jD (cx:=aS) (n:=26) (cl:=[(172,aki),(207,akk)]) au ⟨ZY,Z5,trivial⟩ Tryz.func181 λd hd=>by
  obtain⟨l,⟨⟩⟩:=d;exact⟨akn l,cast (by kernel_rfl) (ae5 l hd)⟩
def aH(n:Int):Int:=if n % 4294967296<=2147483647 then n % 4294967296 else n % 4294967296 - 4294967296
theorem nY(n:Int):-2147483648<=aH n/\aH n<=2147483647:=by
 unfold aH;split<;>omega
theorem EP{n:Int}:aH n=n↔-2147483648<=n/\n<=2147483647:=by
 unfold aH;constructor
 .intro h;split at h<;>omega
 .intro h;split<;>omega
theorem AP{n:Int} (h:n % 4294967296=m % 4294967296):aH n=aH m:=by
 unfold aH;rw[h]
def Z8(n:Int):Int:=
 if(if n.tmod 4294967296 < 0 then n.tmod 4294967296+4294967296 else n.tmod 4294967296) > 2147483647 then
  (if n.tmod 4294967296 < 0 then n.tmod 4294967296+4294967296 else n.tmod 4294967296) - 4294967296
 else(if n.tmod 4294967296 < 0 then n.tmod 4294967296+4294967296 else n.tmod 4294967296)
theorem ER(n:Int) (hm:0 < m):n.tmod m=if 0<=n\/n % m=0 then n % m else n % m - m:=by
 rw[Int.tmod_eq_emod];have h1:(m ∣ n)↔n % m=0:=Int.dvd_iff_emod_eq_zero;simp only[h1];split
 .simp
 .have:(m.natAbs:Int)=m:=by omega
  simp[this]
theorem Z9(n:Int):Z8 n=aH n:=by
 unfold Z8 aH;rw[ER n (by omega)]
 split<;>split<;>split<;>first | omega | (split<;>omega)
def dR(X Y:Nat) (r:List Int):Nat->Int
 | 0=>0
 | i+1=>dR X Y r i+2 ^ i * r.getD (2 * (X / 2 ^ i % 2)+Y / 2 ^ i % 2) 0
theorem Hr{X Y:Nat}{r:List Int} (h:∀v∈r,v=0\/v=1):∀i,0<=dR X Y r i/\dR X Y r i < 2 ^ i
 | 0=>by simp[dR]
 | i+1=>by
   have ih:=Hr (X:=X) (Y:=Y) h i;have hv:r.getD (2 * (X / 2 ^ i % 2)+Y / 2 ^ i % 2) 0=0\/r.getD (2 * (X / 2 ^ i % 2)+Y / 2 ^ i % 2) 0=1:=by
    rw[J7];cases hq:r[2 * (X / 2 ^ i % 2)+Y / 2 ^ i % 2]? with
    | none=>exact .inl rfl
    | some v=>exact h v (ig hq)
   unfold dR;rw[Int.pow_succ];rcases hv with e | e<;>rw[e]<;>omega
theorem Jv(n i:Nat):n % 2 ^ (i+1)=n % 2 ^ i+2 ^ i * (n / 2 ^ i % 2):=by
 rw[Nat.pow_succ,Nat.mod_mul]
theorem Jw(n i:Nat):n / 2 ^ i % 2=(n.testBit i).toNat:=by
 rw[Nat.testBit_eq_decide_div_mod_eq];rcases Nat.mod_two_eq_zero_or_one (n / 2 ^ i) with h | h<;>simp[h]
theorem CU{X Y Z:Nat}{r:List Int} (h:∀i,r.getD (2 * (X.testBit i).toNat+(Y.testBit i).toNat) 0=((Z.testBit i).toNat:Int)):∀i,dR X Y r i=((Z % 2 ^ i:Nat):Int)
 | 0=>by simp[dR,Nat.mod_one]
 | i+1=>by
   unfold dR;rw[CU h i,Jv,Jw,Jw,h,Jw]
   push_cast
   rfl
theorem nZ(x:Int):((BitVec.ofInt 64 x).toNat % 4294967296:Nat)=(x % 4294967296).toNat:=by
 rw[BitVec.toNat_ofInt];omega
theorem sG(n:Int):IntKind.i64.wrap n % 4294967296=n % 4294967296:=by
 simp only[IntKind.wrap,IntKind.bits,IntKind.signed];simp;split<;>omega
theorem sH(n:Nat):((n % 2 ^ 32 % 2 ^ 32:Nat):Int) % 4294967296=(n:Int) % 4294967296:=by omega
theorem aac{x:Int}:aH (dR (x % 4294967296).toNat (y % 4294967296).toNat [0,0,0,1] 32)=aH (kM .and .i64 x y):=by
 apply AP;rw[CU (Z:=(x % 4294967296).toNat &&& (y % 4294967296).toNat) λi=>by
  rw[Nat.testBit_and];cases ((x % 4294967296).toNat.testBit i)<;>cases ((y % 4294967296).toNat.testBit i)<;>rfl]
 simp only[kM];rw[sG,BitVec.toNat_and,<-nZ,<-nZ];rw[show(4294967296:Nat)=2 ^ 32 from rfl,<-Nat.and_mod_two_pow]
 exact sH _
theorem ae6{x:Int}:aH (dR (x % 4294967296).toNat (y % 4294967296).toNat [0,1,1,1] 32)=aH (kM .or .i64 x y):=by
 apply AP;rw[CU (Z:=(x % 4294967296).toNat ||| (y % 4294967296).toNat) λi=>by
  rw[Nat.testBit_or];cases ((x % 4294967296).toNat.testBit i)<;>cases ((y % 4294967296).toNat.testBit i)<;>rfl]
 simp only[kM];rw[sG,BitVec.toNat_or,<-nZ,<-nZ];rw[show(4294967296:Nat)=2 ^ 32 from rfl,<-Nat.or_mod_two_pow]
 exact sH _
theorem aad{x:Int}:aH (dR (x % 4294967296).toNat (y % 4294967296).toNat [0,1,1,0] 32)=aH (kM .xor .i64 x y):=by
 apply AP;rw[CU (Z:=(x % 4294967296).toNat ^^^ (y % 4294967296).toNat) λi=>by
  rw[Nat.testBit_xor];cases ((x % 4294967296).toNat.testBit i)<;>cases ((y % 4294967296).toNat.testBit i)<;>rfl]
 simp only[kM];rw[sG,BitVec.toNat_xor,<-nZ,<-nZ];rw[show(4294967296:Nat)=2 ^ 32 from rfl,<-Nat.xor_mod_two_pow]
 exact sH _
def dY(f a b:Int):Int×Int:=
 if f=1 then(aH (aH a+aH b),0) else if f=2 then(aH (aH a - aH b),0) else if f=3 then(aH (aH a * aH b),0)
 else if f=4 then(aH (kM .and .i64 (aH a) (aH b)),0) else if f=5 then(aH (kM .or .i64 (aH a) (aH b)),0) else if f=6 then(aH (kM .xor .i64 (aH a) (aH b)),0)
 else if f=7 then(if aH a=aH b then 1 else 0,0) else if f=8 then(if aH a=aH b then 0 else 1,0) else if f=9 then(if aH a < aH b then 1 else 0,0)
 else if f=10 then(if aH a<=aH b then 1 else 0,0) else(0,8)
theorem PN(f a b:Int):-2147483648<=(dY f a b).1/\(dY f a b).1<=2147483647:=by
 unfold dY
 repeat' split
 all_goals first | exact nY _ | (constructor<;>omega)
def dS:Nat->Int->Int->Int
 | 0,_,_=>-1
 | n+1,d,id=>if id < 8 then d else if 7<=id.tmod 8 then -1 else dS n (d+1) (id.tdiv 8 - 1)
def aV(id:Int):Int:=if id < 0 then -1 else dS 5 0 id
theorem xR:∀(n:Nat) (d id:Int),0<=d->dS n d id = -1\/(d<=dS n d id/\dS n d id < d+n)
 | 0,d,id,h=>.inl rfl
 | n+1,d,id,h=>by
   unfold dS;split
   .right;omega
   .split
    .exact .inl rfl
    .rcases xR n (d+1) (id.tdiv 8 - 1) (by omega) with e | e
     .exact .inl e
     .right;omega
theorem ES(id:Int):-1<=aV id/\aV id<=4:=by
 unfold aV;split
 .omega
 .rcases xR 5 0 id (by omega) with e | e<;>omega
theorem zD:∀(n:Nat) (d id r:Int),dS (n+1) d id=r->0<=d->0<=r->r < d+n->dS n (d+1) id=r+1
 | 0,d,id,r,h,h0,h1,h2=>by
   have h:dS 1 d id=r:=h;rcases xR 1 d id h0 with e | e<;>omega
 | n+1,d,id,r,h,h0,h1,h2=>by
   unfold dS at h ⊢
   split at h
   .rename_i q;rw[if_pos q];omega
   .rename_i q;rw[if_neg q];split at h
    .omega
    .rename_i q2;rw[if_neg q2];exact zD n (d+1) _ r h (by omega) h1 (by omega)
def PO:Nat->Int
 | 0=>0
 | n+1=>8 * (PO n+1)
theorem Ht:∀(n:Nat) (d id:Int),0<=d->0<=id->0<=dS n d id->id < PO n
 | 0,d,id,h0,h1,h2=>by simp[dS]at h2
 | n+1,d,id,h0,h1,h2=>by
   have hp:0<=PO n:=by
    clear h2
    induction n with
    | zero=>simp[PO]
    | succ n ih=>unfold PO;omega
   unfold dS at h2;unfold PO;split at h2
   .omega
   .split at h2
    .omega
    .have e:id.tdiv 8=id / 8:=A71 h1;rw[e]at h2;have:=Ht n (d+1) (id / 8 - 1) (by omega) (by omega) h2
     omega
theorem lW(h:0<=aV id):0<=id/\id < 37448:=by
 unfold aV at h;split at h
 .omega
 .have:=Ht 5 0 id (by omega) (by omega) h
  simp only[PO]at this;omega
def bY(id ch:Int):Int×Bool:=if aV id < 0\/aV id=4\/ch < 0\/7<=ch then(0,false) else(8 * (id+1)+ch,true)
def Ry(id:Int):Int×Bool:=if aV id < 1 then(0,false) else(id.tdiv 8 - 1,true)
def iC(id:Int):Int:=if aV id < 0 then 0 else aV id
theorem Bv(h0:0<=aV id) (h4:aV id≠4) (c0:0<=ch) (c7:ch < 7):aV (8 * (id+1)+ch)=aV id+1/\(8 * (id+1)+ch).tdiv 8 - 1=id:=by
 obtain⟨i0,i1⟩:=lW h0;have e1:(8 * (id+1)+ch).tdiv 8=id+1:=by rw[A71 (by omega)];omega
 have e2:(8 * (id+1)+ch).tmod 8=ch:=by rw[ahG (by omega)];omega
 have hr:=ES id;refine⟨?_,by omega⟩
 have hd:aV (8 * (id+1)+ch)=dS 4 1 id:=by
  unfold aV;rw[if_neg (by omega)]
  rw[dS,if_neg (by omega),e2,if_neg (by omega),e1,show id+1 - 1=id by omega]
  rfl
 rw[hd];have:aV id=dS 5 0 id:=by unfold aV;rw[if_neg (by omega)]
 exact zD 4 0 id _ this.symm (by omega) h0 (by omega)
abbrev dX:Sh:=.pair (.int .i64) (.pair (.int .i64) (.pair (.int .i64) (.pair (.arr 8 (.int .i64)) (.pair (.int .i64) (.pair (.int .i64) (.pair (.int .i64) (.pair (.int .i64) (.pair (.int .i64) (.pair (.sl (.int .i64)) .unit)))))))))
abbrev TD:=Int×Int×Int×List Int×Int×Int×Int×Int×Int×List Int×Unit
variable {t:TD}
def jr(op:Int):Bool:=decide (8<=op/\op<=22)
def mG(i:ID):Int×Bool:=if tZ i≠0\/use i.1 0=false then(0,false) else(i.2.1,true)
def codeF(fs:List FD) (fn:Int):List ID:=(fs.getD fn.toNat (⟨#[]⟩,[],())).2.1
def mW(fs:List FD) (fn pc:Int):Option ID:=(codeF fs fn)[pc.toNat]?
def atR(fs:List FD) (fn pc:Int):ID×Bool:=match mW fs fn pc with
 | some i=>(i,true)
 | none=>((0,0,0,0,0,0,0,0,()),false)
def jv(id ch ph:Int) (hd:List Int) (i:ID):Int:=
 if ph≠0 then 0 else if i.1=18 then(if dP hd i.2.2.2.2.2.1=true then 0 else 27) else if i.1=16 then(if dP hd i.2.2.2.2.1=true then 0 else 27)
 else if i.1=21 then(if(bY id ch).2=true then 0 else 28) else 0
def dh(ms:List ByteArray) (fs:List FD) (bound:Int):TD->Prop
 | (id,fn,pc,rg,st,ch,ph,su,fa,hd,_)=>0<=aV id/\(0<=fn/\fn < fs.length)/\(0<=pc/\pc<=(codeF fs fn).length)/\(∀k < 8,∀r,rg[k]?=some r->bU r=true) /\
   (0<=st/\st<=bound)/\(0<=ch/\ch<=7/\(aV id=4->ch=0))/\SS hd/\(∀m∈hd,0<=m/\m < ms.length) /\
   (ph=0\/((ph=1\/ph=2)/\∃i,mW fs fn pc=some i/\i.1=18/\dP hd i.2.2.2.2.2.1=false))
open Classical in
def iL(ms:List ByteArray) (fs:List FD) (bound:Int) (t:TD):Bool:=decide (dh ms fs bound t)
def fP:TD->ID->TD×Bool
 | (id,fn,pc,rg,st,ch,ph,su,fa,hd,_),(op,a,b,c,obj,n,f,_,_)=>
   if op=1 then((id,fn,pc+1,rg.set a.toNat n,st,ch,ph,su,fa,hd,()),true)
   else if op=2 then((id,fn,pc+1,rg.set a.toNat (rg.getD b.toNat 0),st,ch,ph,su,fa,hd,()),true)
   else if op=3 then((id,fn,pc+1,if(dY f (rg.getD b.toNat 0) (rg.getD c.toNat 0)).2=0 then rg.set a.toNat (dY f (rg.getD b.toNat 0) (rg.getD c.toNat 0)).1 else rg,st,ch,ph,su,fa,hd,()),true)
   else if op=4 then((id,fn,n,rg,st,ch,ph,su,fa,hd,()),true)
   else if op=5 then((id,fn,if rg.getD b.toNat 0=0 then pc+1 else n,rg,st,ch,ph,su,fa,hd,()),true)
   else if op=6/\rg.getD b.toNat 0=0 then((id,fn,pc,rg,st,ch,ph,3,26,hd,()),false)
   else if op=7 then((id,fn,pc,rg,st,ch,ph,2,0,hd,()),false)
   else((id,fn,pc+1,rg,st,ch,ph,su,fa,hd,()),true)
def Jy:TD->Int->Int->TD
 | (id,fn,pc,rg,st,ch,ph,_,_,hd,_),s,f=>(id,fn,pc,rg,st,ch,ph,s,f,hd,())
def topS(fs:List FD) (bound:Int) (t:TD) (rest:ID->TD):TD:=match t with
 | (id,fn,pc,rg,st,ch,ph,su,fa,hd,_)=>match mW fs fn pc with
   | none=>(id,fn,pc,rg,st,ch,ph,2,0,hd,())
   | some i=>if jr i.1=true then
    (if jv id ch ph hd i≠0 then(id,fn,pc,rg,st,ch,ph,3,jv id ch ph hd i,hd,()) else if st=bound then(id,fn,pc,rg,st,ch,ph,4,0,hd,()) else(id,fn,pc,rg,st,ch,ph,su,fa,hd,()))
     else rest i
def fU(fs:List FD) (bound:Int):Nat->TD->TD
 | 0,t=>topS fs bound t λ_=>Jy t 3 29
 | k+1,t=>topS fs bound t λi=>if(fP t i).2=true then fU fs bound k (fP t i).1 else(fP t i).1
def uf(ms:List ByteArray) (fs:List FD) (bound:Int):TD->Prop
 | (id,fn,pc,rg,st,ch,ph,su,fa,hd,u)=>dh ms fs bound (id,fn,pc,rg,st,ch,ph,su,fa,hd,u) /\
   (((su=1/\st < bound\/su=4/\1<=st)/\fa=0/\∃i,mW fs fn pc=some i/\jr i.1=true/\jv id ch ph hd i=0) \/
    (su=2/\fa=0/\ph=0/\∀i,mW fs fn pc=some i->i.1=7) \/
    (su=3/\ph=0/\∃i,mW fs fn pc=some i/\(fa=26/\i.1=6/\rg.getD i.2.2.1.toNat 0=0\/fa=29/\jr i.1=false\/fa≠26/\fa≠29/\fa≠0/\jv id ch ph hd i=fa)))
open Classical in
def mJ(ms:List ByteArray) (fs:List FD) (bound:Int) (t:TD):Bool:=decide (uf ms fs bound t)
theorem kS(h:tZ i=0):(0<=i.2.1/\i.2.1 < 8)/\(0<=i.2.2.1/\i.2.2.1 < 8)/\(0<=i.2.2.2.1/\i.2.2.2.1 < 8)/\(1<=i.1/\i.1<=22):=by
 unfold tZ qw at h;split at h
 .simp at h
 split at h
 .simp at h
 split at h
 .simp at h
 .rename_i h1 h2 h3;simp only[Vf,rZ]at h1 h3;simp only[wz,Dc,A70,eH]at h1 h3;refine⟨?_,?_,?_,?_⟩<;>omega
theorem ako(h:tZ i=0) (h1:i.1=1):bU i.2.2.2.2.2.1=true:=by
 unfold tZ qw at h
 repeat' split at h
 all_goals first | (simp at h;done) | skip
 rename_i q1 q2 q3 q4 q5 q6;simp[h1]at q6;unfold bU;simp;omega
theorem ae7{x:FD} (hx:fs[k]?=some x){j:Nat} (hj:x.2.1[j]?=some i):(((k:Int),(j:Int),()),i,())∈dN fs:=by
 unfold dN;rw[AO k fs 0 hx];refine ahL _ (List.mem_append_left _ ?_);unfold qg;rw[List.mem_map];refine⟨(i,j),?_,by simp⟩
 rw[VT];exact⟨j,by rw[acu,hj];simp⟩
theorem og{fn:Int} (h:0<=fn/\fn < fs.length):∃x,fs[fn.toNat]?=some x/\codeF fs fn=x.2.1:=by
 have hl:fn.toNat < fs.length:=by omega
 refine⟨fs[fn.toNat],lK hl,?_⟩;unfold codeF;rw[J7,lK hl];rfl
theorem Bz(h:(aG vs ms cs fs ts).1=0){fn:Int} (hf:0<=fn/\fn < fs.length) (hi:mW fs fn pc=some i):vU vs ms cs fs i (codeF fs fn).length=0:=by
 obtain⟨c1,c2,c3⟩:=oP h;obtain⟨x,hx,ex⟩:=og hf;unfold mW at hi;rw[ex]at hi ⊢;have:=aj7 c2 _ (ae7 hx hi)
 rwa [Ho hx]at this
theorem qh(h:vU vs ms cs fs i m=0):tZ i=0/\(0<=oO vs ms cs fs i.1->0<=i.2.2.2.2.1/\i.2.2.2.2.1 < oO vs ms cs fs i.1)/\(i.1=18->0<=i.2.2.2.2.2.1/\i.2.2.2.2.2.1 < ms.length)/\(i.1=4\/i.1=5->0<=i.2.2.2.2.2.1/\i.2.2.2.2.2.1<=m):=by
 unfold vU ciS at h;split at h
 .rename_i q;exact absurd h q
 split at h
 .cases h
 split at h
 .cases h
 split at h
 .cases h
 .rename_i q1 q2 q3 q4;refine⟨JZ.1 q1,λh0=>?_,λh0=>?_,λh0=>?_⟩
  .omega
  .omega
  .omega
theorem zF{a:Nat}{v:Int} (h:∀k < 8,∀r,rg[k]?=some r->bU r=true) (hv:bU v=true):∀k < 8,∀r,(rg.set a v)[k]?=some r->bU r=true:=by
 intro k hk r hr;rw[List.getElem?_set]at hr;split at hr
 .split at hr
  .cases hr;exact hv
  .cases hr
 .exact h k hk r hr
theorem aae{b:Int} (h:∀k < 8,∀r,rg[k]?=some r->bU r=true) (hb:0<=b/\b < 8):bU (rg.getD b.toNat 0)=true:=by
 rw[J7];cases hq:rg[b.toNat]? with
 | none=>rfl
 | some r=>exact h _ (by omega) r hq
theorem ae8(f a b:Int):bU (dY f a b).1=true:=by
 have:=PN f a b;unfold bU;simpa using this
theorem Rz{n:Nat} (h:0<=pc) (h2:pc.toNat < n):0<=pc+1/\pc+1<=(n:Int):=by omega
theorem ahs{fn:Int} (h:mW fs fn pc=some i):pc.toNat < (codeF fs fn).length:=(A8.1 h).1
theorem aaf{fn st ph su fa:Int}{hd:List Int}{u:Unit} (h:dh ms fs bound (id,fn,pc,rg,st,ch,ph,su,fa,hd,u)) (hi:mW fs fn pc=some i) (hv:jr i.1=false):ph=0:=by
 rcases h.2.2.2.2.2.2.2.2 with e | ⟨_,j,hj,h18,_⟩
 .exact e
 .rw[hi]at hj;cases hj;rw[h18]at hv;cases hv
theorem ae9{fn st ph su fa:Int}{hd:List Int}{u:Unit} (h:dh ms fs bound (id,fn,pc,rg,st,ch,ph,su,fa,hd,u)) (hi:mW fs fn pc=none):ph=0:=by
 rcases h.2.2.2.2.2.2.2.2 with e | ⟨_,j,hj,h18,_⟩
 .exact e
 .rw[hi]at hj;cases hj
theorem ET(hc:(aG vs ms cs fs ts).1=0) (h:dh ms fs bound t) (hi:mW fs t.2.1 t.2.2.1=some i) (hv:jr i.1=false):dh ms fs bound (fP t i).1:=by
 obtain⟨id,fn,pc,rg,st,ch,ph,su,fa,hd,u⟩:=t;obtain⟨op,a,b,c,obj,n,f,ord,u2⟩:=i;have hi:mW fs fn pc=some (op,a,b,c,obj,n,f,ord,u2):=hi;have hp:=aaf h hi hv;have iO:=ahs hi;obtain⟨h1,h2,h3,h4,h5,h6,h7,h8,h9⟩:=h;have ok:=Bz hc h2 hi;obtain⟨k1,k2,k3,k4⟩:=qh ok;obtain⟨r1,r2,r3,r4⟩:=kS k1;have k4:op=4\/op=5->0<=n/\n<=((codeF fs fn).length:Int):=k4;have hpc:=Rz h3.1 iO;have key:∀(pc':Int) (VJ:List Int) (su' fa':Int),(0<=pc'/\pc'<=((codeF fs fn).length:Int))->(∀k < 8,∀r,VJ[k]?=some r->bU r=true)->dh ms fs bound (id,fn,pc',VJ,st,ch,ph,su',fa',hd,()):=
  λpc' VJ su' fa' q1 q2=>⟨h1,h2,q1,q2,h5,h6,h7,h8,.inl hp⟩
 unfold fP;simp only;split
 .rename_i e;exact key _ _ _ _ hpc (zF h4 (ako k1 e))
 split
 .exact key _ _ _ _ hpc (zF h4 (aae h4 r2))
 split
 .split
  .exact key _ _ _ _ hpc (zF h4 (ae8 _ _ _))
  .exact key _ _ _ _ hpc h4
 split
 .rename_i e;exact key _ _ _ _ (k4 (.inl e)) h4
 split
 .rename_i e;split
  .exact key _ _ _ _ hpc h4
  .exact key _ _ _ _ (k4 (.inr e)) h4
 split
 .exact key _ _ _ _ h3 h4
 split
 .exact key _ _ _ _ h3 h4
 .exact key _ _ _ _ hpc h4
theorem EU(t:TD) (i:ID):(fP t i).1.1=t.1/\(fP t i).1.2.1=t.2.1/\(fP t i).1.2.2.2.2.1=t.2.2.2.2.1/\(fP t i).1.2.2.2.2.2.1=t.2.2.2.2.2.1/\(fP t i).1.2.2.2.2.2.2.1=t.2.2.2.2.2.2.1/\(fP t i).1.2.2.2.2.2.2.2.2.2.1=t.2.2.2.2.2.2.2.2.2.1/\((fP t i).2=true->(fP t i).1.2.2.2.2.2.2.2.1=t.2.2.2.2.2.2.2.1/\(fP t i).1.2.2.2.2.2.2.2.2.1=t.2.2.2.2.2.2.2.2.1):=by
 obtain⟨id,fn,pc,rg,st,ch,ph,su,fa,hd,u⟩:=t;obtain⟨op,a,b,c,obj,n,f,ord,u2⟩:=i;unfold fP;simp only
 repeat' split
 all_goals simp
theorem Vq(id ch ph:Int) (hd:List Int) (i:ID):jv id ch ph hd i=0\/(ph=0/\(jv id ch ph hd i=27\/jv id ch ph hd i=28)):=by
 unfold jv
 repeat' split
 all_goals first | exact .inl rfl | (right;constructor<;>first | omega | simp)
theorem top_vld(hb:1<=bound){rest:ID->TD}{fn st ph:Int}{hd:List Int}{u:Unit} (h:dh ms fs bound (id,fn,pc,rg,st,ch,ph,1,0,hd,u))
 (hr:∀i,mW fs fn pc=some i->jr i.1=false->ph=0->uf ms fs bound (rest i)):uf ms fs bound (topS fs bound (id,fn,pc,rg,st,ch,ph,1,0,hd,u) rest):=by
 unfold topS;simp only;split
 .rename_i hi;exact⟨h,.inr (.inl ⟨rfl,rfl,ae9 h hi,λi q=>by rw[hi]at q;cases q⟩)⟩
 rename_i i hi;split
 .rename_i hv;have ho:=Vq id ch ph hd i;split
  .rename_i e;refine⟨h,.inr (.inr ⟨rfl,by omega,i,hi,.inr (.inr ⟨by omega,by omega,by omega,rfl⟩)⟩)⟩
  .rename_i e;have e:jv id ch ph hd i=0:=by omega
   have hst:=h.2.2.2.2.1;split
   .exact⟨h,.inl ⟨.inr ⟨rfl,by omega⟩,rfl,i,hi,hv,e⟩⟩
   .exact⟨h,.inl ⟨.inl ⟨rfl,by omega⟩,rfl,i,hi,hv,e⟩⟩
 .rename_i hv;have hv:jr i.1=false:=by simpa using hv
  exact hr i hi hv (aaf h hi hv)
theorem RD(hc:(aG vs ms cs fs ts).1=0) (hb:1<=bound):∀(k:Nat) (t:TD),dh ms fs bound t->t.2.2.2.2.2.2.2.1=1->t.2.2.2.2.2.2.2.2.1=0->uf ms fs bound (fU fs bound k t):=by
 intro k
 induction k with
 | zero=>
   rintro⟨id,fn,pc,rg,st,ch,ph,su,fa,hd,u⟩ h h1 h2;have h1:su=1:=h1;have h2:fa=0:=h2;subst h1;subst h2;rw[fU];refine top_vld hb h λi hi hv hp=>?_
   show uf ms fs bound (id,fn,pc,rg,st,ch,ph,3,29,hd,());exact⟨h,.inr (.inr ⟨rfl,hp,i,hi,.inr (.inl ⟨rfl,hv⟩)⟩)⟩
 | succ k ih=>
   rintro⟨id,fn,pc,rg,st,ch,ph,su,fa,hd,u⟩ h h1 h2;have h1:su=1:=h1;have h2:fa=0:=h2;subst h1;subst h2;rw[fU];refine top_vld hb h λi hi hv hp=>?_
   have hf:=ET hc (t:=(id,fn,pc,rg,st,ch,ph,1,0,hd,u)) h hi hv;have hk:=EU (id,fn,pc,rg,st,ch,ph,1,0,hd,u) i;split
   .rename_i e;exact ih _ hf (hk.2.2.2.2.2.2 e).1 (hk.2.2.2.2.2.2 e).2
   .rename_i e;obtain⟨op,a,b,c,obj,n,f,ord,u2⟩:=i;unfold fP at e ⊢;simp only at e ⊢
    by_cases n1:op=1
    .rw[if_pos n1]at e;exact absurd rfl e
    rw[if_neg n1]at e ⊢
    by_cases n2:op=2
    .rw[if_pos n2]at e;exact absurd rfl e
    rw[if_neg n2]at e ⊢
    by_cases n3:op=3
    .rw[if_pos n3]at e;exact absurd rfl e
    rw[if_neg n3]at e ⊢
    by_cases n4:op=4
    .rw[if_pos n4]at e;exact absurd rfl e
    rw[if_neg n4]at e ⊢
    by_cases n5:op=5
    .rw[if_pos n5]at e;exact absurd rfl e
    rw[if_neg n5]at e ⊢
    by_cases n6:op=6/\rg.getD b.toNat 0=0
    .rw[if_pos n6];exact⟨h,.inr (.inr ⟨rfl,hp,_,hi,.inl ⟨rfl,n6.1,n6.2⟩⟩)⟩
    rw[if_neg n6]at e ⊢
    by_cases n7:op=7
    .rw[if_pos n7];exact⟨h,.inr (.inl ⟨rfl,rfl,hp,λj hj=>by rw[hi]at hj;cases hj;exact n7⟩)⟩
    rw[if_neg n7]at e;exact absurd rfl e
theorem top_keep{rest:ID->TD} (hr:∀i,(rest i).1=t.1/\(rest i).2.1=t.2.1/\(rest i).2.2.2.2.1=t.2.2.2.2.1/\(rest i).2.2.2.2.2.2.2.2.2.1=t.2.2.2.2.2.2.2.2.2.1):
 (topS fs bound t rest).1=t.1/\(topS fs bound t rest).2.1=t.2.1/\(topS fs bound t rest).2.2.2.2.1=t.2.2.2.2.1/\(topS fs bound t rest).2.2.2.2.2.2.2.2.2.1=t.2.2.2.2.2.2.2.2.2.1:=by
 obtain⟨id,fn,pc,rg,st,ch,ph,su,fa,hd,u⟩:=t;unfold topS;simp only;split
 .exact⟨rfl,rfl,rfl,rfl⟩
 split
 .repeat' split
  all_goals exact⟨rfl,rfl,rfl,rfl⟩
 .exact hr _
theorem MF(fs:List FD) (bound:Int):∀(k:Nat) (t:TD),(fU fs bound k t).1=t.1/\(fU fs bound k t).2.1=t.2.1/\(fU fs bound k t).2.2.2.2.1=t.2.2.2.2.1/\(fU fs bound k t).2.2.2.2.2.2.2.2.2.1=t.2.2.2.2.2.2.2.2.2.1:=by
 intro k
 induction k with
 | zero=>
   intro t;rw[fU];exact top_keep λi=>⟨rfl,rfl,rfl,rfl⟩
 | succ k ih=>
   intro t;rw[fU];refine top_keep λi=>?_
   have hk:=EU t i;have:=ih (fP t i).1;split
   .exact⟨this.1.trans hk.1,this.2.1.trans hk.2.1,this.2.2.1.trans hk.2.2.1,this.2.2.2.trans hk.2.2.2.2.2.1⟩
   .exact⟨hk.1,hk.2.1,hk.2.2.1,hk.2.2.2.2.2.1⟩
def pz(l o:List Int) (b:Bool):List Int:=l.filter λx=>dP o x == b
def BN(l:List Int) (x:Int):List Int:=pz (bD l) [x] false
def BO(l:List Int) (x:Int):List Int:=bD (l++[x])
theorem PS(l:List Int) (x:Int):SS (BN l x):=List.Pairwise.filter _ (zn l)
theorem Jz{x:Int}:y∈BN l x↔y∈l/\y≠x:=by
 unfold BN pz;rw[List.mem_filter,zo];have:(dP [x] y == false)=true↔y≠x:=by
  rw[Ba,oN,A82]
 rw[this]
theorem afa{x:Int}:y∈BO l x↔y∈l\/y=x:=by
 unfold BO;rw[zo];simp
theorem PU{n:Int} (h:SS l):l.filter (λx=>decide (x≠n))=BN l n:=by
 refine Pm (List.Pairwise.filter _ h) (PS _ _) λx=>?_
 rw[Jz,List.mem_filter];simp
def zT:TD:=(0,0,0,[0,0,0,0,0,0,0,0],0,0,0,0,0,[],())
def lH:TD->ID->Int->TD
 | (id,fn,pc,rg,st,ch,ph,su,fa,hd,_),i,result=>
   if i.1=18 then
    (if ph=0 then(id,fn,pc,if(mG i).2=true then rg.set (mG i).1.toNat result else rg,st+1,ch,1,su,fa,BN hd i.2.2.2.2.2.1,())
     else if ph=1 then(id,fn,pc,if(mG i).2=true then rg.set (mG i).1.toNat result else rg,st+1,ch,2,su,fa,hd,())
     else(id,fn,pc+1,if(mG i).2=true then rg.set (mG i).1.toNat result else rg,st+1,ch,0,su,fa,BO hd i.2.2.2.2.2.1,()))
   else(id,fn,pc+1,if(mG i).2=true then rg.set (mG i).1.toNat result else rg,st+1,if i.1=21 then ch+1 else ch,ph,su,fa,
    if i.1=15\/(i.1=17/\result≠0) then BO hd i.2.2.2.2.1 else if i.1=16 then BN hd i.2.2.2.2.1 else hd,())
theorem Vr{op:Int} (h:op=15\/op=16\/op=17):oO vs ms cs fs op=ms.length:=by
 unfold oO;rw[if_neg (by omega),if_pos h]
theorem AQ(h:uf ms fs bound t) (h1:t.2.2.2.2.2.2.2.1=1):t.2.2.2.2.2.2.2.2.1=0/\t.2.2.2.2.1 < bound/\∃i,mW fs t.2.1 t.2.2.1=some i/\jr i.1=true/\jv t.1 t.2.2.2.2.2.1 t.2.2.2.2.2.2.1 t.2.2.2.2.2.2.2.2.2.1 i=0:=by
 obtain⟨id,fn,pc,rg,st,ch,ph,su,fa,hd,u⟩:=t;have h1:su=1:=h1;subst h1;obtain⟨hf,q | q | q⟩:=h
 .obtain⟨q1,q2,i,hi,hv,ho⟩:=q;rcases q1 with⟨_,q1⟩ | ⟨q1,_⟩
  .exact⟨q2,q1,i,hi,hv,ho⟩
  .exact absurd q1 (by decide)
 .exact absurd q.1 (by decide)
 .exact absurd q.1 (by decide)
theorem EW(hc:(aG vs ms cs fs ts).1=0) (h:uf ms fs bound t) (h1:t.2.2.2.2.2.2.2.1=1) (hi:mW fs t.2.1 t.2.2.1=some i){result:Int} (hv:bU result=true):dh ms fs bound (lH t i result):=by
 obtain⟨f0,s0,j,hj,vj,oj⟩:=AQ h h1;rw[hi]at hj;cases hj;obtain⟨id,fn,pc,rg,st,ch,ph,su,fa,hd,u⟩:=t;have hf:dh ms fs bound (id,fn,pc,rg,st,ch,ph,su,fa,hd,u):=h.1;have hi:mW fs fn pc=some i:=hi;have s0:st < bound:=s0;have oj:jv id ch ph hd i=0:=oj;have iO:=ahs hi;obtain⟨a1,a2,a3,a4,a5,a6,a7,a8,a9⟩:=hf;obtain⟨k1,k2,k3,k4⟩:=qh (Bz hc a2 hi);have hpc:=Rz a3.1 iO;have hst:0<=st+1/\st+1<=bound:=⟨Int.add_nonneg a5.1 (by decide),s0⟩
 have hrg:∀k < 8,∀r,(if(mG i).2=true then rg.set (mG i).1.toNat result else rg)[k]?=some r->bU r=true:=by
  split
  .exact zF a4 hv
  .exact a4
 have akp:∀x,SS (BN hd x)/\∀m∈BN hd x,0<=m/\m < (ms.length:Int):=λx=>⟨PS _ _,λm hm=>a8 m (Jz.1 hm).1⟩
 have hadd:∀x,0<=x/\x < (ms.length:Int)->SS (BO hd x)/\∀m∈BO hd x,0<=m/\m < (ms.length:Int):=λx hx=>⟨zn _,λm hm=>by
  rcases afa.1 hm with q | q
  .exact a8 m q
  .subst q;exact hx⟩
 unfold lH;simp only;split
 .rename_i e;split
  .rename_i e0;subst e0;refine⟨a1,a2,a3,hrg,hst,a6,(akp _).1,(akp _).2,.inr ⟨.inl rfl,i,hi,e,?_⟩⟩;rw[oN];exact λq=>(Jz.1 q).2 rfl
  rename_i n0;have a10:=a9.resolve_left n0;split
  .exact⟨a1,a2,a3,hrg,hst,a6,a7,a8,.inr ⟨.inr rfl,a10.2⟩⟩
  .exact⟨a1,a2,hpc,hrg,hst,a6,(hadd _ (k3 e)).1,(hadd _ (k3 e)).2,.inl rfl⟩
 .rename_i e;have e0:ph=0:=by
   rcases a9 with q | ⟨_,j,hj,q,_⟩
   .exact q
   .rw[hi]at hj;cases hj;exact absurd q e
  subst e0;have hch:0<=(if i.1=21 then ch+1 else ch)/\(if i.1=21 then ch+1 else ch)<=7/\(aV id=4->(if i.1=21 then ch+1 else ch)=0):=by
   split
   .rename_i e21;have:(bY id ch).2=true:=by
     unfold jv at oj;rw[if_neg (by simp),if_neg e,if_neg (by omega),if_pos e21]at oj
     by_cases q:(bY id ch).2=true
     .exact q
     .rw[if_neg q]at oj;cases oj
    unfold bY at this;split at this
    .cases this
    .rename_i q;omega
   .exact a6
  refine⟨a1,a2,hpc,hrg,hst,hch,?_,?_,.inl rfl⟩
  .split
   .exact zn _
   split
   .exact PS _ _
   .exact a7
  .split
   .rename_i q;have ho:=Vr (vs:=vs) (ms:=ms) (cs:=cs) (fs:=fs) (op:=i.1) (by omega)
    rw[ho]at k2;exact(hadd _ (k2 (by omega))).2
   split
   .exact(akp _).2
   .exact a8
theorem aag(t:TD) (i:ID) (r:Int):(lH t i r).1=t.1/\(lH t i r).2.1=t.2.1/\(lH t i r).2.2.2.2.1=t.2.2.2.2.1+1/\(lH t i r).2.2.2.2.2.2.2.1=t.2.2.2.2.2.2.2.1/\(lH t i r).2.2.2.2.2.2.2.2.1=t.2.2.2.2.2.2.2.2.1:=by
 obtain⟨id,fn,pc,rg,st,ch,ph,su,fa,hd,u⟩:=t;unfold lH;simp only
 repeat' split
 all_goals simp
def dF(e bound:Int):Int:=if e≠0 then e else if bound < 1\/32 < bound then 2 else 0
theorem gZ{e:Int}:dF e bound=0↔e=0/\1<=bound/\bound<=32:=by
 unfold dF;constructor
 .intro h;split at h
  .rename_i q;exact absurd h q
  .rename_i q;split at h
   .cases h
   .omega
 .rintro⟨h1,h2,h3⟩;rw[if_neg (by omega),if_neg (by omega)]
def newS(e:Int) (fs:List FD) (bound id fn arg:Int):TD×Int:=
 if dF e bound≠0 then(zT,dF e bound) else if aV id < 0 then(zT,2) else if fn < 0\/(fs.length:Int)<=fn then(zT,11) else if bU arg=false then(zT,2)
 else(fU fs bound 256 (id,fn,0,[arg,0,0,0,0,0,0,0],0,0,0,1,0,[],()),0)
theorem EX(ms:List ByteArray){fn arg:Int} (hb:1<=bound) (h1:¬aV id < 0) (h2:¬(fn < 0\/(fs.length:Int)<=fn)) (h3:¬bU arg=false):dh ms fs bound (id,fn,0,[arg,0,0,0,0,0,0,0],0,0,0,1,0,[],()):=by
 refine⟨by omega,by omega,by omega,λk hk r hr=>?_,by omega,⟨by omega,by omega,λ_=>rfl⟩,List.Pairwise.nil,λm hm=>(nomatch hm),.inl rfl⟩
 match k,hr with
 | 0,hr=>cases hr;simpa using h3
 | k+1,hr=>
   have:r=0:=by
    have:=ig (show[(0:Int),0,0,0,0,0,0][k]?=some r by simpa using hr)
    simpa using this
   rw[this];rfl
open Classical in
def gK(e:Int) (ms:List ByteArray) (fs:List FD) (t:TD):ID×Bool:=
 if e=0/\t.2.2.2.2.2.2.2.1=1/\uf ms fs 32 t then atR fs t.2.1 t.2.2.1 else((0,0,0,0,0,0,0,0,()),false)
open Classical in
def kU(e:Int) (ms:List ByteArray) (fs:List FD) (bound:Int) (t:TD) (result:Int):TD×Int:=
 if dF e bound≠0 then(zT,dF e bound) else if¬uf ms fs bound t then(zT,1) else if t.2.2.2.2.2.2.2.1≠1 then(zT,30) else if bU result=false then(zT,2)
 else(fU fs bound 256 (lH t (atR fs t.2.1 t.2.2.1).1 result),0)
end
end Go.Proofs.YtjhenjhcbcalpaaGreatDoor
