/- Part 7 of the proof. Conditions: the rows'. -/
import Derived.Test.YtjhenjhcbcalpaaGreatDoorB6
set_option linter.unusedSimpArgs false
set_option linter.unusedVariables false
set_option maxRecDepth 1000000
set_option maxHeartbeats 8000000
namespace Go.Proofs.YtjhenjhcbcalpaaGreatDoor
open Go Go.jf
noncomputable section
variable {i:ID}{l rg:List Int}{k:Nat}{vs:List VD}{ms cs:List ByteArray}{fs:List FD}{d:bU [lU,lJ]}{ts:List SD}{m y id ch pc bound:Int}
def Hq(s:ByteArray) (i:Nat):Int:=match s[i]? with | some u=>(u.toNat:Int) | none=>0
theorem Jv{s:ByteArray}{i:Nat}{u:UInt8} (h:s[i]?=some u):Hq s i=u.toNat:=by simp[Hq,h]
def okB(c:Int):Bool:=sH c || decide (c=95) || decide (48<=c/\c<=57)
def dK(s:ByteArray):Bool:=decide (1<=s.size/\s.size<=16) && sH (Hq s 0) && (List.range s.size).all λi=>okB (Hq s i)
abbrev anQ:CT:={ ps:=[.str],pre:=λd=>True,res:=λd=>([],vB (dK d.1)) }
abbrev aj7(s:ByteArray):Nat->Option (St->jv):=λk=>match k with
 | 4=>some λ_=>.inv { α:=Nat,slots:=λk=>[(20,.c (.v (.int .i64 k)))],res:=λk=>[],inv:=λk=>k<=((List.range s.size)).length/\∀j < k,okB (Hq s j)=true,meas:=λk=>((List.range s.size)).length - k }
 | _=>none
theorem aeR(s:ByteArray):
 let z5:=(s.size:Int) < (1:Int);let z3:=!(decide z5 || decide (16 < (s.size:Int)));let z6:=List.range s.size;let z2:=λ(x:Nat)=>(x<=z6.length/\∀(j:Nat),j < x->okB (Hq s j)=true);let z4:=λ(u u_1:UInt8)=>!sH (u.toNat:Int) && !decide ((u_1.toNat:Int)=(95:Int));let z1:=λ(u_2 u u_1:UInt8)=>!decide ((u_2.toNat:Int) < (48:Int)) && (z4 u u_1);(z3=true->(0:Int)<=(0:Int)/\0 < (s.size:Int))/\∀(u:UInt8),(z3=true->s[0]?=some u)->(z3=true->True)/\br (decide z5 || decide (16 < (s.size:Int)) || !sH (u.toNat:Int)) (qB (dK s) false) ((∃x,(z2 x)/\(cI 0=cI (x:Int)/\True)/\([]:List dJ)=[])/\∀(x:Nat),(z2 x)->br (decide ((x:Int) < (s.size:Int))) ((0<=(x:Int)/\(x:Int) < (s.size:Int))/\∀(u:UInt8),s[(x:Int).toNat]?=some u->True/\((!sH (u.toNat:Int))=true->0<=(x:Int)/\(x:Int) < (s.size:Int))/\∀(u_1:UInt8),((!sH (u.toNat:Int))=true->s[(x:Int).toNat]?=some u_1)->((z4 u u_1)=true->0<=(x:Int)/\(x:Int) < (s.size:Int))/\∀(u_2:UInt8),((z4 u u_1)=true->s[(x:Int).toNat]?=some u_2)->((z1 u_2 u u_1)=true->0<=(x:Int)/\(x:Int) < (s.size:Int))/\∀(u_3:UInt8),((z1 u_2 u u_1)=true->s[(x:Int).toNat]?=some u_3)->br (!sH (u.toNat:Int) && !decide ((u_1.toNat:Int)=(95:Int)) && (decide ((u_2.toNat:Int) < (48:Int)) || decide (57 < (u_3.toNat:Int)))) (qB (dK s) false) (iR ((x:Int)+(1:Int))/\∃x',(z2 x')/\(cI ((x:Int)+(1:Int))=cI (x':Int)/\True)/\([]:List dJ)=[]/\z6.length - x' < z6.length - x)) (qB (dK s) true)):=by
 conv=>zeta
 delta dJ cI qB iR;have hs2:(!(decide ((s.size:Int) < (1:Int)) || decide ((16:Int) < (s.size:Int))))=true↔(1<=s.size/\s.size<=16):=by
  simp only[Di,l7,eX];omega
 refine⟨λh=>by have:=hs2.1 h;omega,λu hu=>⟨λ_=>trivial,ah.2 ⟨λh=>⟨rfl,?_⟩,λh=>?_⟩⟩⟩
 .have:dK s=false:=by
   unfold dK
   by_cases hs:1<=s.size/\s.size<=16
   .have e:=Jv (hu (hs2.2 hs));simp only[wC,dH,Di]at h;have h0:sH (Hq s 0)=false:=by
     rw[e];rcases h with(h | h) | h
     .omega
     .omega
     .exact h
    rw[h0];simp
   .rw[yw hs];rfl
  rw[this]
 .simp only[l7,eX,wU]at h;obtain⟨⟨h1,h2⟩,h3⟩:=h;have hs:1<=s.size/\s.size<=16:=by omega
  have e:=Jv (hu (hs2.2 hs));have hl:(List.range s.size).length=s.size:=List.length_range;rw[hl];refine⟨⟨0,⟨by omega,λj hj=>by omega⟩,⟨rfl,trivial⟩,rfl⟩,λk hk=>ah.2 ⟨λh=>?_,λh=>?_⟩⟩
  .simp only[dH]at h;have hN:(k:Int).toNat=k:=by omega
   rw[hN];refine⟨by omega,λv hv=>⟨trivial,λ_=>by omega,λv1 hv1=>⟨λ_=>by omega,λv2 hv2=>⟨λ_=>by omega,λv3 hv3=>?_⟩⟩⟩⟩
   have ev:=Jv hv;have bad:okB (Hq s k)=false->dK s=false:=by
    intro hb;unfold dK;have:((List.range s.size).all λi=>okB (Hq s i))=false:=by
     rw[List.all_eq_false];exact⟨k,by simp;omega,by rw[hb];simp⟩
    rw[this];simp
   have fin:okB (Hq s k)=true->(mY IntKind.i64 ((k:Int)+1)/\∃x',(x'<=s.size/\∀(j:Nat),j < x'->okB (Hq s j)=true)/\(SV.c (SC.v (Value.int IntKind.i64 ((k:Int)+1)))=SV.c (SC.v (Value.int IntKind.i64 (x':Int)))/\True)/\([]:List (Go.jf.Gd×Go.jf.ay))=[]/\s.size - x' < s.size - k):=λho=>
    ⟨ak.2 (by omega),k+1,⟨by omega,λj hj=>by
     by_cases gU:j=k
     .rw[gU];exact ho
     .exact hk.2 j (by omega)⟩,⟨rfl,trivial⟩,rfl,by omega⟩
   cases hA:sH (v.toNat:Int) with
   | true=>
     refine ah.2 ⟨λh=>by simp at h,λ_=>fin ?_⟩
     rw[ev];unfold okB;rw[hA];rfl
   | false=>
     have hv1:=hv1 (by rw[hA];rfl)
     rw[hv]at hv1;cases hv1
     by_cases h95:(v.toNat:Int)=95
     .refine ah.2 ⟨λh=>by simp[h95]at h,λ_=>fin ?_⟩
      rw[ev];unfold okB;simp[h95]
     .have hd95:decide ((v.toNat:Int)=95)=false:=yw h95;have hv2:=hv2 (by rw[hA,hd95];rfl)
      rw[hv]at hv2;cases hv2
      by_cases h48:(v.toNat:Int) < 48
      .refine ah.2 ⟨λ_=>⟨rfl,?_⟩,λh=>by simp[h95,h48]at h⟩
       rw[bad (by rw[ev];unfold okB;rw[hA,hd95];simp;omega)]
      .have apR:decide ((v.toNat:Int) < 48)=false:=yw h48;have hv3:=hv3 (by rw[hA,hd95,apR];rfl)
       rw[hv]at hv3;cases hv3
       by_cases h57:57 < (v.toNat:Int)
       .refine ah.2 ⟨λ_=>⟨rfl,?_⟩,λh=>by simp[h95,h57]at h⟩
        rw[bad (by rw[ev];unfold okB;rw[hA,hd95];simp;omega)]
       .refine ah.2 ⟨λh=>by simp[h95,h48,h57]at h,λ_=>fin ?_⟩
        rw[ev];unfold okB;rw[hA,hd95];simp;omega
  .simp only[eX]at h;have:dK s=true:=by
    unfold dK;rw[wX hs,e,h3];simp only[FM];rw[NH];intro i hi;simp at hi;exact hk.2 i (by omega)
   rw[this];exact⟨rfl,rfl⟩
theorem ZG:aU aT.gd 208 anQ:=
 jG (cx:=aT) (n:=47) (cl:=[(214,aht)]) au ⟨Zx,trivial⟩ Tryz.func208 λd hd=>by
  obtain⟨s,⟨⟩⟩:=d;exact⟨aj7 s,cast (by kernel_rfl) (aeR s)⟩
def gK(l:List ByteArray):Int×Int:=match(List.range l.length).find? (λi=>!dK (l.getD i ⟨#[]⟩) || uf (l.take i) (l.getD i ⟨#[]⟩)) with
 | some i=>(if dK (l.getD i ⟨#[]⟩) then 7 else 6,i)
 | none=>(0,-1)
theorem vV{l:List ByteArray} (hk:k < l.length) (h:∀j < k,dK (l.getD j ⟨#[]⟩)=true/\uf (l.take j) (l.getD j ⟨#[]⟩)=false) (hf:dK (l.getD k ⟨#[]⟩)=false\/uf (l.take k) (l.getD k ⟨#[]⟩)=true):
 gK l=(if dK (l.getD k ⟨#[]⟩) then 7 else 6,(k:Int)):=by
 unfold gK;rw[show(List.range l.length).find? (λi=>!dK (l.getD i ⟨#[]⟩) || uf (l.take i) (l.getD i ⟨#[]⟩))=some k from List.find?_range_eq_some.2 ⟨by rcases hf with hf | hf<;>rw[hf]<;>simp,by simpa using hk,λj hj=>by obtain⟨a,b⟩:=h j hj;rw[a,b];rfl⟩]
theorem MH{l:List ByteArray} (h:∀j < l.length,dK (l.getD j ⟨#[]⟩)=true/\uf (l.take j) (l.getD j ⟨#[]⟩)=false):gK l=(0,-1):=by
 unfold gK;rw[show(List.range l.length).find? (λi=>!dK (l.getD i ⟨#[]⟩) || uf (l.take i) (l.getD i ⟨#[]⟩))=none from A90.2 λi hi=>by
  obtain⟨a,b⟩:=h i (by simpa using hi)
  rw[a,b];simp]
abbrev ZH:CT:={ ps:=[.sl .str],pre:=λd=>d.1.length<=1000000,res:=λd=>([],.gV [.c (.v (.int .i64 (gK d.1).1)),.c (.v (.int .i64 (gK d.1).2))]) }
abbrev aj8(l:List ByteArray):Nat->Option (St->jv):=λk=>match k with
 | 2=>some λ_=>.inv { α:=Nat,slots:=λk=>[(8,.c (.v (.int .i64 k)))],res:=λk=>[],inv:=λk=>k<=(l).length/\∀j < k,dK (l.getD j ⟨#[]⟩)=true/\uf (l.take j) (l.getD j ⟨#[]⟩)=false,meas:=λk=>(l).length - k }
 | _=>none
theorem aeS(l:List ByteArray) (aF:ZH.pre (l,())):
 let z1:=λ(x:Nat)=>(x<=l.length/\∀(j:Nat),j < x->dK (l.getD j { data:=#[]:ByteArray })=true/\uf (List.take j l) (l.getD j { data:=#[]:ByteArray })=false);let z2:=[cI ((gK l).fst),cI ((gK l).snd)];(∃x,(z1 x)/\(cI 0=cI (x:Int)/\True)/\([]:List dJ)=[])/\∀(x:Nat),(z1 x)->br (decide ((x:Int) < (l.length:Int))) ((0<=(x:Int)/\(x:Int) < (l.length:Int))/\∀(d:ByteArray),l[(x:Int).toNat]?=some d->True/\br (!dK d) (rT z2 [cI 6,cI (x:Int)]) (((0:Int)<=(0:Int)/\0<=(x:Int)/\(x:Int)<=(l.length:Int))/\(List.drop 0 (List.take (x:Int).toNat l)).length<=1000000/\br (uf (List.drop 0 (List.take (x:Int).toNat l)) d) (rT z2 [cI 7,cI (x:Int)]) (iR ((x:Int)+(1:Int))/\∃x',(z1 x')/\(cI ((x:Int)+(1:Int))=cI (x':Int)/\True)/\([]:List dJ)=[]/\l.length - x' < l.length - x))) (rT z2 [cI 0,cI (-1)]):=by
 conv=>zeta
 delta dJ cI rT iR;have hp:l.length<=1000000:=aF;refine⟨⟨0,⟨by omega,λj hj=>by omega⟩,⟨rfl,trivial⟩,rfl⟩,λk hk=>ah.2 ⟨λh=>?_,λh=>?_⟩⟩
 .simp only[dH]at h;have hN:(k:Int).toNat=k:=by omega
  rw[hN];refine⟨by omega,λd hd=>?_⟩
  have hg:l.getD k ⟨#[]⟩=d:=by rw[J5,hd];rfl
  refine⟨trivial,ah.2 ⟨λh2=>⟨rfl,?_⟩,λh2=>⟨⟨by omega,by omega,by omega⟩,by simp;omega,ah.2 ⟨λh3=>⟨rfl,?_⟩,λh3=>⟨ak.2 (by omega),k+1,⟨by omega,λj hj=>?_⟩,⟨rfl,trivial⟩,rfl,by omega⟩⟩⟩⟩⟩
  .have h2:dK d=false:=by simpa using h2
   rw[vV (by omega) hk.2 (.inl (by rw[hg];exact h2)),hg,h2];rfl
  .have h2:dK d=true:=by simpa using h2
   have h3:uf (l.take k) d=true:=by simpa using h3
   rw[vV (by omega) hk.2 (.inr (by rw[hg];exact h3)),hg,h2];rfl
  .by_cases gU:j=k
   .subst gU;rw[hg];exact⟨by simpa using h2,by simpa using h3⟩
   .exact hk.2 j (by omega)
 .simp only[eX]at h;rw[MH λj hj=>hk.2 j (by omega)];exact⟨rfl,rfl⟩
theorem ZI:aU aT.gd 184 ZH:=
 jG (cx:=aT) (n:=24) (cl:=[(208,anQ),(209,PK)]) au ⟨ZG,ZF,trivial⟩ Tryz.func184 λd hd=>by
  obtain⟨l,⟨⟩⟩:=d;exact⟨aj8 l,cast (by kernel_rfl) (aeS l hd)⟩
def ciS(vs:List VD) (ms cs:List ByteArray) (fs:List FD) (e op obj n m:Int):Int:=if e≠0 then e else if 0<=oQ vs ms cs fs op/\(obj < 0\/oQ vs ms cs fs op<=obj) then 11 else if op=18/\(n < 0\/(ms.length:Int)<=n) then 11 else if(op=4\/op=5)/\(n < 0\/m < n) then 12 else 0
abbrev ug(i:ID):Int:=qy i.1 i.2.1 i.2.2.1 i.2.2.2.1 i.2.2.2.2.1 i.2.2.2.2.2.1 i.2.2.2.2.2.2.1 i.2.2.2.2.2.2.2.1
abbrev vW(vs:List VD) (ms cs:List ByteArray) (fs:List FD) (i:ID) (m:Int):Int:=ciS vs ms cs fs (ug i) i.1 i.2.2.2.2.1 i.2.2.2.2.2.1 m
abbrev anR:CT:={ ps:=[o9,lJ,.int .i64],pre:=λd=>True,res:=λd=>([],.one (.c (.v (.int .i64 (vW d.1.1 d.1.2.1 d.1.2.2.1 d.1.2.2.2.1 d.2.1 d.2.2.1))))) }
theorem aeT(vs:List VD) (ms cs:List ByteArray) (fs:List FD) (ts:List SD) (op a b c obj n fn ord m:Int):
 let z3:=qy op a b c obj n fn ord;let z2:=ciS vs ms cs fs z3 op obj n m;let z1:=qI z2 (11:Int);True/\br (!decide (qy op a b c obj n fn ord=0)) (qI z2 z3) (True/\br (decide (0<=oQ vs ms cs fs op) && (decide (obj < 0) || decide (oQ vs ms cs fs op<=obj))) z1 (br (decide (op=18) && (decide (n < 0) || decide ((ms.length:Int)<=n))) z1 (br ((decide (op=4) || decide (op=5)) && (decide (n < 0) || decide (m < n))) (qI z2 (12:Int)) (qI z2 (0:Int))))):=by
 conv=>zeta
 delta qI;generalize qy op a b c obj n fn ord=e;unfold ciS;generalize oQ vs ms cs fs op=o;refine⟨trivial,ah.2 ⟨λh=>⟨rfl,?_⟩,λh=>⟨trivial,ah.2 ⟨λh2=>⟨rfl,?_⟩,λh2=>ah.2 ⟨λh3=>⟨rfl,?_⟩,λh3=>ah.2 ⟨λh4=>⟨rfl,?_⟩,λh4=>⟨rfl,?_⟩⟩⟩⟩⟩⟩⟩
 all_goals simp only[Di,wU,bY,wC,A70,l7,dH,eX]at *
 all_goals (congr 4;(repeat' split)<;>first | rfl | omega | (exfalso;omega))
theorem ZJ:aU aT.gd 190 anR:=
 jG (cx:=aT) (n:=66) (cl:=[(168,ajM),(211,ahu)]) au ⟨L8,Zz,trivial⟩ Tryz.func190 λd hd=>by
  obtain⟨⟨vs,ms,cs,fs,ts,⟨⟩⟩,⟨op,a,b,c,obj,n,fn,ord,⟨⟩⟩,m,⟨⟩⟩:=d;exact⟨λ_=>none,cast (by kernel_rfl) (aeT vs ms cs fs ts op a b c obj n fn ord m)⟩
def BQ(vs:List VD) (ms cs:List ByteArray) (fs:List FD):Int×Int×Int:=
 if(gK (iq vs)).1≠0 then((gK (iq vs)).1,-1,-1) else if(gK ms).1≠0 then((gK ms).1,-1,-1) else if(gK cs).1≠0 then((gK cs).1,-1,-1) else((gK (jo fs)).1,(gK (jo fs)).2,-1)
theorem aj9{d:List ByteArray} (hd:[iq vs,ms,cs][k]?=some d) (h:(gK d).1≠0) (hn:∀j < k,∀x,[iq vs,ms,cs][j]?=some x->(gK x).1=0):
 BQ vs ms cs fs=((gK d).1,-1,-1):=by
 unfold BQ
 match k,hd,hn with
 | 0,hd,hn=>simp at hd;subst hd;rw[if_pos h]
 | 1,hd,hn=>
   simp at hd;subst hd;have h0:=hn 0 (by omega) (iq vs) rfl
   rw[if_neg (by rw[h0];simp),if_pos h]
 | 2,hd,hn=>
   simp at hd;subst hd;have h0:=hn 0 (by omega) (iq vs) rfl
   have h1:=hn 1 (by omega) ms rfl
   rw[if_neg (by rw[h0];simp),if_neg (by rw[h1];simp),if_pos h]
 | k+3,hd,hn=>simp at hd
theorem anS(hn:∀(j:Nat) x,[iq vs,ms,cs][j]?=some x->(gK x).1=0):BQ vs ms cs fs=((gK (jo fs)).1,(gK (jo fs)).2,-1):=by
 unfold BQ;have h0:=hn 0 (iq vs) rfl;have h1:=hn 1 ms rfl;have h2:=hn 2 cs rfl;rw[if_neg (by rw[h0];simp),if_neg (by rw[h1];simp),if_neg (by rw[h2];simp)]
abbrev akb:CT:={ ps:=[o9],pre:=λd=>d.1.1.length<=1000000/\d.1.2.1.length<=1000000/\d.1.2.2.1.length<=1000000/\d.1.2.2.2.1.length<=1000000,res:=λd=>([],.gV [.c (.v (.int .i64 ((BQ d.1.1 d.1.2.1 d.1.2.2.1 d.1.2.2.2.1).1))),.agg [.v (.int .i64 ((BQ d.1.1 d.1.2.1 d.1.2.2.1 d.1.2.2.2.1).2.1)),.v (.int .i64 ((BQ d.1.1 d.1.2.1 d.1.2.2.1 d.1.2.2.2.1).2.2))]]) }
abbrev akc(vs:List VD) (ms cs:List ByteArray) (fs:List FD) (ts:List SD):Nat->Option (St->jv):=λk=>match k with
 | 2=>some λ_=>.inv { α:=Nat,slots:=λk=>[(18,.c (.v (.int .i64 k)))],res:=λk=>[],inv:=λk=>k<=([iq vs,ms,cs]).length/\∀j < k,∀x,[iq vs,ms,cs][j]?=some x->(gK x).1=0,meas:=λk=>([iq vs,ms,cs]).length - k }
 | _=>none
abbrev AO:=[v6 (-1),v6 (-1)]
theorem aeU(vs:List VD) (ms cs:List ByteArray) (fs:List FD) (ts:List SD) (aF:akb.pre ((vs,ms,cs,fs,ts,()),())):
 let z3:=[iq vs,ms,cs];let z1:=[g0 (ay.blk 27 [SC.sl ER vs,SC.sl Sh.str ms,SC.sl Sh.str cs,SC.sl BA fs,SC.sl lU ts]),g0 (ay.blk 162 [v6 0,v6 0]),g0 ay.gone,g0 (ay.row 23 Sh.str.sl z3)];let z4:=BQ vs ms cs fs;let z2:=[cI (z4.fst),SV.agg [v6 (z4.snd.fst),v6 (z4.snd.snd)]];vs.length<=1000000/\(∃x,(x<=z3.length/\∀(j:Nat),j < x->∀(x:List ByteArray),z3[j]?=some x->(gK x).fst=0)/\(cI 0=cI (x:Int)/\True)/\sm z1)/\∀(x:Nat),(x<=z3.length/\∀(j:Nat),j < x->∀(x:List ByteArray),z3[j]?=some x->(gK x).fst=0)->br (decide ((x:Int) < (z3.length:Int))) ((0<=(x:Int)/\(x:Int) < (z3.length:Int))/\(x:Int).toNat < z3.length/\∀(d:List ByteArray),z3[(x:Int).toNat]?=some d->d.length<=1000000/\br (!decide ((gK d).fst=0)) (rT z2 [cI ((gK d).fst),SV.agg AO]) (iR ((x:Int)+(1:Int))/\∃x',(x'<=z3.length/\∀(j:Nat),j < x'->∀(x:List ByteArray),z3[j]?=some x->(gK x).fst=0)/\(cI ((x:Int)+(1:Int))=cI (x':Int)/\True)/\sm z1/\z3.length - x' < z3.length - x)) (fs.length<=1000000/\(jo fs).length<=1000000/\rT z2 [cI ((gK (jo fs)).fst),SV.agg [v6 ((gK (jo fs)).snd),v6 (-1)]]):=by
 conv=>zeta
 delta AO v6 cI g0 rT sm I6 iR;obtain⟨hp1,hp2,hp3,hp4⟩:vs.length<=1000000/\ms.length<=1000000/\cs.length<=1000000/\fs.length<=1000000:=aF;refine⟨hp1,?_⟩;refine⟨⟨0,⟨by omega,λj hj=>by omega⟩,⟨rfl,trivial⟩,rfl⟩,λk hk=>ah.2 ⟨λh=>?_,λh=>?_⟩⟩
 .have h3:k < 3:=by simp at h;omega
  have h:k < [iq vs,ms,cs].length:=h3;have hN:(k:Int).toNat=k:=by omega
  rw[hN];refine⟨⟨by omega,by omega⟩,h,λd hd=>⟨?_,ah.2 ⟨λh2=>⟨rfl,?_⟩,λh2=>⟨ak.2 (by omega),k+1,⟨by omega,λj hj x hx=>?_⟩,⟨rfl,trivial⟩,rfl,by omega⟩⟩⟩⟩
  .have:d∈[iq vs,ms,cs]:=iy hd;simp only[ni,List.not_mem_nil,or_false]at this;rcases this with rfl | rfl | rfl
   .simpa[iq]using hp1
   .exact hp2
   .exact hp3
  .rw[aj9 hd (by simpa using h2) hk.2]
  .by_cases gU:j=k
   .subst gU;rw[hd]at hx;cases hx;simpa using h2
   .exact hk.2 j (by omega) x hx
 .have h:¬k < [iq vs,ms,cs].length:=by
   have:¬k < 3:=by simp at h;omega
   exact this
  refine⟨hp4,by simpa[jo]using hp4,rfl,?_⟩
  rw[anS λj x hx=>hk.2 j (by have:=(A8.1 hx).1;omega) x hx]
theorem ZK:aU aT.gd 143 akb:=
 jG (cx:=aT) (n:=41) (cl:=[(183,Pz),(184,ZH),(185,PE)]) au ⟨ZA,ZI,ZB,trivial⟩ Tryz.func143 λd hd=>by
  obtain⟨⟨vs,ms,cs,fs,ts,⟨⟩⟩,⟨⟩⟩:=d;exact⟨akc vs ms cs fs ts,cast (by kernel_rfl) (aeU vs ms cs fs ts hd)⟩
def zW(vs:List VD) (ms cs:List ByteArray) (fs:List FD):Int:=if 8 < vs.length\/4 < ms.length\/4 < cs.length\/8 < fs.length then 4 else if vs.all λv=>bW v.2.1 then 0 else 2
abbrev anT:CT:={ ps:=[o9],pre:=λd=>True,res:=λd=>([],.gV [.c (.v (.int .i64 (zW d.1.1 d.1.2.1 d.1.2.2.1 d.1.2.2.2.1))),.agg [.v (.int .i64 (-1)),.v (.int .i64 (-1))]]) }
abbrev akd(vs:List VD) (ms cs:List ByteArray) (fs:List FD) (ts:List SD):Nat->Option (St->jv):=λk=>match k with
 | 5=>some λ_=>.inv { α:=Nat,slots:=λk=>[(34,.c (.v (.int .i64 k)))],res:=λk=>[],inv:=λk=>k<=(vs).length/\∀j < k,∀v,vs[j]?=some v->bW v.2.1=true,meas:=λk=>(vs).length - k }
 | _=>none
abbrev kq9:=[cI 0,SV.agg [v6 (-1),v6 (-1)]]
theorem aeV(vs:List VD) (ms cs:List ByteArray) (fs:List FD) (ts:List SD):
 let z3:=[cI (zW vs ms cs fs),SV.agg AO];let z2:=λ(x:Nat)=>(x<=vs.length/\∀(j:Nat),j < x->∀(v:ByteArray×Int×Unit),vs[j]?=some v->bW v.snd.fst=true);let z1:=[g0 (ay.blk 27 [SC.sl ER vs,SC.sl Sh.str ms,SC.sl Sh.str cs,SC.sl BA fs,SC.sl lU ts]),g0 (ay.blk 162 [v6 0,v6 0]),g0 (ay.blk 162 AO)];br (decide (8 < (vs.length:Int)) || decide (4 < (ms.length:Int)) || decide (4 < (cs.length:Int)) || decide (8 < (fs.length:Int))) (rT z3 [cI 4,SV.agg AO]) ((∃x,(z2 x)/\(cI 0=cI (x:Int)/\True)/\sm z1)/\∀(x:Nat),(z2 x)->br (decide ((x:Int) < (vs.length:Int))) ((0<=(x:Int)/\(x:Int) < (vs.length:Int))/\∀(d:ByteArray×(I6.pair Sh.unit).den),vs[(x:Int).toNat]?=some d->True/\br (!bW (d.snd.fst,()).fst) (rT z3 [cI 2,SV.agg AO]) (iR ((x:Int)+(1:Int))/\∃x',(z2 x')/\(cI ((x:Int)+(1:Int))=cI (x':Int)/\True)/\sm z1/\vs.length - x' < vs.length - x)) (rT z3 kq9)):=by
 conv=>zeta
 delta AO kq9 v6 cI g0 rT sm I6 iR
 by_cases hc:8 < vs.length\/4 < ms.length\/4 < cs.length\/8 < fs.length
 .have e:zW vs ms cs fs=4:=by unfold zW;rw[if_pos hc]
  rw[e];refine ah.2 ⟨λ_=>⟨rfl,rfl⟩,λh=>?_⟩
  simp only[l7,eX]at h;omega
 refine ah.2 ⟨λh=>?_,λh=>⟨⟨0,⟨by omega,λj hj=>by omega⟩,⟨rfl,trivial⟩,rfl⟩,λk hk=>ah.2 ⟨λh2=>?_,λh2=>?_⟩⟩⟩
 .simp only[wC,dH]at h;omega
 .simp only[dH]at h2;have hN:(k:Int).toNat=k:=by omega
  rw[hN];refine⟨by omega,λd hd=>⟨trivial,ah.2 ⟨λh3=>⟨rfl,?_⟩,λh3=>⟨ak.2 (by omega),k+1,⟨by omega,λj hj v hv=>?_⟩,⟨rfl,trivial⟩,rfl,by omega⟩⟩⟩⟩
  .have h3:bW d.2.1=false:=by simpa using h3
   have e:zW vs ms cs fs=2:=by
    unfold zW;rw[if_neg hc,if_neg];intro hh;rw[NH]at hh;have:=hh d (iy hd);rw[h3]at this;cases this
   rw[e]
  .have h3:bW d.2.1=true:=by simpa using h3
   by_cases gU:j=k
   .subst gU;rw[hd]at hv;cases hv;exact h3
   .exact hk.2 j (by omega) v hv
 .simp only[eX]at h2;have e:zW vs ms cs fs=0:=by
   unfold zW;rw[if_neg hc,if_pos];rw[NH];intro v hv;obtain⟨j,hj⟩:=yu hv;exact hk.2 j (by have:=(A8.1 hj).1;omega) v hj
  rw[e];exact⟨rfl,rfl⟩
theorem ZL:aU aT.gd 144 anT:=
 jG (cx:=aT) (n:=45) (cl:=[(186,Zy)]) au ⟨MF,trivial⟩ Tryz.func144 λd hd=>by
  obtain⟨⟨vs,ms,cs,fs,ts,⟨⟩⟩,⟨⟩⟩:=d;exact⟨akd vs ms cs fs ts,cast (by kernel_rfl) (aeV vs ms cs fs ts)⟩
def CU(n:Nat) (t:SD):Int:=if t.1 < 0\/(n:Int)<=t.1 then 11 else if bW t.2.1 then 0 else 2
def CV(fs:List FD) (ts:List SD):Int:=if ts.length < 1\/8 < ts.length then 4 else match ts.find? (λt=>decide (CU fs.length t≠0)) with | some t=>CU fs.length t | none=>0
theorem xW{α:Type}{l:List α}{p:α->Bool}{d:α} (hd:l[k]?=some d) (hp:p d=true) (hn:∀j < k,∀t,l[j]?=some t->p t=false):l.find? p=some d:=by
 induction l generalizing k with
 | nil=>simp at hd
 | cons x l ih=>
   cases k with
   | zero=>simp at hd;subst hd;simp[hp]
   | succ k=>
     have h0:=hn 0 (by omega) x (by simp)
     rw[List.find?_cons,h0];exact ih (by simpa using hd) λj hj t ht=>hn (j+1) (by omega) t (by simpa using ht)
theorem Rx{α:Type}{l:List α}{p:α->Bool} (hn:∀(j:Nat) t,l[j]?=some t->p t=false):l.find? p=none:=by
 rw[A90];intro x hx;obtain⟨j,hj⟩:=yu hx;rw[hn j x hj];simp
theorem zA{d:SD} (hc:¬(ts.length < 1\/8 < ts.length)) (hd:ts[k]?=some d) (h:CU fs.length d≠0) (hn:∀j < k,∀t,ts[j]?=some t->CU fs.length t=0):CV fs ts=CU fs.length d:=by
 unfold CV;rw[if_neg hc,xW hd (by simpa using h) λj hj t ht=>by simpa using hn j hj t ht]
theorem Ry(hc:¬(ts.length < 1\/8 < ts.length)) (hn:∀(j:Nat) t,ts[j]?=some t->CU fs.length t=0):CV fs ts=0:=by
 unfold CV;rw[if_neg hc,Rx λj t ht=>by simpa using hn j t ht]
abbrev anU:CT:={ ps:=[o9],pre:=λd=>True,res:=λd=>([],.gV [.c (.v (.int .i64 (CV d.1.2.2.2.1 d.1.2.2.2.2.1))),.agg [.v (.int .i64 (-1)),.v (.int .i64 (-1))]]) }
abbrev ake(vs:List VD) (ms cs:List ByteArray) (fs:List FD) (ts:List SD):Nat->Option (St->jv):=λk=>match k with
 | 5=>some λ_=>.inv { α:=Nat,slots:=λk=>[(22,.c (.v (.int .i64 k)))],res:=λk=>[],inv:=λk=>k<=(ts).length/\∀j < k,∀t,ts[j]?=some t->CU fs.length t=0,meas:=λk=>(ts).length - k }
 | _=>none
theorem aeW(vs:List VD) (ms cs:List ByteArray) (fs:List FD) (ts:List SD):
 let z3:=[cI (CV fs ts),SV.agg AO];let z2:=λ(x:Nat)=>(x<=ts.length/\∀(j:Nat),j < x->∀(t:Int×Int×Unit),ts[j]?=some t->CU fs.length t=0);let z1:=[g0 (ay.blk 27 [SC.sl ER vs,SC.sl Sh.str ms,SC.sl Sh.str cs,SC.sl BA fs,SC.sl lU ts]),g0 (ay.blk 162 [v6 0,v6 0]),g0 (ay.blk 162 AO)];br (decide ((ts.length:Int) < (1:Int)) || decide (8 < (ts.length:Int))) (rT z3 [cI 4,SV.agg AO]) ((∃x,(z2 x)/\(cI 0=cI (x:Int)/\True)/\sm z1)/\∀(x:Nat),(z2 x)->br (decide ((x:Int) < (ts.length:Int))) ((0<=(x:Int)/\(x:Int) < (ts.length:Int))/\∀(d:Int×(I6.pair Sh.unit).den),ts[(x:Int).toNat]?=some d->br (decide (d.fst < 0) || decide ((fs.length:Int)<=d.fst)) (rT z3 [cI 11,SV.agg AO]) (True/\br (!bW (d.snd.fst,()).fst) (rT z3 [cI 2,SV.agg AO]) (iR ((x:Int)+(1:Int))/\∃x',(z2 x')/\(cI ((x:Int)+(1:Int))=cI (x':Int)/\True)/\sm z1/\ts.length - x' < ts.length - x))) (rT z3 kq9)):=by
 conv=>zeta
 delta AO kq9 v6 cI g0 rT sm I6 iR
 by_cases hc:ts.length < 1\/8 < ts.length
 .have e:CV fs ts=4:=by unfold CV;rw[if_pos hc]
  rw[e];refine ah.2 ⟨λ_=>⟨rfl,rfl⟩,λh=>?_⟩
  simp only[l7,eX]at h;omega
 refine ah.2 ⟨λh=>?_,λh=>⟨⟨0,⟨by omega,λj hj=>by omega⟩,⟨rfl,trivial⟩,rfl⟩,λk hk=>ah.2 ⟨λh2=>?_,λh2=>?_⟩⟩⟩
 .simp only[wC,dH]at h;omega
 .simp only[dH]at h2;have hN:(k:Int).toNat=k:=by omega
  rw[hN];refine⟨by omega,λd hd=>ah.2 ⟨λh3=>⟨rfl,?_⟩,λh3=>⟨trivial,ah.2 ⟨λh4=>⟨rfl,?_⟩,λh4=>⟨ak.2 (by omega),k+1,⟨by omega,λj hj v hv=>?_⟩,⟨rfl,trivial⟩,rfl,by omega⟩⟩⟩⟩⟩
  .have h3:d.1 < 0\/(fs.length:Int)<=d.1:=by simpa using h3
   have e:CU fs.length d=11:=by unfold CU;rw[if_pos h3]
   rw[zA hc hd (by rw[e];simp) hk.2,e]
  .have h3:¬(d.1 < 0\/(fs.length:Int)<=d.1):=by simpa using h3
   have h4:bW d.2.1=false:=by simpa using h4
   have e:CU fs.length d=2:=by unfold CU;rw[if_neg h3,if_neg (by rw[h4];simp)]
   rw[zA hc hd (by rw[e];simp) hk.2,e]
  .have h3:¬(d.1 < 0\/(fs.length:Int)<=d.1):=by simpa using h3
   have h4:bW d.2.1=true:=by simpa using h4
   by_cases gU:j=k
   .subst gU;rw[hd]at hv;cases hv;unfold CU;rw[if_neg h3,if_pos h4]
   .exact hk.2 j (by omega) v hv
 .simp only[eX]at h2;rw[Ry hc λj t hj=>hk.2 j (by have:=(A8.1 hj).1;omega) t hj];exact⟨rfl,rfl⟩
theorem ZM:aU aT.gd 146 anU:=
 jG (cx:=aT) (n:=45) (cl:=[(186,Zy)]) au ⟨MF,trivial⟩ Tryz.func146 λd hd=>by
  obtain⟨⟨vs,ms,cs,fs,ts,⟨⟩⟩,⟨⟩⟩:=d;exact⟨ake vs ms cs fs ts,cast (by kernel_rfl) (aeW vs ms cs fs ts)⟩
abbrev ZN:CT:={ ps:=[BA],pre:=λd=>True,res:=λd=>([],vB (decide (64 < d.1.2.1.length))) }
theorem aeX(nm:ByteArray) (l:List ID):
 qB (decide (64 < l.length)) (decide (64 < (l.length:Int))):=by
 delta qB;refine⟨rfl,?_⟩
 congr 4
 rw[FK];simp only[dH];omega
theorem ZO:aU aT.gd 188 ZN:=
 jG (cx:=aT) (n:=7) (cl:=[]) au trivial Tryz.func188 λd hd=>by
  obtain⟨⟨nm,l,⟨⟩⟩,⟨⟩⟩:=d;exact⟨λ_=>none,cast (by kernel_rfl) (aeX nm l)⟩
def dL(fs:List FD):Int:=match fs.findIdx? (λf=>decide (64 < f.2.1.length)) with | some k=>(k:Int) | none=>-1
theorem ES{d:FD} (hd:fs[k]?=some d) (h2:64 < d.2.1.length) (hn:∀j < k,∀f,fs[j]?=some f->f.2.1.length<=64):dL fs=k:=by
 have iQ:k < fs.length:=(A8.1 hd).1;have:fs.findIdx? (λf=>decide (64 < f.2.1.length))=some k:=by
  rw[A50];refine⟨iQ,by rw[(A8.1 hd).2];simpa using h2,λj hj=>?_⟩
  have:=hn j hj fs[j] (lN (by omega))
  simpa using this
 simp[dL,this]
theorem AP(hn:∀(j:Nat) f,fs[j]?=some f->f.2.1.length<=64):dL fs = -1:=by
 have:fs.findIdx? (λf=>decide (64 < f.2.1.length))=none:=by
  rw[A73];intro y hy;obtain⟨j,hj⟩:=yu hy;simpa using hn j y hj
 simp[dL,this]
abbrev Jw:CT:={ ps:=[.sl BA],pre:=λd=>d.1.length<=1000000,res:=λd=>([],.one (.c (.v (.int .i64 (dL d.1))))) }
abbrev akf(fs:List FD):Nat->Option (St->jv):=λk=>match k with
 | 2=>some λ_=>.inv { α:=Nat,slots:=λk=>[(8,.c (.v (.int .i64 k)))],res:=λk=>[],inv:=λk=>k<=(fs).length/\∀j < k,∀f,fs[j]?=some f->f.2.1.length<=64,meas:=λk=>(fs).length - k }
 | _=>none
theorem aeY(fs:List FD) (aF:Jw.pre (fs,())):
 let z1:=λ(x:Nat)=>(x<=fs.length/\∀(j:Nat),j < x->∀(f:ByteArray×List ID×Unit),fs[j]?=some f->f.snd.fst.length<=64);(∃x,(z1 x)/\(cI 0=cI (x:Int)/\True)/\([]:List dJ)=[])/\∀(x:Nat),(z1 x)->br (decide ((x:Int) < (fs.length:Int))) ((0<=(x:Int)/\(x:Int) < (fs.length:Int))/\∀(d:ByteArray×(lJ.sl.pair Sh.unit).den),fs[(x:Int).toNat]?=some d->True/\br (decide (64 < List.length (d.snd.fst,()).fst)) (qI (dL fs) (x:Int)) (iR ((x:Int)+(1:Int))/\∃x',(z1 x')/\(cI ((x:Int)+(1:Int))=cI (x':Int)/\True)/\([]:List dJ)=[]/\fs.length - x' < fs.length - x)) (qI (dL fs) (-1:Int)):=by
 conv=>zeta
 delta dJ cI qI I6 iR;have hp:fs.length<=1000000:=aF;refine⟨⟨0,⟨by omega,λj hj=>by omega⟩,⟨rfl,trivial⟩,rfl⟩,λk hk=>ah.2 ⟨λh=>?_,λh=>?_⟩⟩
 .simp only[dH]at h;have hN:(k:Int).toNat=k:=by omega
  rw[hN];refine⟨by omega,λd hd=>⟨trivial,ah.2 ⟨λh2=>⟨rfl,?_⟩,λh2=>⟨ak.2 (by omega),k+1,⟨by omega,λj hj f hf=>?_⟩,⟨rfl,trivial⟩,rfl,by omega⟩⟩⟩⟩
  .have h2:64 < d.2.1.length:=by simpa using h2
   rw[ES hd h2 hk.2]
  .have h2:¬64 < d.2.1.length:=by simpa using h2
   by_cases gU:j=k
   .subst gU;rw[hd]at hf;cases hf;omega
   .exact hk.2 j (by omega) f hf
 .simp only[eX]at h;rw[AP λj f hf=>hk.2 j (by have:=(A8.1 hf).1;omega) f hf];exact⟨rfl,rfl⟩
theorem Vs:Jl Tryz.prog aT.gd 187 [.func (.func 188) #[] #[]] Jw:=
 (nT (cx:=aT) (n:=19) (cl:=[(188,ZN)]) (il:=Zq) (hl:=hlN) (ml:=mlN) (rc:=[]) (lits:=[]) (suf:=[.func (.func 188) #[] #[]]) (by kernel_rfl) au ⟨ZO,trivial⟩ trivial trivial trivial Tryz.func187 (by kernel_rfl) (by kernel_rfl) rfl (by kernel_rfl) (by kernel_rfl) (by simp) λd hd=>by
  obtain⟨fs,⟨⟩⟩:=d;exact⟨akf fs,cast (by kernel_rfl) (aeY fs hd)⟩)
def Jy(vs:List VD) (ms cs:List ByteArray) (fs:List FD) (d:bU [lU,lJ]):Int:=vW vs ms cs fs d.2.1 (((fs.getD d.1.1.toNat (⟨#[]⟩,[],())).2.1.length:Nat):Int)
def ET(vs:List VD) (ms cs:List ByteArray) (fs:List FD):Int×Int×Int:=match(dN fs).find? (λd=>decide (d.1.1=dL fs) || decide (Jy vs ms cs fs d≠0)) with
 | some d=>if d.1.1=dL fs then(4,dL fs,-1) else(Jy vs ms cs fs d,d.1.1,d.1.2.1)
 | none=>if 0<=dL fs then(4,dL fs,-1) else(0,-1,-1)
theorem Rz{e:FD} (he:fs[d.1.1.toNat]?=some e):Jy vs ms cs fs d=vW vs ms cs fs d.2.1 (e.2.1.length:Int):=by
 unfold Jy;rw[J5,he];rfl
theorem vX:∀(l:List FD) (n:Nat){d:bU [lU,lJ]},d∈jM n l->∃(k:Nat) (x:FD) (j:Nat) (e:ID),l[k]?=some x/\x.2.1[j]?=some e/\d=((((n+k:Nat):Int),(j:Int),()),e,())
 | [],n,d,h=>by simp[jM]at h
 | x :: l,n,d,h=>by
   simp only[jM,FI]at h;rcases h with h | h
   .unfold qj at h;obtain⟨p,hp,rfl⟩:=List.mem_map.1 h;have:=List.mk_mem_zipIdx_iff_getElem?.1 (show(p.1,p.2)∈x.2.1.zipIdx from hp)
    exact⟨0,x,p.2,p.1,rfl,this,rfl⟩
   .obtain⟨k,y,j,e,h1,h2,rfl⟩:=vX l (n+1) h;exact⟨k+1,y,j,e,by simpa using h1,h2,by rw[show n+1+k=n+(k+1) by omega]⟩
theorem MI{i:Nat} (hd:(dN fs)[i]?=some d):0<=d.1.1/\d.1.1 < fs.length:=by
 obtain⟨k,x,j,e,h1,h2,rfl⟩:=vX fs 0 (iy hd);have:=(A8.1 h1).1;show 0<=((0+k:Nat):Int)/\((0+k:Nat):Int) < _;omega
theorem RD{i:Nat} (hd:(dN fs)[i]?=some d) (hb:d.1.1=dL fs\/Jy vs ms cs fs d≠0)
 (hn:∀j < i,∀d,(dN fs)[j]?=some d->d.1.1≠dL fs/\Jy vs ms cs fs d=0):ET vs ms cs fs=if d.1.1=dL fs then(4,dL fs,-1) else(Jy vs ms cs fs d,d.1.1,d.1.2.1):=by
 unfold ET;rw[xW hd (by simpa using hb) λj hj t ht=>by obtain⟨a,b⟩:=hn j hj t ht;simp[a,b]]
theorem PL(hn:∀(j:Nat) d,(dN fs)[j]?=some d->d.1.1≠dL fs/\Jy vs ms cs fs d=0):ET vs ms cs fs=if 0<=dL fs then(4,dL fs,-1) else(0,-1,-1):=by
 unfold ET;rw[Rx λj t ht=>by obtain⟨a,b⟩:=hn j t ht;simp[a,b]]
abbrev akg:CT:={ ps:=[o9],pre:=λd=>d.1.2.2.2.1.length<=1000000/\∀x∈d.1.2.2.2.1,x.2.1.length<=1000000,res:=λd=>([],.gV [.c (.v (.int .i64 ((ET d.1.1 d.1.2.1 d.1.2.2.1 d.1.2.2.2.1).1))),.agg [.v (.int .i64 ((ET d.1.1 d.1.2.1 d.1.2.2.1 d.1.2.2.2.1).2.1)),.v (.int .i64 ((ET d.1.1 d.1.2.1 d.1.2.2.1 d.1.2.2.2.1).2.2))]]) }
abbrev akh(vs:List VD) (ms cs:List ByteArray) (fs:List FD) (ts:List SD):Nat->Option (St->jv):=λk=>match k with
 | 5=>some λ_=>.rng { α:=Nat,res:=λ_=>[],inv:=λi n=>n=i/\∀j < n,∀d,(dN fs)[j]?=some d->d.1.1≠dL fs/\Jy vs ms cs fs d=0 }
 | _=>none
abbrev anV:List (Nat×Nat×CT):=[(187,188,Jw)]
theorem aeZ(vs:List VD) (ms cs:List ByteArray) (fs:List FD) (ts:List SD) (aF:akg.pre ((vs,ms,cs,fs,ts,()),())):
 let z5:=[g0 (ay.blk 27 [SC.sl ER vs,SC.sl Sh.str ms,SC.sl Sh.str cs,SC.sl BA fs,SC.sl lU ts]),g0 (ay.blk 38 [v6 0]),g0 (ay.blk 162 [v6 0,v6 0]),g0 (ay.blk 3 [v6 (dL fs)])];let z11:=ET vs ms cs fs;let z9:=[cI (z11.fst),SV.agg [v6 (z11.snd.fst),v6 (z11.snd.snd)]];let z10:=[cI 4,SV.agg [v6 (dL fs),v6 (-1)]];let z3:=((rT z9 z10)/\rT z9 z10)/\rT z9 z10;let z8:=rT z9 kq9;let z4:=λ(d:lU.den×bU [I6.pair (I6.pair (I6.pair (I6.pair (I6.pair (I6.pair lU)))))])=>(d.snd.fst.fst,d.snd.fst.snd.fst,d.snd.fst.snd.snd.fst,d.snd.fst.snd.snd.snd.fst,d.snd.fst.snd.snd.snd.snd.fst,d.snd.fst.snd.snd.snd.snd.snd.fst,d.snd.fst.snd.snd.snd.snd.snd.snd.fst,d.snd.fst.snd.snd.snd.snd.snd.snd.snd.fst,());let z6:=λ(d:lU.den×bU [I6.pair (I6.pair (I6.pair (I6.pair (I6.pair (I6.pair lU)))))])=>(d.snd.fst.snd.snd.snd.snd.fst,d.snd.fst.snd.snd.snd.snd.snd.fst,d.snd.fst.snd.snd.snd.snd.snd.snd.fst,d.snd.fst.snd.snd.snd.snd.snd.snd.snd.fst,());let z7:=λ(d:lU.den×bU [I6.pair (I6.pair (I6.pair (I6.pair (I6.pair (I6.pair lU)))))])=>(d.snd.fst.snd.snd.snd.snd.snd.fst,d.snd.fst.snd.snd.snd.snd.snd.snd.fst,d.snd.fst.snd.snd.snd.snd.snd.snd.snd.fst,());let z2:=λ(d:lU.den×bU [I6.pair (I6.pair (I6.pair (I6.pair (I6.pair (I6.pair lU)))))])=>qy (z4 d).fst (d.snd.fst.snd.fst,d.snd.fst.snd.snd.fst,d.snd.fst.snd.snd.snd.fst,d.snd.fst.snd.snd.snd.snd.fst,d.snd.fst.snd.snd.snd.snd.snd.fst,d.snd.fst.snd.snd.snd.snd.snd.snd.fst,d.snd.fst.snd.snd.snd.snd.snd.snd.snd.fst,()).fst (d.snd.fst.snd.snd.fst,d.snd.fst.snd.snd.snd.fst,d.snd.fst.snd.snd.snd.snd.fst,d.snd.fst.snd.snd.snd.snd.snd.fst,d.snd.fst.snd.snd.snd.snd.snd.snd.fst,d.snd.fst.snd.snd.snd.snd.snd.snd.snd.fst,()).fst (d.snd.fst.snd.snd.snd.fst,d.snd.fst.snd.snd.snd.snd.fst,d.snd.fst.snd.snd.snd.snd.snd.fst,d.snd.fst.snd.snd.snd.snd.snd.snd.fst,d.snd.fst.snd.snd.snd.snd.snd.snd.snd.fst,()).fst (z6 d).fst (z7 d).fst (d.snd.fst.snd.snd.snd.snd.snd.snd.fst,d.snd.fst.snd.snd.snd.snd.snd.snd.snd.fst,()).fst (d.snd.fst.snd.snd.snd.snd.snd.snd.snd.fst,()).fst;let z1:=λ(d:lU.den×bU [I6.pair (I6.pair (I6.pair (I6.pair (I6.pair (I6.pair lU)))))]) (dI:ByteArray×(lJ.sl.pair Sh.unit).den)=>[cI (ciS vs ms cs fs (z2 d) (z4 d).fst (z6 d).fst (z7 d).fst ((List.length dI.snd.fst):Int)),SV.agg [v6 d.fst.fst,v6 d.fst.snd.fst]];fs.length<=1000000/\(fs.length<=1000000/\∀(x:ByteArray×(lJ.sl.pair Sh.unit).den),x∈fs->List.length x.snd.fst<=1000000)/\some Tryz.prog=some Tryz.prog/\(∃x,(x=0/\∀(j:Nat),j < x->∀(d:lU.den×bU [I6.pair (I6.pair (I6.pair (I6.pair (I6.pair (I6.pair lU)))))]),(dN fs)[j]?=some d->d.fst.fst≠dL fs/\Jy vs ms cs fs d=0)/\sm z5)/\(∀(i x:Nat) (d:lU.den×bU [I6.pair (I6.pair (I6.pair (I6.pair (I6.pair (I6.pair lU)))))]),(x=i/\∀(j:Nat),j < x->∀(d:lU.den×bU [I6.pair (I6.pair (I6.pair (I6.pair (I6.pair (I6.pair lU)))))]),(dN fs)[j]?=some d->d.fst.fst≠dL fs/\Jy vs ms cs fs d=0)->(dN fs)[i]?=some d->br (decide (d.fst.fst=dL fs)) (br (decide (0<=dL fs)) z3 z8) ((0<=d.fst.fst/\d.fst.fst < (fs.length:Int))/\∀(dI:ByteArray×(lJ.sl.pair Sh.unit).den),fs[Int.toNat d.fst.fst]?=some dI->True/\br (!decide (ciS vs ms cs fs (z2 d) (z4 d).fst (z6 d).fst (z7 d).fst ((List.length dI.snd.fst):Int)=(0:Int))) ((rT z9 (z1 d dI))/\rT z9 (z1 d dI)) (∃x',(x'=i+1/\∀(j:Nat),j < x'->∀(d:lU.den×bU [I6.pair (I6.pair (I6.pair (I6.pair (I6.pair (I6.pair lU)))))]),(dN fs)[j]?=some d->d.fst.fst≠dL fs/\Jy vs ms cs fs d=0)/\sm z5)))/\∀(x:Nat),(x=aQ (dN fs)/\∀(j:Nat),j < x->∀(d:lU.den×bU [I6.pair (I6.pair (I6.pair (I6.pair (I6.pair (I6.pair lU)))))]),(dN fs)[j]?=some d->d.fst.fst≠dL fs/\Jy vs ms cs fs d=0)->br (decide (0<=dL fs)) z3 z8:=by
 conv=>zeta
 delta kq9 v6 cI g0 rT sm I6;refine⟨aF.1,aF,rfl,⟨0,⟨rfl,λj hj=>by omega⟩,rfl⟩,λi x d hi hd=>?_,λx hx=>?_⟩
 .obtain⟨rfl,hi⟩:=hi;refine ah.2 ⟨λh=>?_,λh=>?_⟩
  .have h:d.1.1=dL fs:=by simpa using h
   obtain⟨hb1,hb2⟩:=MI hd;have hl:(0:Int)<=dL fs:=by rw[<-h];exact hb1
   rw[RD hd (.inl h) hi,if_pos h];exact ah.2 ⟨λ_=>⟨⟨⟨rfl,rfl⟩,rfl,rfl⟩,rfl,rfl⟩,λhh=>absurd hl (Ua hh)⟩
  .have h:¬d.1.1=dL fs:=by simpa using h
   obtain⟨hb1,hb2⟩:=MI hd;refine⟨⟨hb1,hb2⟩,λe he=>⟨trivial,ah.2 ⟨λh2=>?_,λh2=>⟨x+1,⟨rfl,λj hj d' hd'=>?_⟩,rfl⟩⟩⟩⟩
   .have h2:Jy vs ms cs fs d≠0:=by rw[Rz he];simpa using h2
    rw[RD hd (.inr h2) hi,if_neg h,Rz he];exact⟨⟨rfl,rfl⟩,rfl,rfl⟩
   .by_cases hji:j=x
    .subst hji;rw[hd]at hd';cases hd';exact⟨h,by rw[Rz he];simpa using h2⟩
    .exact hi j (by omega) d' hd'
 .obtain⟨rfl,hx⟩:=hx;refine ah.2 ⟨λh=>?_,λh=>?_⟩
  .have h:(0:Int)<=dL fs:=by simpa using h
   rw[PL λj d hd=>hx j (by rw[bF];exact(A8.1 hd).1) d hd,if_pos h]
   exact⟨⟨⟨rfl,rfl⟩,rfl,rfl⟩,rfl,rfl⟩
  .have h:¬(0:Int)<=dL fs:=by simpa using h
   rw[PL λj d hd=>hx j (by rw[bF];exact(A8.1 hd).1) d hd,if_neg h]
   exact⟨rfl,rfl⟩
theorem ZP:aU aT.gd 145 akg:=
 (nT (cx:=aT) (n:=39) (cl:=[(189,Ju),(190,anR)]) (il:=Zq) (hl:=anV) (ml:=mlN) (rc:=[]) (lits:=[]) (suf:=[]) (by kernel_rfl) au ⟨Zw,ZJ,trivial⟩ trivial ⟨Vs,trivial⟩ trivial Tryz.func145 (by kernel_rfl) (by kernel_rfl) rfl (by kernel_rfl) (by kernel_rfl) (by simp) λd hd=>by
  obtain⟨⟨vs,ms,cs,fs,ts,⟨⟩⟩,⟨⟩⟩:=d;exact⟨akh vs ms cs fs ts,cast (by kernel_rfl) (aeZ vs ms cs fs ts hd)⟩).met
abbrev bnd(d:bU [o9]):Prop:=d.1.1.length<=1000000/\d.1.2.1.length<=1000000/\d.1.2.2.1.length<=1000000/\d.1.2.2.2.1.length<=1000000/\d.1.2.2.2.2.1.length<=1000000/\(∀x∈d.1.2.2.2.1,x.2.1.length<=1000000)/\(dN d.1.2.2.2.1).length<=1000000
def aG(vs:List VD) (ms cs:List ByteArray) (fs:List FD) (ts:List SD):Int×Int×Int:=
 if(BQ vs ms cs fs).1≠0 then BQ vs ms cs fs else if zW vs ms cs fs≠0 then(zW vs ms cs fs,-1,-1) else if(ET vs ms cs fs).1≠0 then ET vs ms cs fs else if CV fs ts≠0 then(CV fs ts,-1,-1) else(0,-1,-1)
abbrev Hr:CT:={ ps:=[o9],pre:=λd=>bnd d,res:=λd=>([],.gV [.c (.v (.int .i64 (aG d.1.1 d.1.2.1 d.1.2.2.1 d.1.2.2.2.1 d.1.2.2.2.2.1).1)),.c (.v (.int .i64 (aG d.1.1 d.1.2.1 d.1.2.2.1 d.1.2.2.2.1 d.1.2.2.2.2.1).2.1)),.c (.v (.int .i64 (aG d.1.1 d.1.2.1 d.1.2.2.1 d.1.2.2.2.1 d.1.2.2.2.2.1).2.2))]) }
theorem aki(vs:List VD) (ms cs:List ByteArray) (fs:List FD) (ts:List SD) (aF:Hr.pre ((vs,ms,cs,fs,ts,()),())):
 let z10:=BQ vs ms cs fs;let z7:=z10.fst=0;let z5:=decide z7;let z6:=decide (zW vs ms cs fs=0);let z11:=ET vs ms cs fs;let z8:=z11.fst=0;let z9:=aG vs ms cs fs ts;let z4:=[cI (z9.fst),cI (z9.snd.fst),cI (z9.snd.snd)];let z3:=rT z4 [cI 0,cI (-1),cI (-1)];let z2:=True/\br (!decide (CV fs ts=0)) (rT z4 [cI (CV fs ts),cI (-1),cI (-1)]) z3;let z1:=(fs.length<=1000000/\∀(x:ByteArray×(lJ.sl.pair Sh.unit).den),x∈fs->List.length x.snd.fst<=1000000)/\br (decide z8) z2 (br (!decide z8) (rT z4 [cI (z11.fst),cI (z11.snd.fst),cI (z11.snd.snd)]) z3);(vs.length<=1000000/\ms.length<=1000000/\cs.length<=1000000/\fs.length<=1000000)/\br z5 (True/\br z6 z1 (br z6 z2 (br (!decide (zW vs ms cs fs=0)) (rT z4 [cI (zW vs ms cs fs),cI (-1),cI (-1)]) z3))) (br z5 z1 (br z5 z2 (br (!decide z7) (rT z4 [cI (z10.fst),cI (z10.snd.fst),cI (z10.snd.snd)]) z3))):=by
 conv=>zeta
 delta cI rT I6;obtain⟨h1,h2,h3,h4,h5,h6,h7⟩:bnd ((vs,ms,cs,fs,ts,()),()):=aF;have hA:∀x∈fs,x.2.1.length<=1000000:=h6;have hB:fs.length<=1000000/\∀x∈fs,x.2.1.length<=1000000:=⟨h4,h6⟩;have hC:vs.length<=1000000/\ms.length<=1000000/\cs.length<=1000000/\fs.length<=1000000:=⟨h1,h2,h3,h4⟩;clear h1 h2 h3 h4 h5 h6 h7 hA;unfold aG;simp only[ah]
 repeat' (first | exact hB | exact hC | (refine And.intro ?_ ?_) | (intro _))
 all_goals first | trivial | rfl | (clear hB hC;simp_all;done)
theorem CW:aU aT.gd 74 Hr:=
 jG (cx:=aT) (n:=40) (cl:=[(143,akb),(144,anT),(145,akg),(146,anU)]) au ⟨ZK,ZL,ZP,ZM,trivial⟩ Tryz.func74 λd hd=>by
  obtain⟨⟨vs,ms,cs,fs,ts,⟨⟩⟩,⟨⟩⟩:=d;exact⟨λ_=>none,cast (by kernel_rfl) (aki vs ms cs fs ts hd)⟩
abbrev ZQ:CT:={ ps:=[o9],pre:=λd=>bnd d,res:=λd=>([],vB (decide ((aG d.1.1 d.1.2.1 d.1.2.2.1 d.1.2.2.2.1 d.1.2.2.2.2.1).1=0))) }
theorem ZR{hi:Int}:∀(l:List Int) (lo:Int),SS l->(∀x∈l,lo<=x/\x < hi)->lo<=hi->(l.length:Int)<=hi - lo
 | [],lo,_,_,h=>by simp;omega
 | x :: l,lo,hs,hb,h=>by
   obtain⟨h1,h2⟩:=A89.1 hs;obtain⟨b1,b2⟩:=hb x (by simp)
   have:=ZR l (x+1) h2 (λy hy=>⟨by have:=h1 y hy;omega,(hb y (by simp[hy])).2⟩) (by omega)
   simp only[wV];omega
theorem ZT{n:Nat} (hs:SS l) (hb:∀x∈l,0<=x/\x < (n:Int)):l.length<=n:=by
 have:=ZR l 0 hs hb (by omega)
 omega
theorem oU(h:(aG vs ms cs fs ts).1=0):zW vs ms cs fs=0/\(ET vs ms cs fs).1=0/\CV fs ts=0:=by
 unfold aG at h;split at h
 .rename_i h1;exact absurd h h1
 .split at h
  .rename_i h1;exact absurd h h1
  .split at h
   .rename_i h1;exact absurd h h1
   .split at h
    .rename_i h1;exact absurd h h1
    .rename_i h1 h2 h3 h4;exact⟨by omega,by omega,by omega⟩
theorem akj(h:(ET vs ms cs fs).1=0):∀d∈dN fs,Jy vs ms cs fs d=0:=by
 unfold ET at h;split at h
 .rename_i d hd;have hp:=V6 hd;split at h
  .cases h
  .rename_i h1;simp only[wC,dH]at hp;rcases hp with hp | hp
   .exact absurd hp h1
   .exact absurd h hp
 .rename_i hd;intro d hm;have:=A90.1 hd d hm;simp only[wC,dH,not_or]at this;omega
theorem aJ{α:Type 1}{Q:α->Prop}{V:Prop} (a:α) (v:V) (h:V=Q a):∃a,Q a:=⟨a,cast h v⟩
def Vt(vs:List VD) (ms cs:List ByteArray) (fs:List FD) (ts:List SD):Bool:=decide (vs.length<=20/\ms.length<=20/\cs.length<=20/\fs.length<=20/\ts.length<=20) && fs.all λf=>decide (f.2.1.length<=100)
abbrev anW:CT:={ ps:=[o9],pre:=λd=>True,res:=λd=>([],vB (Vt d.1.1 d.1.2.1 d.1.2.2.1 d.1.2.2.2.1 d.1.2.2.2.2.1)) }
abbrev anX(vs:List VD) (ms cs:List ByteArray) (fs:List FD) (ts:List SD):Nat->Option (St->jv):=λk=>match k with
 | 4=>some λ_=>.inv { α:=Nat,slots:=λk=>[(3,.c (.v (.int .i64 k)))],res:=λk=>[],inv:=λk=>k<=(fs).length/\∀j < k,∀f,fs[j]?=some f->f.2.1.length<=100,meas:=λk=>(fs).length - k }
 | _=>none
theorem akk(vs:List VD) (ms cs:List ByteArray) (fs:List FD) (ts:List SD):
 let z3:=qB (Vt vs ms cs fs ts) false;let z1:=λ(x:Nat)=>(x<=fs.length/\∀(j:Nat),j < x->∀(f:ByteArray×List ID×Unit),fs[j]?=some f->f.snd.fst.length<=100);let z2:=[g0 (ay.blk 27 [SC.sl ER vs,SC.sl Sh.str ms,SC.sl Sh.str cs,SC.sl BA fs,SC.sl lU ts])];br (decide (20 < (vs.length:Int)) || decide (20 < (ms.length:Int)) || decide (20 < (cs.length:Int)) || decide (20 < (fs.length:Int)) || decide (20 < (ts.length:Int))) z3 ((∃x,(z1 x)/\(cI 0=cI (x:Int)/\True)/\sm z2)/\∀(x:Nat),(z1 x)->br (decide ((x:Int) < (fs.length:Int))) ((0<=(x:Int)/\(x:Int) < (fs.length:Int))/\∀(d:ByteArray×(lJ.sl.pair Sh.unit).den),fs[(x:Int).toNat]?=some d->br (decide (100 < ((List.length d.snd.fst):Int))) z3 (iR ((x:Int)+(1:Int))/\∃x',(z1 x')/\(cI ((x:Int)+(1:Int))=cI (x':Int)/\True)/\sm z2/\fs.length - x' < fs.length - x)) (qB (Vt vs ms cs fs ts) true)):=by
 conv=>zeta
 delta cI g0 qB sm I6 iR
 by_cases hc:¬(vs.length<=20/\ms.length<=20/\cs.length<=20/\fs.length<=20/\ts.length<=20)
 .have e:Vt vs ms cs fs ts=false:=by unfold Vt;rw[yw hc];rfl
  rw[e];refine ah.2 ⟨λ_=>⟨rfl,rfl⟩,λh=>?_⟩
  simp only[l7,eX]at h;omega
 have hc:=J8.1 hc;refine ah.2 ⟨λh=>?_,λ_=>?_⟩
 .simp only[wC,dH]at h;omega
 refine⟨⟨0,⟨by omega,λj hj=>by omega⟩,⟨rfl,trivial⟩,rfl⟩,λk hk=>ah.2 ⟨λh=>?_,λh=>?_⟩⟩
 .simp only[dH]at h;have hN:(k:Int).toNat=k:=by omega
  rw[hN];refine⟨by omega,λd hd=>ah.2 ⟨λh2=>⟨rfl,?_⟩,λh2=>⟨ak.2 (by omega),k+1,⟨by omega,λj hj f hf=>?_⟩,⟨rfl,trivial⟩,rfl,by omega⟩⟩⟩
  .have h2:¬d.2.1.length<=100:=by simp only[dH]at h2;omega
   have e:Vt vs ms cs fs ts=false:=by
    unfold Vt;rw[show(fs.all λf=>decide (f.2.1.length<=100))=false from List.all_eq_false.2 ⟨d,iy hd,by simpa using h2⟩,Bool.and_false]
   rw[e]
  .by_cases gU:j=k
   .subst gU;rw[hd]at hf;cases hf;simp only[eX]at h2;omega
   .exact hk.2 j (by omega) f hf
 .simp only[eX]at h;have e:Vt vs ms cs fs ts=true:=by
   unfold Vt;rw[wX hc,FM,NH];intro f hf;obtain⟨j,hj⟩:=yu hf;simpa using hk.2 j (by have:=(A8.1 hj).1;omega) f hj
  rw[e];exact⟨rfl,rfl⟩
theorem ae0:aU aT.gd 10 anW:=
 jG (cx:=aT) (n:=47) (cl:=[]) au trivial Tryz.func10 λd hd=>by
  obtain⟨⟨vs,ms,cs,fs,ts,⟨⟩⟩,⟨⟩⟩:=d;exact aJ (anX vs ms cs fs ts) (akk vs ms cs fs ts) (by kernel_rfl)
abbrev ahv:CT:={ ps:=[o9],pre:=λd=>True,res:=λd=>([],.one (.c (.v (.int .i64 (CV d.1.2.2.2.1 d.1.2.2.2.2.1))))) }
abbrev akl(vs:List VD) (ms cs:List ByteArray) (fs:List FD) (ts:List SD):Nat->Option (St->jv):=λk=>match k with
 | 4=>some λ_=>.inv { α:=Nat,slots:=λk=>[(3,.c (.v (.int .i64 k)))],res:=λk=>[],inv:=λk=>k<=(ts).length/\∀j < k,∀t,ts[j]?=some t->CU fs.length t=0,meas:=λk=>(ts).length - k }
 | _=>none
theorem ae1(vs:List VD) (ms cs:List ByteArray) (fs:List FD) (ts:List SD):
 let z1:=λ(x:Nat)=>(x<=ts.length/\∀(j:Nat),j < x->∀(t:Int×Int×Unit),ts[j]?=some t->CU fs.length t=0);let z2:=[g0 (ay.blk 27 [SC.sl ER vs,SC.sl Sh.str ms,SC.sl Sh.str cs,SC.sl BA fs,SC.sl lU ts])];let z3:=λ(x:Nat)=>0<=(x:Int)/\(x:Int) < (ts.length:Int);br (decide ((ts.length:Int) < (1:Int)) || decide (8 < (ts.length:Int))) (qI (CV fs ts) (4:Int)) ((∃x,(z1 x)/\(cI 0=cI (x:Int)/\True)/\sm z2)/\∀(x:Nat),(z1 x)->br (decide ((x:Int) < (ts.length:Int))) ((z3 x)/\∀(d:Int×(I6.pair Sh.unit).den),ts[(x:Int).toNat]?=some d->((!decide (d.fst < 0))=true->0<=(x:Int)/\(x:Int) < (ts.length:Int))/\∀(dI:Int×(I6.pair Sh.unit).den),((!decide (d.fst < 0))=true->ts[(x:Int).toNat]?=some dI)->br (decide (d.fst < 0) || decide ((fs.length:Int)<=dI.fst)) (qI (CV fs ts) (11:Int)) ((z3 x)/\∀(d:Int×(I6.pair Sh.unit).den),ts[(x:Int).toNat]?=some d->True/\br (!bW (d.snd.fst,()).fst) (qI (CV fs ts) (2:Int)) (iR ((x:Int)+(1:Int))/\∃x',(z1 x')/\(cI ((x:Int)+(1:Int))=cI (x':Int)/\True)/\sm z2/\ts.length - x' < ts.length - x))) (qI (CV fs ts) (0:Int))):=by
 conv=>zeta
 delta cI g0 qI sm I6 iR
 by_cases hc:ts.length < 1\/8 < ts.length
 .have e:CV fs ts=4:=by unfold CV;rw[if_pos hc]
  rw[e];refine ah.2 ⟨λ_=>⟨rfl,rfl⟩,λh=>?_⟩
  simp only[l7,eX]at h;omega
 refine ah.2 ⟨λh=>?_,λh=>⟨⟨0,⟨by omega,λj hj=>by omega⟩,⟨rfl,trivial⟩,rfl⟩,λk hk=>ah.2 ⟨λh2=>?_,λh2=>?_⟩⟩⟩
 .simp only[wC,dH]at h;omega
 .simp only[dH]at h2;have hN:(k:Int).toNat=k:=by omega
  rw[hN];refine⟨by omega,λd hd=>⟨λ_=>by omega,λd1 hd1=>ah.2 ⟨λh3=>⟨rfl,?_⟩,λh3=>⟨by omega,λd2 hd2=>⟨trivial,ah.2 ⟨λh4=>⟨rfl,?_⟩,λh4=>⟨ak.2 (by omega),k+1,⟨by omega,λj hj v hv=>?_⟩,⟨rfl,trivial⟩,rfl,by omega⟩⟩⟩⟩⟩⟩⟩
  .have h3:d.1 < 0\/(fs.length:Int)<=d.1:=by
    by_cases hn:d.1 < 0
    .exact .inl hn
    .have:=hd1 (by simp[hn])
     rw[hd]at this;cases this;exact by simpa using h3
   have e:CU fs.length d=11:=by unfold CU;rw[if_pos h3]
   rw[zA hc hd (by rw[e];simp) hk.2,e]
  all_goals
   rw[hd]at hd2;cases hd2;have h3:¬(d.1 < 0\/(fs.length:Int)<=d.1):=by
    simp only[l7,eX]at h3;have:=hd1 (by rw[yw h3.1];rfl)
    rw[hd]at this;cases this;exact λq=>q.elim (λq=>h3.1 q) (λq=>h3.2 q)
  .have h4:bW d.2.1=false:=by simpa using h4
   have e:CU fs.length d=2:=by unfold CU;rw[if_neg h3,if_neg (by rw[h4];simp)]
   rw[zA hc hd (by rw[e];simp) hk.2,e]
  .have h4:bW d.2.1=true:=by simpa using h4
   by_cases gU:j=k
   .subst gU;rw[hd]at hv;cases hv;unfold CU;rw[if_neg h3,if_pos h4]
   .exact hk.2 j (by omega) v hv
 .simp only[eX]at h2;rw[Ry hc λj t hj=>hk.2 j (by have:=(A8.1 hj).1;omega) t hj];exact⟨rfl,rfl⟩
theorem ZU:aU aT.gd 136 ahv:=
 jG (cx:=aT) (n:=48) (cl:=[(134,Py)]) au ⟨MG,trivial⟩ Tryz.func136 λd hd=>by
  obtain⟨⟨vs,ms,cs,fs,ts,⟨⟩⟩,⟨⟩⟩:=d;exact aJ (akl vs ms cs fs ts) (ae1 vs ms cs fs ts) (by kernel_rfl)
def exS(vs:List VD) (ms cs:List ByteArray) (fs:List FD) (op obj n:Int):Bool:=!decide (0<=oQ vs ms cs fs op/\(obj < 0\/oQ vs ms cs fs op<=obj)) && !decide (op=18/\(n < 0\/(ms.length:Int)<=n))
abbrev ahw:CT:={ ps:=[o9,lJ],pre:=λd=>True,res:=λd=>([],vB (exS d.1.1 d.1.2.1 d.1.2.2.1 d.1.2.2.2.1 d.2.1.1 d.2.1.2.2.2.2.1 d.2.1.2.2.2.2.2.1)) }
theorem ae2(vs:List VD) (ms cs:List ByteArray) (fs:List FD) (ts:List SD) (op a b c obj n fn ord:Int):
 let z7:=exS vs ms cs fs op obj n;let z4:=qB z7 (decide (0<=obj) && decide (obj < (vs.length:Int)));let z5:=qB z7 (decide (0<=obj) && decide (obj < (ms.length:Int)));let z6:=qB z7 (decide (0<=obj) && decide (obj < (cs.length:Int)));let z3:=br (decide (op=21)) (qB z7 (decide (0<=obj) && decide (obj < (fs.length:Int)))) (qB z7 true);let z2:=br (decide (op=18)) (br (decide (n < 0) || decide ((ms.length:Int)<=n)) (qB z7 false) z6) (br (decide (op=19)) (br (decide (op=19)) z6 z3) (br (decide (op=20)) z6 z3));let z1:=br (decide (op=15)) (br (decide (op=15)) z5 z2) (br (decide (op=16)) (br (decide (op=16)) z5 z2) (br (decide (op=17)) z5 z2));br (decide (op=8)) (br (decide (op=8)) z4 z1) (br (decide (op=9)) (br (decide (op=9)) z4 z1) (br (decide (op=10)) (br (decide (op=10)) z4 z1) (br (decide (op=11)) (br (decide (op=11)) z4 z1) (br (decide (op=12)) (br (decide (op=12)) z4 z1) (br (decide (op=14)) z4 z1))))):=by
 conv=>zeta
 delta qB;simp only[ah]
 repeat' (first | (refine And.intro ?_ ?_) | (intro _))
 all_goals first | rfl | (simp_all[exS,oQ];done) | (simp_all[exS,oQ];omega) | (simp_all[exS,oQ];rw[FK];simp<;>omega)
theorem ZV:aU aT.gd 179 ahw:=
 jG (cx:=aT) (n:=61) (cl:=[]) au trivial Tryz.func179 λd hd=>by
  obtain⟨⟨vs,ms,cs,fs,ts,⟨⟩⟩,⟨op,a,b,c,obj,n,fn,ord,⟨⟩⟩,⟨⟩⟩:=d;exact aJ (λ_=>none) (ae2 vs ms cs fs ts op a b c obj n fn ord) (by kernel_rfl)
abbrev ahx:CT:={ ps:=[.str],pre:=λd=>True,res:=λd=>([],vB (dK d.1)) }
abbrev akm(s:ByteArray):Nat->Option (St->jv):=λk=>match k with
 | 4=>some λ_=>.inv { α:=Nat,slots:=λk=>[(3,.c (.v (.int .i64 k)))],res:=λk=>[],inv:=λk=>k<=((List.range s.size)).length/\∀j < k,(sH (Hq s j)=true\/(j≠0/\okB (Hq s j)=true)),meas:=λk=>((List.range s.size)).length - k }
 | _=>none
theorem ae3(s:ByteArray):
 let z2:=List.range s.size;let z1:=λ(x:Nat)=>(x<=z2.length/\∀(j:Nat),j < x->sH (Hq s j)=true\/j≠0/\okB (Hq s j)=true);br (decide ((s.size:Int) < (1:Int)) || decide (16 < (s.size:Int))) (qB (dK s) false) ((∃x,(z1 x)/\(cI 0=cI (x:Int)/\True)/\([]:List dJ)=[])/\∀(x:Nat),(z1 x)->br (decide ((x:Int) < (s.size:Int))) ((0<=(x:Int)/\(x:Int) < (s.size:Int))/\∀(u:UInt8),s[(x:Int).toNat]?=some u->br (!(decide (97<=(u.toNat:Int)) && decide ((u.toNat:Int)<=(122:Int)) || decide (65<=(u.toNat:Int)) && decide ((u.toNat:Int)<=(90:Int))) && (decide ((x:Int)=(0:Int)) || !decide ((u.toNat:Int)=(95:Int)) && (decide ((u.toNat:Int) < (48:Int)) || decide (57 < (u.toNat:Int))))) (qB (dK s) false) (iR ((x:Int)+(1:Int))/\∃x',(z1 x')/\(cI ((x:Int)+(1:Int))=cI (x':Int)/\True)/\([]:List dJ)=[]/\z2.length - x' < z2.length - x)) (qB (dK s) true)):=by
 conv=>zeta
 delta dJ cI qB iR;have hl:(List.range s.size).length=s.size:=List.length_range;rw[hl]
 by_cases hs:¬(1<=s.size/\s.size<=16)
 .have:dK s=false:=by unfold dK;rw[yw hs];rfl
  rw[this];refine ah.2 ⟨λ_=>⟨rfl,rfl⟩,λh=>?_⟩
  simp only[l7,eX]at h;omega
 have hs:=J8.1 hs;refine ah.2 ⟨λh=>?_,λ_=>⟨⟨0,⟨by omega,λj hj=>by omega⟩,⟨rfl,trivial⟩,rfl⟩,λk hk=>ah.2 ⟨λh=>?_,λh=>?_⟩⟩⟩
 .simp only[wC,dH]at h;omega
 .simp only[dH]at h;have hN:(k:Int).toNat=k:=by omega
  rw[hN];refine⟨by omega,λu hu=>?_⟩
  have eu:=Jv hu;have eL:sH (Hq s k)=(decide (97<=(u.toNat:Int)) && decide ((u.toNat:Int)<=122) || decide (65<=(u.toNat:Int)) && decide ((u.toNat:Int)<=90)):=by
   rw[eu];unfold sH;rw[FK];simp
  rw[<-eL];refine ah.2 ⟨λh2=>⟨rfl,?_⟩,λh2=>⟨ak.2 (by omega),k+1,⟨by omega,λj hj=>?_⟩,⟨rfl,trivial⟩,rfl,by omega⟩⟩
  .have:dK s=false:=by
    simp only[bY,wC,Di,dH,eX]at h2;obtain⟨a,b⟩:=h2;unfold dK;rcases b with b | b
    .have:k=0:=by omega
     subst this;rw[a];simp
    .have hb:okB (Hq s k)=false:=by
      unfold okB;rw[a,eu];simp;omega
     rw[show((List.range s.size).all λi=>okB (Hq s i))=false from List.all_eq_false.2 ⟨k,by simp;omega,by rw[hb];simp⟩,Bool.and_false]
   rw[this]
  .by_cases gU:j=k
   .subst gU;cases hA:sH (Hq s j) with
    | true=>exact .inl rfl
    | false=>
      rw[hA]at h2;refine .inr ?_;simp at h2;refine⟨by omega,?_⟩
      unfold okB;rw[eu];simp;omega
   .exact hk.2 j (by omega)
 .simp only[eX]at h;have:dK s=true:=by
   unfold dK;have h0:sH (Hq s 0)=true:=(hk.2 0 (by omega)).elim id λq=>absurd rfl q.1
   rw[wX hs,h0];simp only[FM];rw[NH];intro i hi;simp at hi;rcases hk.2 i (by omega) with q | q
   .unfold okB;rw[q];rfl
   .exact q.2
  rw[this];exact⟨rfl,rfl⟩
theorem ZW:aU aT.gd 178 ahx:=
 jG (cx:=aT) (n:=55) (cl:=[]) au trivial Tryz.func178 λd hd=>by
  obtain⟨s,⟨⟩⟩:=d;exact aJ (akm s) (ae3 s) (by kernel_rfl)
abbrev PN:CT:={ ps:=[.sl .str],pre:=λd=>d.1.length<=1000000,res:=λd=>([],.gV [.c (.v (.int .i64 (if(gK d.1).1=0 then 0 else(gK d.1).2))),.c (.v (.int .i64 (gK d.1).1))]) }
abbrev akn(l:List ByteArray):Nat->Option (St->jv):=λk=>match k with
 | 2=>some λ_=>.inv { α:=Nat,slots:=λk=>[(4,.c (.v (.int .i64 k)))],res:=λ_=>[],inv:=λk=>k<=l.length/\∀j < k,dK (l.getD j ⟨#[]⟩)=true/\uf (l.take j) (l.getD j ⟨#[]⟩)=false,meas:=λk=>l.length - k }
 | 7=>some λs=>.inv { α:=Nat,slots:=λk=>[(5,.c (.v (.int .i64 k)))],res:=λ_=>[],inv:=λk=>k<=(Ri s 4).toNat/\∀j < k,¬l.getD j ⟨#[]⟩=l.getD ((Ri s 4).toNat) ⟨#[]⟩,meas:=λk=>(Ri s 4).toNat - k }
 | _=>none
theorem ae4(l:List ByteArray) (aF:PN.pre (l,())):
 let z1:=λ(x:Nat)=>(x<=l.length/\∀(j:Nat),j < x->dK (l.getD j { data:=#[]:ByteArray })=true/\uf (List.take j l) (l.getD j { data:=#[]:ByteArray })=false);let z4:=λ(x:Nat)=>0<=(x:Int)/\(x:Int) < (l.length:Int);let z3:=[cI (if(gK l).fst=0 then(0:Int) else(gK l).snd),cI ((gK l).fst)];let z2:=λ(x_1 x:Nat)=>(x_1<=(x:Int).toNat/\∀(j:Nat),j < x_1->¬l.getD j { data:=#[]:ByteArray }=l.getD (x:Int).toNat { data:=#[]:ByteArray });let z5:=λ(x_1:Nat)=>(x_1:Int)+(1:Int);(∃x,(z1 x)/\(cI 0=cI (x:Int)/\True)/\([]:List dJ)=[])/\∀(x:Nat),(z1 x)->br (decide ((x:Int) < (l.length:Int))) ((z4 x)/\∀(d:ByteArray),l[(x:Int).toNat]?=some d->True/\br (!dK d) (rT z3 [cI (x:Int),cI 6]) ((∃x_1,(z2 x_1 x)/\(cI 0=cI (x_1:Int)/\True)/\([]:List dJ)=[])/\∀(x_1:Nat),(z2 x_1 x)->br (decide ((x_1:Int) < (x:Int))) ((z4 x_1)/\∀(dI:ByteArray),l[(x_1:Int).toNat]?=some dI->(z4 x)/\∀(nU:ByteArray),l[(x:Int).toNat]?=some nU->br (decide (dI=nU)) (rT z3 [cI (x:Int),cI 7]) (iR (z5 x_1)/\∃x',(x'<=(x:Int).toNat/\∀(j:Nat),j < x'->¬l.getD j { data:=#[]:ByteArray }=l.getD (x:Int).toNat { data:=#[]:ByteArray })/\(cI (z5 x_1)=cI (x':Int)/\True)/\([]:List dJ)=[]/\(x:Int).toNat - x' < (x:Int).toNat - x_1)) (iR (z5 x)/\∃x',(z1 x')/\(cI (z5 x)=cI (x':Int)/\True)/\([]:List dJ)=[]/\l.length - x' < l.length - x))) (rT z3 [cI 0,cI 0]):=by
 conv=>zeta
 delta dJ cI rT iR;have hp:l.length<=1000000:=aF;refine⟨⟨0,⟨by omega,λj hj=>by omega⟩,⟨rfl,trivial⟩,rfl⟩,λk hk=>ah.2 ⟨λh=>?_,λh=>?_⟩⟩
 .simp only[dH]at h;have hN:(k:Int).toNat=k:=by omega
  rw[hN];refine⟨by omega,λd hd=>?_⟩
  have hg:l.getD k ⟨#[]⟩=d:=by rw[J5,hd];rfl
  refine⟨trivial,ah.2 ⟨λh2=>⟨rfl,?_⟩,λh2=>⟨⟨0,⟨by omega,λj hj=>by omega⟩,⟨rfl,trivial⟩,rfl⟩,λm hm=>ah.2 ⟨λh3=>?_,λh3=>⟨ak.2 (by omega),k+1,⟨by omega,λj hj=>?_⟩,⟨rfl,trivial⟩,rfl,by omega⟩⟩⟩⟩⟩
  .have h2:dK d=false:=by simpa using h2
   rw[vV (by omega) hk.2 (.inl (by rw[hg];exact h2)),hg,h2];rfl
  .simp only[dH]at h3;have hM:(m:Int).toNat=m:=by omega
   rw[hM];refine⟨by omega,λd1 hd1=>⟨by omega,λd2 hd2=>?_⟩⟩
   rw[hd]at hd2;cases hd2;have hg1:l.getD m ⟨#[]⟩=d1:=by rw[J5,hd1];rfl
   refine ah.2 ⟨λh4=>⟨rfl,?_⟩,λh4=>⟨ak.2 (by omega),m+1,⟨by omega,λj hj=>?_⟩,⟨rfl,trivial⟩,rfl,by omega⟩⟩
   .have h3':uf (l.take k) d=true:=Ku.2 ⟨d1,iy (i:=m) (by rw[ahP (by omega)];exact hd1),h4⟩
    have h2v:dK d=true:=by simpa using h2
    rw[vV (by omega) hk.2 (.inr (by rw[hg];exact h3')),hg,h2v];rfl
   .by_cases hjm:j=m
    .subst hjm;rw[hg1,hg];simpa using h4
    .exact hm.2 j (by omega)
  .simp only[eX]at h3
   by_cases gU:j=k
   .subst gU;rw[hg];refine⟨by simpa using h2,?_⟩
    unfold uf;rw[Ub];intro y hy;obtain⟨i,hi⟩:=yu hy;have hij:i < j:=by
     have:=(A8.1 hi).1;simp at this;omega
    rw[ahP hij]at hi;have:=hm.2 i (by omega)
    rw[hg,J5,hi]at this;simpa using this
   .exact hk.2 j (by omega)
 .simp only[eX]at h;rw[MH λj hj=>hk.2 j (by omega)];exact⟨rfl,rfl⟩
theorem ZX:aU aT.gd 133 PN:=
 jG (cx:=aT) (n:=34) (cl:=[(178,ahx)]) au ⟨ZW,trivial⟩ Tryz.func133 λd hd=>by
  obtain⟨l,⟨⟩⟩:=d;exact aJ (akn l) (ae4 l hd) (by kernel_rfl)
abbrev ZY:CT:={ ps:=[o9],pre:=λd=>d.1.1.length<=1000000/\d.1.2.2.2.1.length<=1000000,res:=λd=>([.row 9 .str (iq d.1.1),.row 9 .str (jo d.1.2.2.2.1)],.gV [.c (.row 0),.c (.row 1)]) }
abbrev ako(vs:List VD) (ms cs:List ByteArray) (fs:List FD) (ts:List SD):Nat->Option (St->jv):=λk=>match k with
 | 3=>some λ_=>.inv { α:=Nat,slots:=λk=>[(6,.c (.v (.int .i64 k))),(4,.c (.row 1))],res:=λk=>[(1,.row 9 .str (iq (vs.take k)))],inv:=λk=>k<=vs.length,meas:=λk=>vs.length - k,nil:=[(4,9,.str)] }
 | 7=>some λ_=>.inv { α:=Nat,slots:=λk=>[(7,.c (.v (.int .i64 k))),(5,.c (.row 2))],res:=λk=>[(2,.row 9 .str (jo (fs.take k)))],inv:=λk=>k<=fs.length,meas:=λk=>fs.length - k,nil:=[(5,9,.str)] }
 | _=>none
theorem ae5(vs:List VD) (ms cs:List ByteArray) (fs:List FD) (ts:List SD) (aF:ZY.pre ((vs,ms,cs,fs,ts,()),())):
 let z3:=[SC.sl ER vs,SC.sl Sh.str ms,SC.sl Sh.str cs,SC.sl BA fs,SC.sl lU ts];let z5:=λ(x:Nat)=>iq (List.take x vs);let z2:=λ(x:Nat)=>[g0 (ay.blk 27 z3),g0 (ay.row 9 Sh.str (z5 x))];let z4:=λ(x:Nat)=>(x:Int)+(1:Int);let z1:=λ(x x_1:Nat)=>[g0 (ay.blk 27 z3),g0 (ay.row 9 Sh.str (z5 x)),g0 (ay.row 9 Sh.str (jo (List.take x_1 fs)))];(∃x,x<=vs.length/\(cI 0=cI (x:Int)/\SV.c (SC.row (Nat.succ 0))=SV.c (SC.row 1)/\True)/\[g0 (ay.blk 27 z3),g0 (ay.row 9 Sh.str [])]=(z2 x))/\∀(x:Nat),x<=vs.length->br (decide ((x:Int) < (vs.length:Int))) ((0<=(x:Int)/\(x:Int) < (vs.length:Int))/\∀(d:ByteArray×(I6.pair Sh.unit).den),vs[(x:Int).toNat]?=some d->nR (List.length (z5 x)+List.length ([d.fst])) 16/\iR (z4 x)/\∃x',x'<=vs.length/\(cI (z4 x)=cI (x':Int)/\SV.c (SC.row 1)=SV.c (SC.row 1)/\True)/\[g0 (ay.blk 27 z3),g0 (ay.row 9 Sh.str (iq (List.take x vs)++[d.fst]))]=(z2 x')/\vs.length - x' < vs.length - x) ((∃x_1,x_1<=fs.length/\(cI 0=cI (x_1:Int)/\SV.c (SC.row (Nat.succ 0).succ)=SV.c (SC.row 2)/\True)/\[g0 (ay.blk 27 z3),g0 (ay.row 9 Sh.str (z5 x)),g0 (ay.row 9 Sh.str [])]=(z1 x x_1))/\∀(x_1:Nat),x_1<=fs.length->br (decide ((x_1:Int) < (fs.length:Int))) ((0<=(x_1:Int)/\(x_1:Int) < (fs.length:Int))/\∀(d:ByteArray×(lJ.sl.pair Sh.unit).den),fs[(x_1:Int).toNat]?=some d->nR (List.length (jo (List.take x_1 fs))+List.length ([d.fst])) 16/\iR (z4 x_1)/\∃x',x'<=fs.length/\(cI (z4 x_1)=cI (x':Int)/\SV.c (SC.row 2)=SV.c (SC.row 2)/\True)/\[g0 (ay.blk 27 z3),g0 (ay.row 9 Sh.str (z5 x)),g0 (ay.row 9 Sh.str (jo (List.take x_1 fs)++[d.fst]))]=(z1 x x')/\fs.length - x' < fs.length - x_1) ([ay.row 9 Sh.str (iq vs),ay.row 9 Sh.str (jo fs)]=[ay.row 9 Sh.str (z5 x),ay.row 9 Sh.str (jo (List.take x_1 fs))]/\aZ.gV [SV.c (SC.row 0),SV.c (SC.row 1)]=aZ.gV [SV.c (SC.row 0),SV.c (SC.row (Nat.succ 0))])):=by
 conv=>zeta
 delta cI g0 I6 iR;obtain⟨hp1,hp2⟩:vs.length<=1000000/\fs.length<=1000000:=aF;refine⟨⟨0,by omega,⟨rfl,rfl,trivial⟩,rfl⟩,λk hk=>ah.2 ⟨λh=>?_,λh=>⟨⟨0,by omega,⟨rfl,rfl,trivial⟩,rfl⟩,λm hm=>ah.2 ⟨λh2=>?_,λh2=>?_⟩⟩⟩⟩
 .simp only[dH]at h;refine⟨by omega,λd hd=>?_⟩
  have hd:vs[k]?=some d:=by simpa using hd
  have e:iq (vs.take (k+1))=iq (vs.take k)++[d.1]:=by
   unfold iq;rw[NQ,hd];simp
  refine⟨?_,ak.2 (by omega),k+1,by omega,⟨rfl,rfl,trivial⟩,?_,by omega⟩
  .have:(iq (vs.take k)).length<=1000000:=by simp[iq];omega
   exact eH.2 (by simp only[wV,J9];omega)
  .rw[e]
 .simp only[dH]at h2;refine⟨by omega,λd hd=>?_⟩
  have hd:fs[m]?=some d:=by simpa using hd
  have e:jo (fs.take (m+1))=jo (fs.take m)++[d.1]:=by
   unfold jo;rw[NQ,hd];simp
  refine⟨?_,ak.2 (by omega),m+1,by omega,⟨rfl,rfl,trivial⟩,?_,by omega⟩
  .have:(jo (fs.take m)).length<=1000000:=by simp[jo];omega
   exact eH.2 (by simp only[wV,J9];omega)
  .rw[e]
 .simp only[eX]at h h2;rw[wB (by omega),wB (by omega)];exact⟨rfl,rfl⟩
theorem Z4:aU aT.gd 132 ZY:=
 jG (cx:=aT) (n:=42) (cl:=[]) au trivial Tryz.func132 λd hd=>by
  obtain⟨⟨vs,ms,cs,fs,ts,⟨⟩⟩,⟨⟩⟩:=d;exact aJ (ako vs ms cs fs ts) (ae5 vs ms cs fs ts hd) (by kernel_rfl)
def zB(vs:List VD) (ms cs:List ByteArray) (fs:List FD) (l:List ID):Int×Int:=if 64 < l.length then(4,-1) else match l.findIdx? (λi=>decide (vW vs ms cs fs i l.length≠0)) with
 | some k=>(vW vs ms cs fs (l.getD k (0,0,0,0,0,0,0,0,())) l.length,k)
 | none=>(0,-1)
theorem zC{l:List ID}{d:ID} (hl:¬64 < l.length) (hd:l[k]?=some d) (hb:vW vs ms cs fs d l.length≠0) (hn:∀j < k,∀i,l[j]?=some i->vW vs ms cs fs i l.length=0):zB vs ms cs fs l=(vW vs ms cs fs d l.length,(k:Int)):=by
 have iQ:k < l.length:=(A8.1 hd).1;have:l.findIdx? (λi=>decide (vW vs ms cs fs i l.length≠0))=some k:=by
  rw[A50];refine⟨iQ,by rw[(A8.1 hd).2];simpa using hb,λj hj=>?_⟩
  have:=hn j hj l[j] (lN (by omega))
  simpa using this
 unfold zB;rw[if_neg hl,this];show(vW vs ms cs fs (l.getD k _) l.length,(k:Int))=_;rw[J5,hd];rfl
theorem ae6{l:List ID} (hl:¬64 < l.length) (hn:∀(j:Nat) i,l[j]?=some i->vW vs ms cs fs i l.length=0):zB vs ms cs fs l=(0,-1):=by
 have:l.findIdx? (λi=>decide (vW vs ms cs fs i l.length≠0))=none:=by
  rw[A73];intro y hy;obtain⟨j,hj⟩:=yu hy;simpa using hn j y hj
 unfold zB;rw[if_neg hl,this]
theorem anY{d:ID} (h:ug d≠0):vW vs ms cs fs d m=ug d:=by unfold vW ciS;rw[if_pos h]
theorem apS{d:ID} (h:ug d=0) (h2:exS vs ms cs fs d.1 d.2.2.2.2.1 d.2.2.2.2.2.1=false):vW vs ms cs fs d m=11:=by
 unfold exS at h2;unfold vW ciS;rw[if_neg (by simpa using h)]
 split
 .rfl
 .rename_i h3;rw[yw h3]at h2;rw[NU,FM,wU]at h2;rw[if_pos (Qn h2)]
theorem apT{d:ID} (h:ug d=0) (h2:exS vs ms cs fs d.1 d.2.2.2.2.1 d.2.2.2.2.2.1=true):vW vs ms cs fs d m=if(d.1=4\/d.1=5)/\(d.2.2.2.2.2.1 < 0\/m < d.2.2.2.2.2.1) then 12 else 0:=by
 unfold exS at h2;rw[bY,Di,Di]at h2;unfold vW ciS;rw[if_neg (by simpa using h),if_neg (Ua h2.1),if_neg (Ua h2.2)]
abbrev ahy:CT:={ ps:=[o9,BA],pre:=λd=>True,res:=λd=>([],.gV [.c (.v (.int .i64 (zB d.1.1 d.1.2.1 d.1.2.2.1 d.1.2.2.2.1 d.2.1.2.1).1)),.c (.v (.int .i64 (zB d.1.1 d.1.2.1 d.1.2.2.1 d.1.2.2.2.1 d.2.1.2.1).2))]) }
abbrev akp(vs:List VD) (ms cs:List ByteArray) (fs:List FD) (ts:List SD) (nm:ByteArray) (l:List ID):Nat->Option (St->jv):=λk=>match k with
 | 4=>some λ_=>.inv { α:=Nat,slots:=λk=>[(6,.c (.v (.int .i64 k)))],res:=λk=>[],inv:=λk=>k<=(l).length/\∀j < k,∀i,l[j]?=some i->vW vs ms cs fs i l.length=0,meas:=λk=>(l).length - k }
 | _=>none
theorem ae7(vs:List VD) (ms cs:List ByteArray) (fs:List FD) (ts:List SD) (nm:ByteArray) (l:List ID):
 let z10:=[cI ((zB vs ms cs fs l).fst),cI ((zB vs ms cs fs l).snd)];let z1:=λ(x:Nat)=>(x<=l.length/\∀(j:Nat),j < x->∀(i:Int×Int×Int×Int×Int×Int×Int×Int×Unit),l[j]?=some i->ciS vs ms cs fs (qy i.fst i.snd.fst i.snd.snd.fst i.snd.snd.snd.fst i.snd.snd.snd.snd.fst i.snd.snd.snd.snd.snd.fst i.snd.snd.snd.snd.snd.snd.fst i.snd.snd.snd.snd.snd.snd.snd.fst) i.fst i.snd.snd.snd.snd.fst i.snd.snd.snd.snd.snd.fst (l.length:Int)=(0:Int));let z5:=[g0 (ay.blk 27 [SC.sl ER vs,SC.sl Sh.str ms,SC.sl Sh.str cs,SC.sl BA fs,SC.sl lU ts]),g0 (ay.blk 77 [SC.v (Value.string nm),SC.sl lJ l])];let z2:=λ(d:ID)=>(d.fst,d.snd.fst,d.snd.snd.fst,d.snd.snd.snd.fst,d.snd.snd.snd.snd.fst,d.snd.snd.snd.snd.snd.fst,d.snd.snd.snd.snd.snd.snd.fst,d.snd.snd.snd.snd.snd.snd.snd.fst,());let z3:=λ(d:ID)=>(d.snd.fst,d.snd.snd.fst,d.snd.snd.snd.fst,d.snd.snd.snd.snd.fst,d.snd.snd.snd.snd.snd.fst,d.snd.snd.snd.snd.snd.snd.fst,d.snd.snd.snd.snd.snd.snd.snd.fst,());let z4:=λ(d:ID)=>(d.snd.snd.fst,d.snd.snd.snd.fst,d.snd.snd.snd.snd.fst,d.snd.snd.snd.snd.snd.fst,d.snd.snd.snd.snd.snd.snd.fst,d.snd.snd.snd.snd.snd.snd.snd.fst,());let z6:=λ(d:ID)=>(d.snd.snd.snd.fst,d.snd.snd.snd.snd.fst,d.snd.snd.snd.snd.snd.fst,d.snd.snd.snd.snd.snd.snd.fst,d.snd.snd.snd.snd.snd.snd.snd.fst,());let z7:=λ(d:ID)=>(d.snd.snd.snd.snd.fst,d.snd.snd.snd.snd.snd.fst,d.snd.snd.snd.snd.snd.snd.fst,d.snd.snd.snd.snd.snd.snd.snd.fst,());let z8:=λ(d:ID)=>(d.snd.snd.snd.snd.snd.fst,d.snd.snd.snd.snd.snd.snd.fst,d.snd.snd.snd.snd.snd.snd.snd.fst,());let z9:=λ(d:ID)=>(d.snd.snd.snd.snd.snd.snd.fst,d.snd.snd.snd.snd.snd.snd.snd.fst,());br (decide (64 < (l.length:Int))) (rT z10 [cI 4,cI (-1)]) ((∃x,(z1 x)/\(cI 0=cI (x:Int)/\True)/\sm z5)/\∀(x:Nat),(z1 x)->br (decide ((x:Int) < (l.length:Int))) ((0<=(x:Int)/\(x:Int) < (l.length:Int))/\∀(d:ID),l[(x:Int).toNat]?=some d->True/\br (!decide (qy (z2 d).fst (z3 d).fst (z4 d).fst (z6 d).fst (z7 d).fst (z8 d).fst (z9 d).fst (d.snd.snd.snd.snd.snd.snd.snd.fst,()).fst=0)) (rT z10 [cI (qy (z2 d).fst (z3 d).fst (z4 d).fst (z6 d).fst (z7 d).fst (z8 d).fst (z9 d).fst (d.snd.snd.snd.snd.snd.snd.snd.fst,()).fst),cI (x:Int)]) (True/\br (!exS vs ms cs fs (z2 d).fst (z7 d).fst (z8 d).fst) (rT z10 [cI 11,cI (x:Int)]) (br ((decide (d.fst=4) || decide (d.fst=5)) && (decide (d.snd.snd.snd.snd.snd.fst < 0) || decide ((l.length:Int) < d.snd.snd.snd.snd.snd.fst))) (rT z10 [cI 12,cI (x:Int)]) (iR ((x:Int)+(1:Int))/\∃x',(z1 x')/\(cI ((x:Int)+(1:Int))=cI (x':Int)/\True)/\sm z5/\l.length - x' < l.length - x)))) (rT z10 [cI 0,cI (-1)])):=by
 conv=>zeta
 delta cI g0 rT sm I6 iR
 by_cases hc:64 < l.length
 .have e:zB vs ms cs fs l=(4,-1):=by unfold zB;rw[if_pos hc]
  rw[e];refine ah.2 ⟨λ_=>⟨rfl,rfl⟩,λh=>?_⟩
  simp only[eX]at h;omega
 refine ah.2 ⟨λh=>?_,λ_=>⟨⟨0,⟨by omega,λj hj=>by omega⟩,⟨rfl,trivial⟩,rfl⟩,λk hk=>ah.2 ⟨λh=>?_,λh=>?_⟩⟩⟩
 .simp only[dH]at h;omega
 .simp only[dH]at h;have hN:(k:Int).toNat=k:=by omega
  rw[hN];refine⟨by omega,λd hd=>⟨trivial,ah.2 ⟨λh2=>⟨rfl,?_⟩,λh2=>⟨trivial,ah.2 ⟨λh3=>⟨rfl,?_⟩,λh3=>ah.2 ⟨λh4=>⟨rfl,?_⟩,λh4=>⟨ak.2 (by omega),k+1,⟨by omega,λj hj i hi=>?_⟩,⟨rfl,trivial⟩,rfl,by omega⟩⟩⟩⟩⟩⟩⟩
  .have h2:ug d≠0:=by simpa using h2
   rw[zC hc hd (by rw[anY h2];exact h2) hk.2,anY h2]
  all_goals have h2:ug d=0:=by simpa using h2
  .have h3:exS vs ms cs fs d.1 d.2.2.2.2.1 d.2.2.2.2.2.1=false:=by simpa using h3
   have e:=apS (m:=(l.length:Int)) h2 h3;rw[zC hc hd (by rw[e];simp) hk.2,e]
  all_goals have h3:exS vs ms cs fs d.1 d.2.2.2.2.1 d.2.2.2.2.2.1=true:=by simpa using h3
  all_goals have e:=apT (m:=(l.length:Int)) h2 h3
  .rw[if_pos (by simpa using h4)]at e
   rw[zC hc hd (by rw[e];simp) hk.2,e]
  .by_cases gU:j=k
   .subst gU;rw[hd]at hi;cases hi;rw[if_neg (λq=>by
     have:((decide (d.1=4) || decide (d.1=5)) && (decide (d.2.2.2.2.2.1 < 0) || decide ((l.length:Int) < d.2.2.2.2.2.1)))=true:=by simpa using q
     rw[h4]at this;cases this)]at e
    exact e
   .exact hk.2 j (by omega) i hi
 .simp only[eX]at h;rw[ae6 hc λj i hj=>hk.2 j (by have:=(A8.1 hj).1;omega) i hj];exact⟨rfl,rfl⟩
theorem Z5:aU aT.gd 135 ahy:=
 jG (cx:=aT) (n:=58) (cl:=[(176,anL),(179,ahw)]) au ⟨Zk,ZV,trivial⟩ Tryz.func135 λd hd=>by
  obtain⟨⟨vs,ms,cs,fs,ts,⟨⟩⟩,⟨nm,l,⟨⟩⟩,⟨⟩⟩:=d;exact aJ (akp vs ms cs fs ts nm l) (ae7 vs ms cs fs ts nm l) (by kernel_rfl)
theorem AQ:∀(i:Nat) (l:List FD) (n:Nat){x:FD},l[i]?=some x->jM n l=jM n (l.take i)++(qj (n+i) x++jM (n+i+1) (l.drop (i+1)))
 | 0,[],n,x,h=>by simp at h
 | 0,y :: l,n,x,h=>by
   simp at h;subst h;simp[jM]
 | i+1,[],n,x,h=>by simp at h
 | i+1,y :: l,n,x,h=>by
   have:=AQ i l (n+1) (x:=x) (by simpa using h)
   simp only[ahT,List.drop_succ_cons,jM];rw[this,zX,show n+1+i=n+(i+1) by omega]
theorem PO{n:Nat}{x:FD} (h:(qj n x)[k]?=some d):∃e,x.2.1[k]?=some e/\d=(((n:Int),(k:Int),()),e,()):=by
 unfold qj at h;rw[Dj,acA]at h;cases he:x.2.1[k]? with
 | none=>rw[he]at h;simp at h
 | some e=>rw[he]at h;simp at h;exact⟨e,rfl,h.symm⟩
theorem zD{l:List ID} (h:(zB vs ms cs fs l).1=0):l.length<=64/\∀(j:Nat) i,l[j]?=some i->vW vs ms cs fs i l.length=0:=by
 by_cases hl:64 < l.length
 .unfold zB at h;rw[if_pos hl]at h;simp at h
 refine⟨by omega,?_⟩
 cases hf:l.findIdx? (λi=>decide (vW vs ms cs fs i l.length≠0)) with
 | none=>
   rw[A73]at hf;intro j i hj;simpa using hf i (iy hj)
 | some k=>
   unfold zB at h;rw[if_neg hl,hf]at h;rw[A50]at hf;obtain⟨hk,h1,_⟩:=hf;have e:l.getD k (0,0,0,0,0,0,0,0,())=l[k]:=by rw[J5,lN hk];rfl
   have h:vW vs ms cs fs (l.getD k (0,0,0,0,0,0,0,0,())) l.length=0:=h;rw[e]at h;simp[h]at h1
theorem ae8{l:List ID} (hl:¬64 < l.length) (h:(zB vs ms cs fs l).1≠0):∃(k:Nat) (e:ID),l[k]?=some e/\vW vs ms cs fs e l.length≠0/\(∀j < k,∀i,l[j]?=some i->vW vs ms cs fs i l.length=0)/\zB vs ms cs fs l=(vW vs ms cs fs e l.length,(k:Int)):=by
 cases hf:l.findIdx? (λi=>decide (vW vs ms cs fs i l.length≠0)) with
 | none=>
   unfold zB at h;rw[if_neg hl,hf]at h;exact absurd rfl h
 | some k=>
   rw[A50]at hf;obtain⟨hk,h1,h2⟩:=hf;have hn:∀j < k,∀i,l[j]?=some i->vW vs ms cs fs i l.length=0:=λj hj i hi=>by
    have:=h2 j hj;rw[(A8.1 hi).2]at this;simpa using this
   have h1:vW vs ms cs fs l[k] l.length≠0:=by simpa using h1
   exact⟨k,l[k],lN hk,h1,hn,zC hl (lN hk) h1 hn⟩
theorem Ht{x:FD} (hx:fs[k]?=some x) (j:Int) (e:ID):Jy vs ms cs fs (((k:Int),j,()),e,())=vW vs ms cs fs e x.2.1.length:=Rz (d:=(((k:Int),j,()),e,())) (by simpa using hx)
theorem PS{i:Nat} (hn:∀j < i,∀f,fs[j]?=some f->f.2.1.length<=64):dL fs = -1\/(i:Int)<=dL fs:=by
 unfold dL;cases hf:fs.findIdx? (λf=>decide (64 < f.2.1.length)) with
 | none=>exact .inl rfl
 | some k=>
   refine .inr ?_;rw[A50]at hf;obtain⟨hk,h1,_⟩:=hf;show(i:Int)<=(k:Int)
   by_cases hki:k < i
   .have:=hn k hki _ (lN hk);simp at h1;omega
   .omega
theorem Z7{i:Nat}{f:FD} (hf:fs[i]?=some f) (h:(zB vs ms cs fs f.2.1).1≠0) (hn:∀j < i,∀g,fs[j]?=some g->(zB vs ms cs fs g.2.1).1=0):
 ET vs ms cs fs=((zB vs ms cs fs f.2.1).1,(i:Int),(zB vs ms cs fs f.2.1).2):=by
 have hb:=PS (fs:=fs) (i:=i) λj hj g hg=>(zD (hn j hj g hg)).1
 have aF:(jM 0 (fs.take i)).find? (λd=>decide (d.1.1=dL fs) || decide (Jy vs ms cs fs d≠0))=none:=by
  rw[A90];intro d hd;obtain⟨k,x,j,e,h1,h2,rfl⟩:=vX _ _ hd;have hk:k < i:=by have:=(A8.1 h1).1;simp at this;omega
  rw[ahP hk]at h1;have hz:=(zD (hn k hk x h1)).2 j e h2;rw[show(0+k:Nat)=k by omega,Ht h1,hz]
  have:¬((k:Int)=dL fs):=by omega
  simp[this]
 have hcut:=AQ i fs 0 hf;have key:∀{k:Nat}{e:ID},f.2.1[k]?=some e->((i:Int)=dL fs\/vW vs ms cs fs e f.2.1.length≠0)->(∀j < k,∀u,f.2.1[j]?=some u->(i:Int)≠dL fs/\vW vs ms cs fs u f.2.1.length=0) ->
  (dN fs).find? (λd=>decide (d.1.1=dL fs) || decide (Jy vs ms cs fs d≠0))=some (((i:Int),(k:Int),()),e,()):=by
  intro k e he hbad hok;unfold dN;rw[hcut,List.find?_append,aF,Option.none_or,List.find?_append,show(0+i:Nat)=i by omega]
  rw[xW (k:=k) (Ho he) (by rw[Ht hf];simpa using hbad) λj hj t ht=>by
   obtain⟨u,hu,rfl⟩:=PO ht;obtain⟨a,b⟩:=hok j hj u hu;rw[Ht hf,b];simp[a]]
  rfl
 by_cases hl:64 < f.2.1.length
 .have e1:dL fs=i:=ES hf hl λj hj g hg=>(zD (hn j hj g hg)).1
  have iQ:0 < f.2.1.length:=by omega
  have:=key (k:=0) (lN iQ) (.inl e1.symm) (λj hj=>by omega)
  unfold ET;rw[this];show(if(i:Int)=dL fs then _ else _)=_
  rw[if_pos e1.symm,e1];unfold zB;rw[if_pos hl]
 .obtain⟨k,e,h1,h2,h3,h4⟩:=ae8 hl h;have hne:(i:Int)≠dL fs:=by
   intro q;have:=AP (fs:=fs);unfold dL at q;cases hfi:fs.findIdx? (λf=>decide (64 < f.2.1.length)) with
   | none=>rw[hfi]at q;simp at q
   | some m=>
     rw[hfi]at q;rw[A50]at hfi;obtain⟨hm,a,_⟩:=hfi;have q:i=m:=by have q:(i:Int)=(m:Int):=q;omega
     subst q;rw[(A8.1 hf).2]at a;simp at a;omega
  have:=key h1 (.inr h2) (λj hj u hu=>⟨hne,h3 j hj u hu⟩)
  unfold ET;rw[this];show(if(i:Int)=dL fs then _ else(Jy vs ms cs fs _,(i:Int),(k:Int)))=_
  rw[if_neg hne,Ht hf,h4]
theorem ae9(hn:∀(j:Nat) g,fs[j]?=some g->(zB vs ms cs fs g.2.1).1=0):ET vs ms cs fs=(0,-1,-1):=by
 have hl:dL fs = -1:=AP λj g hg=>(zD (hn j g hg)).1
 rw[PL λj d hd=>?_,if_neg (by rw[hl];simp)]
 obtain⟨k,x,m,e,h1,h2,rfl⟩:=vX _ _ (iy hd);rw[show(0+k:Nat)=k by omega,Ht h1,hl]
 exact⟨by show¬((k:Int) = -1);omega,(zD (hn k x h1)).2 m e h2⟩
theorem Hu:∀(l:List FD) (n m:Nat),(∀x∈l,x.2.1.length<=m)->(jM n l).length<=l.length * m
 | [],n,m,h=>by simp[jM]
 | x :: l,n,m,h=>by
   have:=Hu l (n+1) m λy hy=>h y (by simp[hy])
   have:=h x (by simp)
   have e:(qj n x).length=x.2.1.length:=by simp[qj]
   simp only[jM,kC,wV,wY];omega
theorem Vu(h:Vt vs ms cs fs ts=true):bnd ((vs,ms,cs,fs,ts,()),()):=by
 unfold Vt at h;rw[bY,dH,NH]at h;obtain⟨⟨h1,h2,h3,h4,h5⟩,h6⟩:=h;have h6:∀x∈fs,x.2.1.length<=100:=λx hx=>by simpa using h6 x hx
 have:=Hu fs 0 100 h6;refine⟨?_,?_,?_,?_,?_,λx hx=>?_,?_⟩
 .show vs.length<=_;omega
 .show ms.length<=_;omega
 .show cs.length<=_;omega
 .show fs.length<=_;omega
 .show ts.length<=_;omega
 .have:=h6 x hx;omega
 .show(jM 0 fs).length<=_;omega
theorem Jz(h:(BQ vs ms cs fs).1≠0):aG vs ms cs fs ts=BQ vs ms cs fs:=by unfold aG;rw[if_pos h]
theorem Z8(z:(BQ vs ms cs fs).1=0) (h:zW vs ms cs fs≠0):aG vs ms cs fs ts=(zW vs ms cs fs,-1,-1):=by unfold aG;rw[if_neg (λq=>q z),if_pos h]
theorem akq(z:(BQ vs ms cs fs).1=0) (z2:zW vs ms cs fs=0) (h:(ET vs ms cs fs).1≠0):aG vs ms cs fs ts=ET vs ms cs fs:=by unfold aG;rw[if_neg (λq=>q z),if_neg (λq=>q z2),if_pos h]
theorem akr(z:(BQ vs ms cs fs).1=0) (z2:zW vs ms cs fs=0) (z3:(ET vs ms cs fs).1=0):aG vs ms cs fs ts=(CV fs ts,-1,-1):=by
 unfold aG;rw[if_neg (λq=>q z),if_neg (λq=>q z2),if_neg (λq=>q z3)]
 split
 .rfl
 .rename_i h;rw[J8.1 h]
abbrev JA:CT:={ ps:=[o9],pre:=λd=>bnd d,res:=λd=>([],.gV [.c (.v (.int .i64 (aG d.1.1 d.1.2.1 d.1.2.2.1 d.1.2.2.2.1 d.1.2.2.2.2.1).1)),.c (.v (.int .i64 (aG d.1.1 d.1.2.1 d.1.2.2.1 d.1.2.2.2.1 d.1.2.2.2.2.1).2.1)),.c (.v (.int .i64 (aG d.1.1 d.1.2.1 d.1.2.2.1 d.1.2.2.2.1 d.1.2.2.2.2.1).2.2))]) }
abbrev anZ(vs:List VD) (ms cs:List ByteArray) (fs:List FD) (ts:List SD):Nat->Option (St->jv):=λk=>match k with
 | 17=>some λ_=>.inv { α:=Nat,slots:=λk=>[(15,.c (.v (.int .i64 k)))],res:=λ_=>[],inv:=λk=>k<=vs.length/\∀j < k,∀v,vs[j]?=some v->bW v.2.1=true,meas:=λk=>vs.length - k }
 | 22=>some λ_=>.inv { α:=Nat,slots:=λk=>[(16,.c (.v (.int .i64 k)))],res:=λ_=>[],inv:=λk=>k<=fs.length/\∀j < k,∀g,fs[j]?=some g->(zB vs ms cs fs g.2.1).1=0,meas:=λk=>fs.length - k }
 | _=>none
theorem aks(vs:List VD) (ms cs:List ByteArray) (fs:List FD) (ts:List SD) (aF:JA.pre ((vs,ms,cs,fs,ts,()),())):
 let z6:=aG vs ms cs fs ts;let z4:=[cI (z6.fst),cI (z6.snd.fst),cI (z6.snd.snd)];let z7:=gK (jo fs);let z3:=λ(x:Nat)=>(x<=vs.length/\∀(j:Nat),j < x->∀(v:ByteArray×Int×Unit),vs[j]?=some v->bW v.snd.fst=true);let z1:=[g0 (ay.blk 27 [SC.sl ER vs,SC.sl Sh.str ms,SC.sl Sh.str cs,SC.sl BA fs,SC.sl lU ts]),g0 (ay.row 9 Sh.str (iq vs)),g0 (ay.row 9 Sh.str (jo fs))];let z5:=λ(x:Nat)=>(x:Int)+(1:Int);let z2:=λ(x:Nat)=>(x<=fs.length/\∀(j:Nat),j < x->∀(g:ByteArray×List ID×Unit),fs[j]?=some g->(zB vs ms cs fs g.snd.fst).fst=0);(vs.length<=1000000/\fs.length<=1000000)/\(iq vs).length<=1000000/\br (!decide ((gK (iq vs)).fst=0)) (rT z4 [cI ((gK (iq vs)).fst),cI (-1),cI (-1)]) (ms.length<=1000000/\br (!decide ((gK ms).fst=0)) (rT z4 [cI ((gK ms).fst),cI (-1),cI (-1)]) (cs.length<=1000000/\br (!decide ((gK cs).fst=0)) (rT z4 [cI ((gK cs).fst),cI (-1),cI (-1)]) ((jo fs).length<=1000000/\br (!decide (z7.fst=0)) (rT z4 [cI (z7.fst),cI (if z7.fst=0 then(0:Int) else z7.snd),cI (-1)]) (br (decide (8 < (vs.length:Int)) || decide (4 < (ms.length:Int)) || decide (4 < (cs.length:Int)) || decide (8 < (fs.length:Int))) (rT z4 [cI 4,cI (-1),cI (-1)]) ((∃x,(z3 x)/\(cI 0=cI (x:Int)/\True)/\sm z1)/\∀(x:Nat),(z3 x)->br (decide ((x:Int) < (vs.length:Int))) ((0<=(x:Int)/\(x:Int) < (vs.length:Int))/\∀(d:ByteArray×(I6.pair Sh.unit).den),vs[(x:Int).toNat]?=some d->True/\br (!bW (d.snd.fst,()).fst) (rT z4 [cI 2,cI (-1),cI (-1)]) (iR (z5 x)/\∃x',(z3 x')/\(cI (z5 x)=cI (x':Int)/\True)/\sm z1/\vs.length - x' < vs.length - x)) ((∃x,(z2 x)/\(cI 0=cI (x:Int)/\True)/\sm z1)/\∀(x:Nat),(z2 x)->br (decide ((x:Int) < (fs.length:Int))) ((0<=(x:Int)/\(x:Int) < (fs.length:Int))/\∀(d:ByteArray×(lJ.sl.pair Sh.unit).den),fs[(x:Int).toNat]?=some d->True/\br (!decide ((zB vs ms cs fs (d.snd.fst,()).fst).fst=0)) (rT z4 [cI ((zB vs ms cs fs (d.snd.fst,()).fst).fst),cI (x:Int),cI ((zB vs ms cs fs (d.snd.fst,()).fst).snd)]) (iR (z5 x)/\∃x',(z2 x')/\(cI (z5 x)=cI (x':Int)/\True)/\sm z1/\fs.length - x' < fs.length - x)) (True/\rT z4 [cI (CV fs ts),cI (-1),cI (-1)]))))))):=by
 conv=>zeta
 delta cI g0 rT sm I6 iR;obtain⟨h1,h2,h3,h4,h5,h6,h7⟩:bnd ((vs,ms,cs,fs,ts,()),()):=aF;have h1:vs.length<=1000000:=h1;have h4:fs.length<=1000000:=h4;refine⟨⟨h1,h4⟩,by simpa[iq]using h1,ah.2 ⟨λa=>⟨rfl,?_⟩,λa=>⟨h2,ah.2 ⟨λb=>⟨rfl,?_⟩,λb=>⟨h3,ah.2 ⟨λc=>⟨rfl,?_⟩,λc=>⟨by simpa[jo]using h4,ah.2 ⟨λd=>⟨rfl,?_⟩,λd=>?_⟩⟩⟩⟩⟩⟩⟩⟩
 all_goals try simp only[Di,wU,dH,eX]at a
 all_goals try simp only[Di,wU,dH,eX]at b
 all_goals try simp only[Di,wU,dH,eX]at c
 all_goals try simp only[Di,wU,dH,eX]at d
 .have e:BQ vs ms cs fs=((gK (iq vs)).1,-1,-1):=by unfold BQ;rw[if_pos a]
  rw[Jz (by rw[e];exact a),e]
 .have e:BQ vs ms cs fs=((gK ms).1,-1,-1):=by unfold BQ;rw[if_neg (λq=>q a),if_pos b]
  rw[Jz (by rw[e];exact b),e]
 .have e:BQ vs ms cs fs=((gK cs).1,-1,-1):=by unfold BQ;rw[if_neg (λq=>q a),if_neg (λq=>q b),if_pos c]
  rw[Jz (by rw[e];exact c),e]
 all_goals have e:BQ vs ms cs fs=((gK (jo fs)).1,(gK (jo fs)).2,-1):=by unfold BQ;rw[if_neg (λq=>q a),if_neg (λq=>q b),if_neg (λq=>q c)]
 .rw[Jz (by rw[e];exact d),e,if_neg d]
 have z:(BQ vs ms cs fs).1=0:=by rw[e];exact d
 clear e a b c d
 by_cases hc:8 < vs.length\/4 < ms.length\/4 < cs.length\/8 < fs.length
 .have e:zW vs ms cs fs=4:=by unfold zW;rw[if_pos hc]
  rw[Z8 z (by rw[e];simp),e]
  refine ah.2 ⟨λ_=>⟨rfl,rfl⟩,λh=>?_⟩
  simp only[l7,eX]at h;omega
 refine ah.2 ⟨λh=>?_,λ_=>⟨⟨0,⟨by omega,λj hj=>by omega⟩,⟨rfl,trivial⟩,rfl⟩,λk hk=>ah.2 ⟨λh=>?_,λh=>⟨⟨0,⟨by omega,λj hj=>by omega⟩,⟨rfl,trivial⟩,rfl⟩,λm hm=>ah.2 ⟨λh8=>?_,λh8=>⟨trivial,rfl,?_⟩⟩⟩⟩⟩⟩
 .simp only[wC,dH]at h;omega
 .simp only[dH]at h;have hN:(k:Int).toNat=k:=by omega
  rw[hN];refine⟨by omega,λd hd=>⟨trivial,ah.2 ⟨λh9=>⟨rfl,?_⟩,λh9=>⟨ak.2 (by omega),k+1,⟨by omega,λj hj v hv=>?_⟩,⟨rfl,trivial⟩,rfl,by omega⟩⟩⟩⟩
  .have h9:bW d.2.1=false:=by simpa using h9
   have e:zW vs ms cs fs=2:=by
    unfold zW;rw[if_neg hc,if_neg];intro hh;rw[NH]at hh;have:=hh d (iy hd);rw[h9]at this;cases this
   rw[Z8 z (by rw[e];simp),e]
  .have h9:bW d.2.1=true:=by simpa using h9
   by_cases gU:j=k
   .subst gU;rw[hd]at hv;cases hv;exact h9
   .exact hk.2 j (by omega) v hv
 all_goals
  simp only[eX]at h;have z2:zW vs ms cs fs=0:=by
   unfold zW;rw[if_neg hc,if_pos];rw[NH];intro v hv;obtain⟨j,hj⟩:=yu hv;exact hk.2 j (by have:=(A8.1 hj).1;omega) v hj
 .simp only[dH]at h8;have hN:(m:Int).toNat=m:=by omega
  rw[hN];refine⟨by omega,λd hd=>⟨trivial,ah.2 ⟨λh9=>⟨rfl,?_⟩,λh9=>⟨ak.2 (by omega),m+1,⟨by omega,λj hj v hv=>?_⟩,⟨rfl,trivial⟩,rfl,by omega⟩⟩⟩⟩
  .have h9:(zB vs ms cs fs d.2.1).1≠0:=by simpa using h9
   have e:=Z7 hd h9 hm.2;rw[akq z z2 (by rw[e];exact h9),e]
  .have h9:(zB vs ms cs fs d.2.1).1=0:=by simpa using h9
   by_cases gU:j=m
   .subst gU;rw[hd]at hv;cases hv;exact h9
   .exact hm.2 j (by omega) v hv
 .simp only[eX]at h8;have e:=ae9 (vs:=vs) (ms:=ms) (cs:=cs) λj g hj=>hm.2 j (by have:=(A8.1 hj).1;omega) g hj
  rw[akr z z2 (by rw[e])]
theorem RF:aU aT.gd 66 JA:=
 jG (cx:=aT) (n:=120) (cl:=[(132,ZY),(133,PN),(134,Py),(135,ahy),(136,ahv)]) au ⟨Z4,ZX,MG,Z5,ZU,trivial⟩ Tryz.func66 λd hd=>by
  obtain⟨⟨vs,ms,cs,fs,ts,⟨⟩⟩,⟨⟩⟩:=d;exact aJ (anZ vs ms cs fs ts) (aks vs ms cs fs ts hd) (by kernel_rfl)
abbrev JB:CT:={ ps:=[o9],pre:=λd=>bnd d,res:=λd=>([],vB (decide ((aG d.1.1 d.1.2.1 d.1.2.2.1 d.1.2.2.2.1 d.1.2.2.2.2.1).1=0))) }
abbrev akt:CT:={ ps:=[.sl (.int .i64),.int .i64],pre:=λd=>d.1.length<=4611686018427387904,res:=λd=>([],vB (dP d.1 d.2.1)) }
abbrev aku(l:List Int) (x:Int):Nat->Option (St->jv):=λk=>match k with
 | 2=>some λ_=>.inv { α:=Nat,slots:=λk=>[(5,.c (.v (.int .i64 k)))],res:=λ_=>[],inv:=λk=>k<=l.length/\∀j,j < k->∀b,l[j]?=some b->¬(b=x),meas:=λk=>l.length - k }
 | _=>none
theorem afa(l:List Int) (x:Int) (aF:akt.pre (l,x,())):
 let z1:=λ(x_1:Nat)=>(x_1<=l.length/\∀(j:Nat),j < x_1->∀(b:Int),l[j]?=some b->¬b=x);(∃x_1,(z1 x_1)/\(cI 0=cI (x_1:Int)/\True)/\([]:List dJ)=[])/\∀(x_1:Nat),(z1 x_1)->br (decide ((x_1:Int) < (l.length:Int))) ((0<=(x_1:Int)/\(x_1:Int) < (l.length:Int))/\∀(d:Int),l[(x_1:Int).toNat]?=some d->br (decide (d=x)) (qB (dP l x) true) (iR ((x_1:Int)+(1:Int))/\∃x',(x'<=l.length/\∀(j:Nat),j < x'->∀(b:Int),l[j]?=some b->¬b=x)/\(cI ((x_1:Int)+(1:Int))=cI (x':Int)/\True)/\([]:List dJ)=[]/\l.length - x' < l.length - x_1)) (qB (dP l x) false):=by
 conv=>zeta
 delta dJ cI qB iR;have hp:l.length<=4611686018427387904:=aF;refine⟨⟨0,⟨by omega,λj hj=>by omega⟩,⟨rfl,trivial⟩,rfl⟩,λk hk=>ah.2 ⟨λh=>?_,λh=>?_⟩⟩
 .simp only[dH]at h;refine⟨by omega,λd hd=>ah.2 ⟨λh2=>?_,λh2=>?_⟩⟩
  .simp only[dH]at h2;have hm:dP l x=true:=Ku.2 ⟨d,iy hd,by simpa using h2⟩
   rw[hm];exact⟨rfl,rfl⟩
  .simp only[eX]at h2;have hd:l[k]?=some d:=by simpa using hd
   refine⟨ak.2 (by omega),k+1,⟨by omega,λj hj b hb=>?_⟩,⟨by simp,trivial⟩,rfl,by omega⟩
   by_cases hjx:j=k
   .subst hjx;rw[hd]at hb;cases hb;exact h2
   .exact hk.2 j (by omega) b hb
 .simp only[eX]at h;have hm:dP l x=false:=by
   unfold dP;rw[Ub];intro b hb;obtain⟨j,hj⟩:=yu hb;have:=(A8.1 hj).1;simpa using hk.2 j (by omega) b hj
  rw[hm];exact⟨rfl,rfl⟩
theorem Z9:aU aT.gd 172 akt:=
 jG (cx:=aT) (n:=18) (cl:=[]) au trivial Tryz.func172 λd hd=>by
  obtain⟨l,x,⟨⟩⟩:=d;exact⟨aku l x,cast (by kernel_rfl) (afa l x hd)⟩
theorem aac{p:Int->Bool}:∀{l:List Int}{k:Nat},k<=l.length->(∀j,j < k->∀b,l[j]?=some b->p b=true)->(∀b,l[k]?=some b->p b=false)->(l.takeWhile p).length=k
 | [],k,h,_,_=>by simp at h;simp[h]
 | a :: l,0,_,_,h2=>by simp[TY,h2 a rfl]
 | a :: l,k+1,h,h1,h2=>by
   have h0:=h1 0 (by omega) a rfl
   simp only[TY,h0,if_true,wV];rw[aac (by simpa using h) (λj hj b hb=>h1 (j+1) (by omega) b hb) (λb hb=>h2 b hb)]
abbrev akv:CT:={ ps:=[.sl (.int .i64),.int .i64],pre:=λd=>d.1.length<=1000000,res:=λd=>([.row 3 (.int .i64) (d.1.take (zn d.1 d.2.1)++[d.2.1]++d.1.drop (zn d.1 d.2.1))],.one (.c (.row 0))) }
abbrev akw(l:List Int) (x:Int):Nat->Option (St->jv):=λk=>match k with
 | 2=>some λ_=>.inv { α:=Nat,slots:=λk=>[(5,.c (.v (.int .i64 k)))],res:=λ_=>[],inv:=λk=>k<=l.length/\∀j,j < k->∀b,l[j]?=some b->b < x,meas:=λk=>l.length - k }
 | _=>none
theorem afb(l:List Int) (x:Int) (aF:akv.pre (l,x,())):
 let z1:=λ(x_1:Nat)=>(x_1<=l.length/\∀(j:Nat),j < x_1->∀(b:Int),l[j]?=some b->b < x);let z3:=λ(x_1:Nat)=>(x_1:Int) < (l.length:Int);let z4:=λ(x_1:Nat)=>List.take (x_1:Int).toNat l;let z2:=List.take (l.length:Int).toNat l;(∃x_1,(z1 x_1)/\(cI 0=cI (x_1:Int)/\True)/\([]:List dJ)=[])/\∀(x_1:Nat),(z1 x_1)->(decide (z3 x_1)=true->0<=(x_1:Int)/\(x_1:Int) < (l.length:Int))/\∀(d:Int),(decide (z3 x_1)=true->l[(x_1:Int).toNat]?=some d)->br (decide (z3 x_1) && decide (d < x)) (iR ((x_1:Int)+(1:Int))/\∃x',(x'<=l.length/\∀(j:Nat),j < x'->∀(b:Int),l[j]?=some b->b < x)/\(cI ((x_1:Int)+(1:Int))=cI (x':Int)/\True)/\([]:List dJ)=[]/\l.length - x' < l.length - x_1) (((0:Int)<=(0:Int)/\0<=(x_1:Int)/\(x_1:Int)<=(l.length:Int))/\nR (0+List.length (List.drop 0 (z4 x_1))) 8/\nR (List.length (([]++List.drop 0 (z4 x_1)))+List.length ([x])) 8/\(0<=(x_1:Int)/\(x_1:Int)<=(l.length:Int)/\(l.length:Int)<=(l.length:Int))/\nR (List.length ((([]++List.drop 0 (z4 x_1))++[x]))+List.length (List.drop (x_1:Int).toNat z2)) 8/\[ay.row 3 I6 (List.take (zn l x) l++[x]++List.drop (zn l x) l)]=[ay.row 3 I6 ((([]++List.drop 0 (z4 x_1))++[x])++List.drop (x_1:Int).toNat z2)]/\aZ.one (SV.c (SC.row 0))=aZ.one (SV.c (SC.row 0))):=by
 conv=>zeta
 delta dJ cI I6 iR;have hp:l.length<=1000000:=aF;refine⟨⟨0,⟨by omega,λj hj=>by omega⟩,⟨rfl,trivial⟩,rfl⟩,λk hk=>⟨λh=>by simp only[dH]at h;omega,λd hd=>ah.2 ⟨λh=>?_,λh=>?_⟩⟩⟩
 .simp only[bY,dH]at h;have hd:l[k]?=some d:=by simpa using hd (by simpa using h.1)
  refine⟨ak.2 (by omega),k+1,⟨by omega,λj hj b hb=>?_⟩,⟨by simp,trivial⟩,rfl,by omega⟩
  by_cases hjx:j=k
  .subst hjx;rw[hd]at hb;cases hb;exact h.2
  .exact hk.2 j (by omega) b hb
 .have hpos:zn l x=k:=by
   refine aac hk.1 (λj hj b hb=>by simpa using hk.2 j hj b hb) λb hb=>?_
   have hkl:=(A8.1 hb).1;have hd:l[k]?=some d:=by simpa using hd (by simpa using hkl)
   rw[hd]at hb;cases hb;simp only[A70,eX]at h;rcases h with h | h
   .omega
   .simpa using h
  have e1:((k:Int)).toNat=k:=by simp
  have e2:((l.length:Int)).toNat=l.length:=by simp
  rw[hpos];simp only[e1,e2,NR,V5,TS,eH,kC,kX,yj,wV,J9];refine⟨by omega,by omega,by omega,by omega,by omega,?_⟩
  simp
theorem aad:aU aT.gd 207 akv:=
 jG (cx:=aT) (n:=36) (cl:=[]) au trivial Tryz.func207 λd hd=>by
  obtain⟨l,x,⟨⟩⟩:=d;exact⟨akw l x,cast (by kernel_rfl) (afb l x hd)⟩
abbrev akx:CT:={ ps:=[.sl (.int .i64)],pre:=λd=>d.1.length<=1000000,res:=λd=>([.row 3 (.int .i64) (bD d.1)],.one (.c (.row 0))) }
abbrev aky(l:List Int):Nat->Option (St->jv):=λk=>match k with
 | 3=>some λ_=>.inv { α:=Nat,slots:=λk=>[(4,.c (.v (.int .i64 k))),(3,.c (.row 0))],res:=λk=>[(0,.row 3 (.int .i64) (bD (l.take k)))],inv:=λk=>k<=l.length,meas:=λk=>l.length - k,ren:=[(0,1)],drop:=[5] }
 | _=>none
theorem afc(l:List Int) (aF:akx.pre (l,())):
 let z4:=λ(x:Nat)=>bD (List.take x l);let z3:=λ(x:Nat)=>[g0 (ay.row 3 I6 (z4 x))];let z2:=λ(x:Nat)=>0<=(x:Int)/\(x:Int) < (l.length:Int);let z1:=λ(x x':Nat)=>cI ((x:Int)+(1:Int))=cI (x':Int)/\SV.c (SC.row 0)=SV.c (SC.row 0)/\True;(∃x,x<=l.length/\(cI 0=cI (x:Int)/\SV.c (SC.row 0)=SV.c (SC.row 0)/\True)/\[g0 (ay.row 3 I6 [])]=(z3 x))/\∀(x:Nat),x<=l.length->br (decide ((x:Int) < (l.length:Int))) ((z2 x)/\∀(d:Int),l[(x:Int).toNat]?=some d->(z4 x).length<=4611686018427387904/\br (!dP (z4 x) d) ((z2 x)/\∀(d:Int),l[(x:Int).toNat]?=some d->(z4 x).length<=1000000/\iR ((x:Int)+(1:Int))/\∃x',x'<=l.length/\(z1 x x')/\[g0 (ay.row 3 I6 (List.take (zn (z4 x) d) (z4 x)++[d]++List.drop (zn (z4 x) d) (z4 x)))]=(z3 x')/\l.length - x' < l.length - x) (iR ((x:Int)+(1:Int))/\∃x',x'<=l.length/\(z1 x x')/\(z3 x)=(z3 x')/\l.length - x' < l.length - x)) ([ay.row 3 I6 (bD l)]=[ay.row 3 I6 (z4 x)]/\aZ.one (SV.c (SC.row 0))=aZ.one (SV.c (SC.row 0))):=by
 conv=>zeta
 delta cI g0 I6 iR;have hp:l.length<=1000000:=aF;have hlen:∀k,(bD (l.take k)).length<=l.length:=λk=>pq (Hf _) (by simp;omega)
 refine⟨⟨0,by omega,⟨rfl,rfl,trivial⟩,rfl⟩,λk hk=>ah.2 ⟨λh=>?_,λh=>?_⟩⟩
 .simp only[dH]at h;refine⟨by omega,λd hd=>⟨by have:=hlen k;omega,ah.2 ⟨λh2=>⟨by omega,λe he=>⟨by have:=hlen k;omega,ak.2 (by omega),k+1,by omega,⟨by simp,rfl,trivial⟩,?_,by omega⟩⟩,
   λh2=>⟨ak.2 (by omega),k+1,by omega,⟨by simp,rfl,trivial⟩,?_,by omega⟩⟩⟩⟩
  .have hd:l[k]?=some d:=by simpa using hd
   have he:l[k]?=some e:=by simpa using he
   rw[hd]at he;cases he;have h2:dP (bD (l.take k)) d=false:=by simpa using h2
   rw[EN hd,h2];rfl
  .have hd:l[k]?=some d:=by simpa using hd
   have h2:dP (bD (l.take k)) d=true:=by simpa using h2
   rw[EN hd,h2];rfl
 .simp only[eX]at h;rw[wB (by omega)];exact⟨rfl,rfl⟩
theorem aae:aU aT.gd 181 akx:=
 jG (cx:=aT) (n:=26) (cl:=[(172,akt),(207,akv)]) au ⟨Z9,aad,trivial⟩ Tryz.func181 λd hd=>by
  obtain⟨l,⟨⟩⟩:=d;exact⟨aky l,cast (by kernel_rfl) (afc l hd)⟩
def aH(n:Int):Int:=if n % 4294967296<=2147483647 then n % 4294967296 else n % 4294967296 - 4294967296
theorem og(n:Int):-2147483648<=aH n/\aH n<=2147483647:=by
 unfold aH;split<;>omega
theorem EU{n:Int}:aH n=n↔-2147483648<=n/\n<=2147483647:=by
 unfold aH;constructor
 .intro h;split at h<;>omega
 .intro h;split<;>omega
theorem AU{n:Int} (h:n % 4294967296=m % 4294967296):aH n=aH m:=by
 unfold aH;rw[h]
def aaf(n:Int):Int:=
 if(if n.tmod 4294967296 < 0 then n.tmod 4294967296+4294967296 else n.tmod 4294967296) > 2147483647 then
  (if n.tmod 4294967296 < 0 then n.tmod 4294967296+4294967296 else n.tmod 4294967296) - 4294967296
 else(if n.tmod 4294967296 < 0 then n.tmod 4294967296+4294967296 else n.tmod 4294967296)
theorem EW(n:Int) (hm:0 < m):n.tmod m=if 0<=n\/n % m=0 then n % m else n % m - m:=by
 rw[Int.tmod_eq_emod];have h1:(m ∣ n)↔n % m=0:=Int.dvd_iff_emod_eq_zero;simp only[h1];split
 .simp
 .have:(m.natAbs:Int)=m:=by omega
  simp[this]
theorem aag(n:Int):aaf n=aH n:=by
 unfold aaf aH;rw[EW n (by omega)]
 split<;>split<;>split<;>first | omega | (split<;>omega)
def dS(X Y:Nat) (r:List Int):Nat->Int
 | 0=>0
 | i+1=>dS X Y r i+2 ^ i * r.getD (2 * (X / 2 ^ i % 2)+Y / 2 ^ i % 2) 0
theorem Hw{X Y:Nat}{r:List Int} (h:∀v∈r,v=0\/v=1):∀i,0<=dS X Y r i/\dS X Y r i < 2 ^ i
 | 0=>by simp[dS]
 | i+1=>by
   have ih:=Hw (X:=X) (Y:=Y) h i;have hv:r.getD (2 * (X / 2 ^ i % 2)+Y / 2 ^ i % 2) 0=0\/r.getD (2 * (X / 2 ^ i % 2)+Y / 2 ^ i % 2) 0=1:=by
    rw[J5];cases hq:r[2 * (X / 2 ^ i % 2)+Y / 2 ^ i % 2]? with
    | none=>exact .inl rfl
    | some v=>exact h v (iy hq)
   unfold dS;rw[Int.pow_succ];rcases hv with e | e<;>rw[e]<;>omega
theorem JC(n i:Nat):n % 2 ^ (i+1)=n % 2 ^ i+2 ^ i * (n / 2 ^ i % 2):=by
 rw[Nat.pow_succ,Nat.mod_mul]
theorem JD(n i:Nat):n / 2 ^ i % 2=(n.testBit i).toNat:=by
 rw[Nat.testBit_eq_decide_div_mod_eq];rcases Nat.mod_two_eq_zero_or_one (n / 2 ^ i) with h | h<;>simp[h]
theorem CX{X Y Z:Nat}{r:List Int} (h:∀i,r.getD (2 * (X.testBit i).toNat+(Y.testBit i).toNat) 0=((Z.testBit i).toNat:Int)):∀i,dS X Y r i=((Z % 2 ^ i:Nat):Int)
 | 0=>by simp[dS,Nat.mod_one]
 | i+1=>by
   unfold dS;rw[CX h i,JC,JD,JD,h,JD]
   push_cast
   rfl
theorem oh(x:Int):((BitVec.ofInt 64 x).toNat % 4294967296:Nat)=(x % 4294967296).toNat:=by
 rw[BitVec.toNat_ofInt];omega
theorem sJ(n:Int):IntKind.i64.wrap n % 4294967296=n % 4294967296:=by
 simp only[IntKind.wrap,IntKind.bits,IntKind.signed];simp;split<;>omega
theorem sK(n:Nat):((n % 2 ^ 32 % 2 ^ 32:Nat):Int) % 4294967296=(n:Int) % 4294967296:=by omega
theorem aah{x:Int}:aH (dS (x % 4294967296).toNat (y % 4294967296).toNat [0,0,0,1] 32)=aH (kQ .and .i64 x y):=by
 apply AU;rw[CX (Z:=(x % 4294967296).toNat &&& (y % 4294967296).toNat) λi=>by
  rw[Nat.testBit_and];cases ((x % 4294967296).toNat.testBit i)<;>cases ((y % 4294967296).toNat.testBit i)<;>rfl]
 simp only[kQ];rw[sJ,BitVec.toNat_and,<-oh,<-oh];rw[show(4294967296:Nat)=2 ^ 32 from rfl,<-Nat.and_mod_two_pow]
 exact sK _
theorem afd{x:Int}:aH (dS (x % 4294967296).toNat (y % 4294967296).toNat [0,1,1,1] 32)=aH (kQ .or .i64 x y):=by
 apply AU;rw[CX (Z:=(x % 4294967296).toNat ||| (y % 4294967296).toNat) λi=>by
  rw[Nat.testBit_or];cases ((x % 4294967296).toNat.testBit i)<;>cases ((y % 4294967296).toNat.testBit i)<;>rfl]
 simp only[kQ];rw[sJ,BitVec.toNat_or,<-oh,<-oh];rw[show(4294967296:Nat)=2 ^ 32 from rfl,<-Nat.or_mod_two_pow]
 exact sK _
theorem aai{x:Int}:aH (dS (x % 4294967296).toNat (y % 4294967296).toNat [0,1,1,0] 32)=aH (kQ .xor .i64 x y):=by
 apply AU;rw[CX (Z:=(x % 4294967296).toNat ^^^ (y % 4294967296).toNat) λi=>by
  rw[Nat.testBit_xor];cases ((x % 4294967296).toNat.testBit i)<;>cases ((y % 4294967296).toNat.testBit i)<;>rfl]
 simp only[kQ];rw[sJ,BitVec.toNat_xor,<-oh,<-oh];rw[show(4294967296:Nat)=2 ^ 32 from rfl,<-Nat.xor_mod_two_pow]
 exact sK _
def dZ(f a b:Int):Int×Int:=
 if f=1 then(aH (aH a+aH b),0) else if f=2 then(aH (aH a - aH b),0) else if f=3 then(aH (aH a * aH b),0)
 else if f=4 then(aH (kQ .and .i64 (aH a) (aH b)),0) else if f=5 then(aH (kQ .or .i64 (aH a) (aH b)),0) else if f=6 then(aH (kQ .xor .i64 (aH a) (aH b)),0)
 else if f=7 then(if aH a=aH b then 1 else 0,0) else if f=8 then(if aH a=aH b then 0 else 1,0) else if f=9 then(if aH a < aH b then 1 else 0,0)
 else if f=10 then(if aH a<=aH b then 1 else 0,0) else(0,8)
theorem PU(f a b:Int):-2147483648<=(dZ f a b).1/\(dZ f a b).1<=2147483647:=by
 unfold dZ
 repeat' split
 all_goals first | exact og _ | (constructor<;>omega)
def dU:Nat->Int->Int->Int
 | 0,_,_=>-1
 | n+1,d,id=>if id < 8 then d else if 7<=id.tmod 8 then -1 else dU n (d+1) (id.tdiv 8 - 1)
def aV(id:Int):Int:=if id < 0 then -1 else dU 5 0 id
theorem xX:∀(n:Nat) (d id:Int),0<=d->dU n d id = -1\/(d<=dU n d id/\dU n d id < d+n)
 | 0,d,id,h=>.inl rfl
 | n+1,d,id,h=>by
   unfold dU;split
   .right;omega
   .split
    .exact .inl rfl
    .rcases xX n (d+1) (id.tdiv 8 - 1) (by omega) with e | e
     .exact .inl e
     .right;omega
theorem EX(id:Int):-1<=aV id/\aV id<=4:=by
 unfold aV;split
 .omega
 .rcases xX 5 0 id (by omega) with e | e<;>omega
theorem zF:∀(n:Nat) (d id r:Int),dU (n+1) d id=r->0<=d->0<=r->r < d+n->dU n (d+1) id=r+1
 | 0,d,id,r,h,h0,h1,h2=>by
   have h:dU 1 d id=r:=h;rcases xX 1 d id h0 with e | e<;>omega
 | n+1,d,id,r,h,h0,h1,h2=>by
   unfold dU at h ⊢
   split at h
   .rename_i q;rw[if_pos q];omega
   .rename_i q;rw[if_neg q];split at h
    .omega
    .rename_i q2;rw[if_neg q2];exact zF n (d+1) _ r h (by omega) h1 (by omega)
def PV:Nat->Int
 | 0=>0
 | n+1=>8 * (PV n+1)
theorem Hy:∀(n:Nat) (d id:Int),0<=d->0<=id->0<=dU n d id->id < PV n
 | 0,d,id,h0,h1,h2=>by simp[dU]at h2
 | n+1,d,id,h0,h1,h2=>by
   have hp:0<=PV n:=by
    clear h2
    induction n with
    | zero=>simp[PV]
    | succ n ih=>unfold PV;omega
   unfold dU at h2;unfold PV;split at h2
   .omega
   .split at h2
    .omega
    .have e:id.tdiv 8=id / 8:=A71 h1;rw[e]at h2;have:=Hy n (d+1) (id / 8 - 1) (by omega) (by omega) h2
     omega
theorem lZ(h:0<=aV id):0<=id/\id < 37448:=by
 unfold aV at h;split at h
 .omega
 .have:=Hy 5 0 id (by omega) (by omega) h
  simp only[PV]at this;omega
def cO(id ch:Int):Int×Bool:=if aV id < 0\/aV id=4\/ch < 0\/7<=ch then(0,false) else(8 * (id+1)+ch,true)
def RG(id:Int):Int×Bool:=if aV id < 1 then(0,false) else(id.tdiv 8 - 1,true)
def iE(id:Int):Int:=if aV id < 0 then 0 else aV id
theorem BF(h0:0<=aV id) (h4:aV id≠4) (c0:0<=ch) (c7:ch < 7):aV (8 * (id+1)+ch)=aV id+1/\(8 * (id+1)+ch).tdiv 8 - 1=id:=by
 obtain⟨i0,i1⟩:=lZ h0;have e1:(8 * (id+1)+ch).tdiv 8=id+1:=by rw[A71 (by omega)];omega
 have e2:(8 * (id+1)+ch).tmod 8=ch:=by rw[ahN (by omega)];omega
 have hr:=EX id;refine⟨?_,by omega⟩
 have hd:aV (8 * (id+1)+ch)=dU 4 1 id:=by
  unfold aV;rw[if_neg (by omega)]
  rw[dU,if_neg (by omega),e2,if_neg (by omega),e1,show id+1 - 1=id by omega]
  rfl
 rw[hd];have:aV id=dU 5 0 id:=by unfold aV;rw[if_neg (by omega)]
 exact zF 4 0 id _ this.symm (by omega) h0 (by omega)
abbrev dX:Sh:=.pair (.int .i64) (.pair (.int .i64) (.pair (.int .i64) (.pair (.arr 8 (.int .i64)) (.pair (.int .i64) (.pair (.int .i64) (.pair (.int .i64) (.pair (.int .i64) (.pair (.int .i64) (.pair (.sl (.int .i64)) .unit)))))))))
abbrev TD:=Int×Int×Int×List Int×Int×Int×Int×Int×Int×List Int×Unit
variable {t:TD}
def jw(op:Int):Bool:=decide (8<=op/\op<=22)
def mP(i:ID):Int×Bool:=if ug i≠0\/use i.1 0=false then(0,false) else(i.2.1,true)
def codeF(fs:List FD) (fn:Int):List ID:=(fs.getD fn.toNat (⟨#[]⟩,[],())).2.1
def mZ(fs:List FD) (fn pc:Int):Option ID:=(codeF fs fn)[pc.toNat]?
def atR(fs:List FD) (fn pc:Int):ID×Bool:=match mZ fs fn pc with
 | some i=>(i,true)
 | none=>((0,0,0,0,0,0,0,0,()),false)
def jy(id ch ph:Int) (hd:List Int) (i:ID):Int:=
 if ph≠0 then 0 else if i.1=18 then(if dP hd i.2.2.2.2.2.1=true then 0 else 27) else if i.1=16 then(if dP hd i.2.2.2.2.1=true then 0 else 27)
 else if i.1=21 then(if(cO id ch).2=true then 0 else 28) else 0
def dB(ms:List ByteArray) (fs:List FD) (bound:Int):TD->Prop
 | (id,fn,pc,rg,st,ch,ph,su,fa,hd,_)=>0<=aV id/\(0<=fn/\fn < fs.length)/\(0<=pc/\pc<=(codeF fs fn).length)/\(∀k < 8,∀r,rg[k]?=some r->bW r=true) /\
   (0<=st/\st<=bound)/\(0<=ch/\ch<=7/\(aV id=4->ch=0))/\SS hd/\(∀m∈hd,0<=m/\m < ms.length) /\
   (ph=0\/((ph=1\/ph=2)/\∃i,mZ fs fn pc=some i/\i.1=18/\dP hd i.2.2.2.2.2.1=false))
open Classical in
def iO(ms:List ByteArray) (fs:List FD) (bound:Int) (t:TD):Bool:=decide (dB ms fs bound t)
def fU:TD->ID->TD×Bool
 | (id,fn,pc,rg,st,ch,ph,su,fa,hd,_),(op,a,b,c,obj,n,f,_,_)=>
   if op=1 then((id,fn,pc+1,rg.set a.toNat n,st,ch,ph,su,fa,hd,()),true)
   else if op=2 then((id,fn,pc+1,rg.set a.toNat (rg.getD b.toNat 0),st,ch,ph,su,fa,hd,()),true)
   else if op=3 then((id,fn,pc+1,if(dZ f (rg.getD b.toNat 0) (rg.getD c.toNat 0)).2=0 then rg.set a.toNat (dZ f (rg.getD b.toNat 0) (rg.getD c.toNat 0)).1 else rg,st,ch,ph,su,fa,hd,()),true)
   else if op=4 then((id,fn,n,rg,st,ch,ph,su,fa,hd,()),true)
   else if op=5 then((id,fn,if rg.getD b.toNat 0=0 then pc+1 else n,rg,st,ch,ph,su,fa,hd,()),true)
   else if op=6/\rg.getD b.toNat 0=0 then((id,fn,pc,rg,st,ch,ph,3,26,hd,()),false)
   else if op=7 then((id,fn,pc,rg,st,ch,ph,2,0,hd,()),false)
   else((id,fn,pc+1,rg,st,ch,ph,su,fa,hd,()),true)
def JE:TD->Int->Int->TD
 | (id,fn,pc,rg,st,ch,ph,_,_,hd,_),s,f=>(id,fn,pc,rg,st,ch,ph,s,f,hd,())
def topS(fs:List FD) (bound:Int) (t:TD) (rest:ID->TD):TD:=match t with
 | (id,fn,pc,rg,st,ch,ph,su,fa,hd,_)=>match mZ fs fn pc with
   | none=>(id,fn,pc,rg,st,ch,ph,2,0,hd,())
   | some i=>if jw i.1=true then
    (if jy id ch ph hd i≠0 then(id,fn,pc,rg,st,ch,ph,3,jy id ch ph hd i,hd,()) else if st=bound then(id,fn,pc,rg,st,ch,ph,4,0,hd,()) else(id,fn,pc,rg,st,ch,ph,su,fa,hd,()))
     else rest i
def fZ(fs:List FD) (bound:Int):Nat->TD->TD
 | 0,t=>topS fs bound t λ_=>JE t 3 29
 | k+1,t=>topS fs bound t λi=>if(fU t i).2=true then fZ fs bound k (fU t i).1 else(fU t i).1
def uh(ms:List ByteArray) (fs:List FD) (bound:Int):TD->Prop
 | (id,fn,pc,rg,st,ch,ph,su,fa,hd,u)=>dB ms fs bound (id,fn,pc,rg,st,ch,ph,su,fa,hd,u) /\
   (((su=1/\st < bound\/su=4/\1<=st)/\fa=0/\∃i,mZ fs fn pc=some i/\jw i.1=true/\jy id ch ph hd i=0) \/
    (su=2/\fa=0/\ph=0/\∀i,mZ fs fn pc=some i->i.1=7) \/
    (su=3/\ph=0/\∃i,mZ fs fn pc=some i/\(fa=26/\i.1=6/\rg.getD i.2.2.1.toNat 0=0\/fa=29/\jw i.1=false\/fa≠26/\fa≠29/\fa≠0/\jy id ch ph hd i=fa)))
open Classical in
def mQ(ms:List ByteArray) (fs:List FD) (bound:Int) (t:TD):Bool:=decide (uh ms fs bound t)
theorem kV(h:ug i=0):(0<=i.2.1/\i.2.1 < 8)/\(0<=i.2.2.1/\i.2.2.1 < 8)/\(0<=i.2.2.2.1/\i.2.2.2.1 < 8)/\(1<=i.1/\i.1<=22):=by
 unfold ug qy at h;split at h
 .simp at h
 split at h
 .simp at h
 split at h
 .simp at h
 .rename_i h1 h2 h3;simp only[Vl,sF]at h1 h3;simp only[wC,Di,A70,eX]at h1 h3;refine⟨?_,?_,?_,?_⟩<;>omega
theorem akz(h:ug i=0) (h1:i.1=1):bW i.2.2.2.2.2.1=true:=by
 unfold ug qy at h
 repeat' split at h
 all_goals first | (simp at h;done) | skip
 rename_i q1 q2 q3 q4 q5 q6;simp[h1]at q6;unfold bW;simp;omega
theorem afe{x:FD} (hx:fs[k]?=some x){j:Nat} (hj:x.2.1[j]?=some i):(((k:Int),(j:Int),()),i,())∈dN fs:=by
 unfold dN;rw[AQ k fs 0 hx];refine ahS _ (List.mem_append_left _ ?_);unfold qj;rw[List.mem_map];refine⟨(i,j),?_,by simp⟩
 rw[VZ];exact⟨j,by rw[acA,hj];simp⟩
theorem oq{fn:Int} (h:0<=fn/\fn < fs.length):∃x,fs[fn.toNat]?=some x/\codeF fs fn=x.2.1:=by
 have hl:fn.toNat < fs.length:=by omega
 refine⟨fs[fn.toNat],lN hl,?_⟩;unfold codeF;rw[J5,lN hl];rfl
theorem BG(h:(aG vs ms cs fs ts).1=0){fn:Int} (hf:0<=fn/\fn < fs.length) (hi:mZ fs fn pc=some i):vW vs ms cs fs i (codeF fs fn).length=0:=by
 obtain⟨c1,c2,c3⟩:=oU h;obtain⟨x,hx,ex⟩:=oq hf;unfold mZ at hi;rw[ex]at hi ⊢;have:=akj c2 _ (afe hx hi)
 rwa [Ht hx]at this
theorem ql(h:vW vs ms cs fs i m=0):ug i=0/\(0<=oQ vs ms cs fs i.1->0<=i.2.2.2.2.1/\i.2.2.2.2.1 < oQ vs ms cs fs i.1)/\(i.1=18->0<=i.2.2.2.2.2.1/\i.2.2.2.2.2.1 < ms.length)/\(i.1=4\/i.1=5->0<=i.2.2.2.2.2.1/\i.2.2.2.2.2.1<=m):=by
 unfold vW ciS at h;split at h
 .rename_i q;exact absurd h q
 split at h
 .cases h
 split at h
 .cases h
 split at h
 .cases h
 .rename_i q1 q2 q3 q4;refine⟨J8.1 q1,λh0=>?_,λh0=>?_,λh0=>?_⟩
  .omega
  .omega
  .omega
theorem zG{a:Nat}{v:Int} (h:∀k < 8,∀r,rg[k]?=some r->bW r=true) (hv:bW v=true):∀k < 8,∀r,(rg.set a v)[k]?=some r->bW r=true:=by
 intro k hk r hr;rw[List.getElem?_set]at hr;split at hr
 .split at hr
  .cases hr;exact hv
  .cases hr
 .exact h k hk r hr
theorem aaj{b:Int} (h:∀k < 8,∀r,rg[k]?=some r->bW r=true) (hb:0<=b/\b < 8):bW (rg.getD b.toNat 0)=true:=by
 rw[J5];cases hq:rg[b.toNat]? with
 | none=>rfl
 | some r=>exact h _ (by omega) r hq
theorem aff(f a b:Int):bW (dZ f a b).1=true:=by
 have:=PU f a b;unfold bW;simpa using this
theorem RH{n:Nat} (h:0<=pc) (h2:pc.toNat < n):0<=pc+1/\pc+1<=(n:Int):=by omega
theorem ahz{fn:Int} (h:mZ fs fn pc=some i):pc.toNat < (codeF fs fn).length:=(A8.1 h).1
theorem aak{fn st ph su fa:Int}{hd:List Int}{u:Unit} (h:dB ms fs bound (id,fn,pc,rg,st,ch,ph,su,fa,hd,u)) (hi:mZ fs fn pc=some i) (hv:jw i.1=false):ph=0:=by
 rcases h.2.2.2.2.2.2.2.2 with e | ⟨_,j,hj,h18,_⟩
 .exact e
 .rw[hi]at hj;cases hj;rw[h18]at hv;cases hv
theorem afg{fn st ph su fa:Int}{hd:List Int}{u:Unit} (h:dB ms fs bound (id,fn,pc,rg,st,ch,ph,su,fa,hd,u)) (hi:mZ fs fn pc=none):ph=0:=by
 rcases h.2.2.2.2.2.2.2.2 with e | ⟨_,j,hj,h18,_⟩
 .exact e
 .rw[hi]at hj;cases hj
theorem EY(hc:(aG vs ms cs fs ts).1=0) (h:dB ms fs bound t) (hi:mZ fs t.2.1 t.2.2.1=some i) (hv:jw i.1=false):dB ms fs bound (fU t i).1:=by
 obtain⟨id,fn,pc,rg,st,ch,ph,su,fa,hd,u⟩:=t;obtain⟨op,a,b,c,obj,n,f,ord,u2⟩:=i;have hi:mZ fs fn pc=some (op,a,b,c,obj,n,f,ord,u2):=hi;have hp:=aak h hi hv;have iQ:=ahz hi;obtain⟨h1,h2,h3,h4,h5,h6,h7,h8,h9⟩:=h;have ok:=BG hc h2 hi;obtain⟨k1,k2,k3,k4⟩:=ql ok;obtain⟨r1,r2,r3,r4⟩:=kV k1;have k4:op=4\/op=5->0<=n/\n<=((codeF fs fn).length:Int):=k4;have hpc:=RH h3.1 iQ;have key:∀(pc':Int) (VP:List Int) (su' fa':Int),(0<=pc'/\pc'<=((codeF fs fn).length:Int))->(∀k < 8,∀r,VP[k]?=some r->bW r=true)->dB ms fs bound (id,fn,pc',VP,st,ch,ph,su',fa',hd,()):=
  λpc' VP su' fa' q1 q2=>⟨h1,h2,q1,q2,h5,h6,h7,h8,.inl hp⟩
 unfold fU;simp only;split
 .rename_i e;exact key _ _ _ _ hpc (zG h4 (akz k1 e))
 split
 .exact key _ _ _ _ hpc (zG h4 (aaj h4 r2))
 split
 .split
  .exact key _ _ _ _ hpc (zG h4 (aff _ _ _))
  .exact key _ _ _ _ hpc h4
 split
 .rename_i e;exact key _ _ _ _ (k4 (.inl e)) h4
 split
 .rename_i e;split
  .exact key _ _ _ _ hpc h4
  .exact key _ _ _ _ (k4 (.inr e)) h4
 split
 .exact key _ _ _ _ h3 h4
 split
 .exact key _ _ _ _ h3 h4
 .exact key _ _ _ _ hpc h4
theorem EZ(t:TD) (i:ID):(fU t i).1.1=t.1/\(fU t i).1.2.1=t.2.1/\(fU t i).1.2.2.2.2.1=t.2.2.2.2.1/\(fU t i).1.2.2.2.2.2.1=t.2.2.2.2.2.1/\(fU t i).1.2.2.2.2.2.2.1=t.2.2.2.2.2.2.1/\(fU t i).1.2.2.2.2.2.2.2.2.2.1=t.2.2.2.2.2.2.2.2.2.1/\((fU t i).2=true->(fU t i).1.2.2.2.2.2.2.2.1=t.2.2.2.2.2.2.2.1/\(fU t i).1.2.2.2.2.2.2.2.2.1=t.2.2.2.2.2.2.2.2.1):=by
 obtain⟨id,fn,pc,rg,st,ch,ph,su,fa,hd,u⟩:=t;obtain⟨op,a,b,c,obj,n,f,ord,u2⟩:=i;unfold fU;simp only
 repeat' split
 all_goals simp
theorem Vw(id ch ph:Int) (hd:List Int) (i:ID):jy id ch ph hd i=0\/(ph=0/\(jy id ch ph hd i=27\/jy id ch ph hd i=28)):=by
 unfold jy
 repeat' split
 all_goals first | exact .inl rfl | (right;constructor<;>first | omega | simp)
theorem top_vld(hb:1<=bound){rest:ID->TD}{fn st ph:Int}{hd:List Int}{u:Unit} (h:dB ms fs bound (id,fn,pc,rg,st,ch,ph,1,0,hd,u))
 (hr:∀i,mZ fs fn pc=some i->jw i.1=false->ph=0->uh ms fs bound (rest i)):uh ms fs bound (topS fs bound (id,fn,pc,rg,st,ch,ph,1,0,hd,u) rest):=by
 unfold topS;simp only;split
 .rename_i hi;exact⟨h,.inr (.inl ⟨rfl,rfl,afg h hi,λi q=>by rw[hi]at q;cases q⟩)⟩
 rename_i i hi;split
 .rename_i hv;have ho:=Vw id ch ph hd i;split
  .rename_i e;refine⟨h,.inr (.inr ⟨rfl,by omega,i,hi,.inr (.inr ⟨by omega,by omega,by omega,rfl⟩)⟩)⟩
  .rename_i e;have e:jy id ch ph hd i=0:=by omega
   have hst:=h.2.2.2.2.1;split
   .exact⟨h,.inl ⟨.inr ⟨rfl,by omega⟩,rfl,i,hi,hv,e⟩⟩
   .exact⟨h,.inl ⟨.inl ⟨rfl,by omega⟩,rfl,i,hi,hv,e⟩⟩
 .rename_i hv;have hv:jw i.1=false:=by simpa using hv
  exact hr i hi hv (aak h hi hv)
theorem RI(hc:(aG vs ms cs fs ts).1=0) (hb:1<=bound):∀(k:Nat) (t:TD),dB ms fs bound t->t.2.2.2.2.2.2.2.1=1->t.2.2.2.2.2.2.2.2.1=0->uh ms fs bound (fZ fs bound k t):=by
 intro k
 induction k with
 | zero=>
   rintro⟨id,fn,pc,rg,st,ch,ph,su,fa,hd,u⟩ h h1 h2;have h1:su=1:=h1;have h2:fa=0:=h2;subst h1;subst h2;rw[fZ];refine top_vld hb h λi hi hv hp=>?_
   show uh ms fs bound (id,fn,pc,rg,st,ch,ph,3,29,hd,());exact⟨h,.inr (.inr ⟨rfl,hp,i,hi,.inr (.inl ⟨rfl,hv⟩)⟩)⟩
 | succ k ih=>
   rintro⟨id,fn,pc,rg,st,ch,ph,su,fa,hd,u⟩ h h1 h2;have h1:su=1:=h1;have h2:fa=0:=h2;subst h1;subst h2;rw[fZ];refine top_vld hb h λi hi hv hp=>?_
   have hf:=EY hc (t:=(id,fn,pc,rg,st,ch,ph,1,0,hd,u)) h hi hv;have hk:=EZ (id,fn,pc,rg,st,ch,ph,1,0,hd,u) i;split
   .rename_i e;exact ih _ hf (hk.2.2.2.2.2.2 e).1 (hk.2.2.2.2.2.2 e).2
   .rename_i e;obtain⟨op,a,b,c,obj,n,f,ord,u2⟩:=i;unfold fU at e ⊢;simp only at e ⊢
    by_cases n1:op=1
    .rw[if_pos n1]at e;exact absurd rfl e
    rw[if_neg n1]at e ⊢
    by_cases n2:op=2
    .rw[if_pos n2]at e;exact absurd rfl e
    rw[if_neg n2]at e ⊢
    by_cases n3:op=3
    .rw[if_pos n3]at e;exact absurd rfl e
    rw[if_neg n3]at e ⊢
    by_cases n4:op=4
    .rw[if_pos n4]at e;exact absurd rfl e
    rw[if_neg n4]at e ⊢
    by_cases n5:op=5
    .rw[if_pos n5]at e;exact absurd rfl e
    rw[if_neg n5]at e ⊢
    by_cases n6:op=6/\rg.getD b.toNat 0=0
    .rw[if_pos n6];exact⟨h,.inr (.inr ⟨rfl,hp,_,hi,.inl ⟨rfl,n6.1,n6.2⟩⟩)⟩
    rw[if_neg n6]at e ⊢
    by_cases n7:op=7
    .rw[if_pos n7];exact⟨h,.inr (.inl ⟨rfl,rfl,hp,λj hj=>by rw[hi]at hj;cases hj;exact n7⟩)⟩
    rw[if_neg n7]at e;exact absurd rfl e
theorem top_keep{rest:ID->TD} (hr:∀i,(rest i).1=t.1/\(rest i).2.1=t.2.1/\(rest i).2.2.2.2.1=t.2.2.2.2.1/\(rest i).2.2.2.2.2.2.2.2.2.1=t.2.2.2.2.2.2.2.2.2.1):
 (topS fs bound t rest).1=t.1/\(topS fs bound t rest).2.1=t.2.1/\(topS fs bound t rest).2.2.2.2.1=t.2.2.2.2.1/\(topS fs bound t rest).2.2.2.2.2.2.2.2.2.1=t.2.2.2.2.2.2.2.2.2.1:=by
 obtain⟨id,fn,pc,rg,st,ch,ph,su,fa,hd,u⟩:=t;unfold topS;simp only;split
 .exact⟨rfl,rfl,rfl,rfl⟩
 split
 .repeat' split
  all_goals exact⟨rfl,rfl,rfl,rfl⟩
 .exact hr _
theorem MJ(fs:List FD) (bound:Int):∀(k:Nat) (t:TD),(fZ fs bound k t).1=t.1/\(fZ fs bound k t).2.1=t.2.1/\(fZ fs bound k t).2.2.2.2.1=t.2.2.2.2.1/\(fZ fs bound k t).2.2.2.2.2.2.2.2.2.1=t.2.2.2.2.2.2.2.2.2.1:=by
 intro k
 induction k with
 | zero=>
   intro t;rw[fZ];exact top_keep λi=>⟨rfl,rfl,rfl,rfl⟩
 | succ k ih=>
   intro t;rw[fZ];refine top_keep λi=>?_
   have hk:=EZ t i;have:=ih (fU t i).1;split
   .exact⟨this.1.trans hk.1,this.2.1.trans hk.2.1,this.2.2.1.trans hk.2.2.1,this.2.2.2.trans hk.2.2.2.2.2.1⟩
   .exact⟨hk.1,hk.2.1,hk.2.2.1,hk.2.2.2.2.2.1⟩
def pG(l o:List Int) (b:Bool):List Int:=l.filter λx=>dP o x == b
def BR(l:List Int) (x:Int):List Int:=pG (bD l) [x] false
def BU(l:List Int) (x:Int):List Int:=bD (l++[x])
theorem PW(l:List Int) (x:Int):SS (BR l x):=List.Pairwise.filter _ (zo l)
theorem JF{x:Int}:y∈BR l x↔y∈l/\y≠x:=by
 unfold BR pG;rw[List.mem_filter,zq];have:(dP [x] y == false)=true↔y≠x:=by
  rw[Bd,oP,A82]
 rw[this]
theorem afh{x:Int}:y∈BU l x↔y∈l\/y=x:=by
 unfold BU;rw[zq];simp
theorem PX{n:Int} (h:SS l):l.filter (λx=>decide (x≠n))=BR l n:=by
 refine Pq (List.Pairwise.filter _ h) (PW _ _) λx=>?_
 rw[JF,List.mem_filter];simp
def zT:TD:=(0,0,0,[0,0,0,0,0,0,0,0],0,0,0,0,0,[],())
def lK:TD->ID->Int->TD
 | (id,fn,pc,rg,st,ch,ph,su,fa,hd,_),i,result=>
   if i.1=18 then
    (if ph=0 then(id,fn,pc,if(mP i).2=true then rg.set (mP i).1.toNat result else rg,st+1,ch,1,su,fa,BR hd i.2.2.2.2.2.1,())
     else if ph=1 then(id,fn,pc,if(mP i).2=true then rg.set (mP i).1.toNat result else rg,st+1,ch,2,su,fa,hd,())
     else(id,fn,pc+1,if(mP i).2=true then rg.set (mP i).1.toNat result else rg,st+1,ch,0,su,fa,BU hd i.2.2.2.2.2.1,()))
   else(id,fn,pc+1,if(mP i).2=true then rg.set (mP i).1.toNat result else rg,st+1,if i.1=21 then ch+1 else ch,ph,su,fa,
    if i.1=15\/(i.1=17/\result≠0) then BU hd i.2.2.2.2.1 else if i.1=16 then BR hd i.2.2.2.2.1 else hd,())
theorem Vx{op:Int} (h:op=15\/op=16\/op=17):oQ vs ms cs fs op=ms.length:=by
 unfold oQ;rw[if_neg (by omega),if_pos h]
theorem AV(h:uh ms fs bound t) (h1:t.2.2.2.2.2.2.2.1=1):t.2.2.2.2.2.2.2.2.1=0/\t.2.2.2.2.1 < bound/\∃i,mZ fs t.2.1 t.2.2.1=some i/\jw i.1=true/\jy t.1 t.2.2.2.2.2.1 t.2.2.2.2.2.2.1 t.2.2.2.2.2.2.2.2.2.1 i=0:=by
 obtain⟨id,fn,pc,rg,st,ch,ph,su,fa,hd,u⟩:=t;have h1:su=1:=h1;subst h1;obtain⟨hf,q | q | q⟩:=h
 .obtain⟨q1,q2,i,hi,hv,ho⟩:=q;rcases q1 with⟨_,q1⟩ | ⟨q1,_⟩
  .exact⟨q2,q1,i,hi,hv,ho⟩
  .exact absurd q1 (by decide)
 .exact absurd q.1 (by decide)
 .exact absurd q.1 (by decide)
theorem E5(hc:(aG vs ms cs fs ts).1=0) (h:uh ms fs bound t) (h1:t.2.2.2.2.2.2.2.1=1) (hi:mZ fs t.2.1 t.2.2.1=some i){result:Int} (hv:bW result=true):dB ms fs bound (lK t i result):=by
 obtain⟨f0,s0,j,hj,vj,oj⟩:=AV h h1;rw[hi]at hj;cases hj;obtain⟨id,fn,pc,rg,st,ch,ph,su,fa,hd,u⟩:=t;have hf:dB ms fs bound (id,fn,pc,rg,st,ch,ph,su,fa,hd,u):=h.1;have hi:mZ fs fn pc=some i:=hi;have s0:st < bound:=s0;have oj:jy id ch ph hd i=0:=oj;have iQ:=ahz hi;obtain⟨a1,a2,a3,a4,a5,a6,a7,a8,a9⟩:=hf;obtain⟨k1,k2,k3,k4⟩:=ql (BG hc a2 hi);have hpc:=RH a3.1 iQ;have hst:0<=st+1/\st+1<=bound:=⟨Int.add_nonneg a5.1 (by decide),s0⟩
 have hrg:∀k < 8,∀r,(if(mP i).2=true then rg.set (mP i).1.toNat result else rg)[k]?=some r->bW r=true:=by
  split
  .exact zG a4 hv
  .exact a4
 have akA:∀x,SS (BR hd x)/\∀m∈BR hd x,0<=m/\m < (ms.length:Int):=λx=>⟨PW _ _,λm hm=>a8 m (JF.1 hm).1⟩
 have hadd:∀x,0<=x/\x < (ms.length:Int)->SS (BU hd x)/\∀m∈BU hd x,0<=m/\m < (ms.length:Int):=λx hx=>⟨zo _,λm hm=>by
  rcases afh.1 hm with q | q
  .exact a8 m q
  .subst q;exact hx⟩
 unfold lK;simp only;split
 .rename_i e;split
  .rename_i e0;subst e0;refine⟨a1,a2,a3,hrg,hst,a6,(akA _).1,(akA _).2,.inr ⟨.inl rfl,i,hi,e,?_⟩⟩;rw[oP];exact λq=>(JF.1 q).2 rfl
  rename_i n0;have a10:=a9.resolve_left n0;split
  .exact⟨a1,a2,a3,hrg,hst,a6,a7,a8,.inr ⟨.inr rfl,a10.2⟩⟩
  .exact⟨a1,a2,hpc,hrg,hst,a6,(hadd _ (k3 e)).1,(hadd _ (k3 e)).2,.inl rfl⟩
 .rename_i e;have e0:ph=0:=by
   rcases a9 with q | ⟨_,j,hj,q,_⟩
   .exact q
   .rw[hi]at hj;cases hj;exact absurd q e
  subst e0;have hch:0<=(if i.1=21 then ch+1 else ch)/\(if i.1=21 then ch+1 else ch)<=7/\(aV id=4->(if i.1=21 then ch+1 else ch)=0):=by
   split
   .rename_i e21;have:(cO id ch).2=true:=by
     unfold jy at oj;rw[if_neg (by simp),if_neg e,if_neg (by omega),if_pos e21]at oj
     by_cases q:(cO id ch).2=true
     .exact q
     .rw[if_neg q]at oj;cases oj
    unfold cO at this;split at this
    .cases this
    .rename_i q;omega
   .exact a6
  refine⟨a1,a2,hpc,hrg,hst,hch,?_,?_,.inl rfl⟩
  .split
   .exact zo _
   split
   .exact PW _ _
   .exact a7
  .split
   .rename_i q;have ho:=Vx (vs:=vs) (ms:=ms) (cs:=cs) (fs:=fs) (op:=i.1) (by omega)
    rw[ho]at k2;exact(hadd _ (k2 (by omega))).2
   split
   .exact(akA _).2
   .exact a8
theorem aal(t:TD) (i:ID) (r:Int):(lK t i r).1=t.1/\(lK t i r).2.1=t.2.1/\(lK t i r).2.2.2.2.1=t.2.2.2.2.1+1/\(lK t i r).2.2.2.2.2.2.2.1=t.2.2.2.2.2.2.2.1/\(lK t i r).2.2.2.2.2.2.2.2.1=t.2.2.2.2.2.2.2.2.1:=by
 obtain⟨id,fn,pc,rg,st,ch,ph,su,fa,hd,u⟩:=t;unfold lK;simp only
 repeat' split
 all_goals simp
def dG(e bound:Int):Int:=if e≠0 then e else if bound < 1\/32 < bound then 2 else 0
theorem iw{e:Int}:dG e bound=0↔e=0/\1<=bound/\bound<=32:=by
 unfold dG;constructor
 .intro h;split at h
  .rename_i q;exact absurd h q
  .rename_i q;split at h
   .cases h
   .omega
 .rintro⟨h1,h2,h3⟩;rw[if_neg (by omega),if_neg (by omega)]
def newS(e:Int) (fs:List FD) (bound id fn arg:Int):TD×Int:=
 if dG e bound≠0 then(zT,dG e bound) else if aV id < 0 then(zT,2) else if fn < 0\/(fs.length:Int)<=fn then(zT,11) else if bW arg=false then(zT,2)
 else(fZ fs bound 256 (id,fn,0,[arg,0,0,0,0,0,0,0],0,0,0,1,0,[],()),0)
theorem E8(ms:List ByteArray){fn arg:Int} (hb:1<=bound) (h1:¬aV id < 0) (h2:¬(fn < 0\/(fs.length:Int)<=fn)) (h3:¬bW arg=false):dB ms fs bound (id,fn,0,[arg,0,0,0,0,0,0,0],0,0,0,1,0,[],()):=by
 refine⟨by omega,by omega,by omega,λk hk r hr=>?_,by omega,⟨by omega,by omega,λ_=>rfl⟩,List.Pairwise.nil,λm hm=>(nomatch hm),.inl rfl⟩
 match k,hr with
 | 0,hr=>cases hr;simpa using h3
 | k+1,hr=>
   have:r=0:=by
    have:=iy (show[(0:Int),0,0,0,0,0,0][k]?=some r by simpa using hr)
    simpa using this
   rw[this];rfl
open Classical in
def gQ(e:Int) (ms:List ByteArray) (fs:List FD) (t:TD):ID×Bool:=
 if e=0/\t.2.2.2.2.2.2.2.1=1/\uh ms fs 32 t then atR fs t.2.1 t.2.2.1 else((0,0,0,0,0,0,0,0,()),false)
open Classical in
def kW(e:Int) (ms:List ByteArray) (fs:List FD) (bound:Int) (t:TD) (result:Int):TD×Int:=
 if dG e bound≠0 then(zT,dG e bound) else if¬uh ms fs bound t then(zT,1) else if t.2.2.2.2.2.2.2.1≠1 then(zT,30) else if bW result=false then(zT,2)
 else(fZ fs bound 256 (lK t (atR fs t.2.1 t.2.2.1).1 result),0)
end
end Go.Proofs.YtjhenjhcbcalpaaGreatDoor
