/- Part 7 of the proof. Conditions: the rows'. -/
import Derived.Test.YtjhenjhcbcalpaaGreatDoorB6
set_option linter.unusedSimpArgs false
set_option linter.unusedVariables false
set_option maxRecDepth 1000000
set_option maxHeartbeats 8000000
namespace Go.Proofs.YtjhenjhcbcalpaaGreatDoor
open Go Go.l9
noncomputable section
variable {i:ID}{l rg:List Int}{k:Nat}{vs:List VD}{ms cs:List ByteArray}{fs:List FD}{d:cO [mO,lY]}{ts:List SD}{m id ch pc bound:Int}
def IQ(s:ByteArray) (i:Nat):Int:=match s[i]? with | some u=>(u.toNat:Int) | none=>0
theorem Kw{s:ByteArray}{i:Nat}{u:UInt8} (h:s[i]?=some u):IQ s i=u.toNat:=by simp[IQ,h]
def okB(c:Int):Bool:=sN c || decide (c=95) || decide (48<=c/\c<=57)
def dI(s:ByteArray):Bool:=decide (1<=s.size/\s.size<=16) && sN (IQ s 0) && (List.range s.size).all λi=>okB (IQ s i)
abbrev aod:CT:={ ps:=[.str],pre:=λd=>True,res:=λd=>([],vB (dI d.1)) }
abbrev akE(s:ByteArray):Nat->Option (St->jK):=λk=>match k with
 | 4=>some λ_=>.inv { α:=Nat,slots:=λk=>[(20,.c (.v (.int .i64 k)))],res:=λk=>[],inv:=λk=>k<=((List.range s.size)).length/\∀j < k,okB (IQ s j)=true,meas:=λk=>((List.range s.size)).length - k }
 | _=>none
theorem afC(s:ByteArray):
 let z5:=(s.size:Int) < (1:Int);let z3:=!(decide z5 || decide (16 < (s.size:Int)));let z6:=List.range s.size;let z2:=λ(x:Nat)=>(x<=z6.length/\∀(j:Nat),j < x->okB (IQ s j)=true);let z4:=λ(u u_1:UInt8)=>!sN (u.toNat:Int) && !decide ((u_1.toNat:Int)=(95:Int));let z1:=λ(u_2 u u_1:UInt8)=>!decide ((u_2.toNat:Int) < (48:Int)) && (z4 u u_1);(z3=true->(0:Int)<=(0:Int)/\0 < (s.size:Int))/\∀(u:UInt8),(z3=true->s[0]?=some u)->(z3=true->True)/\br (decide z5 || decide (16 < (s.size:Int)) || !sN (u.toNat:Int)) (qB (dI s) false) ((∃x,(z2 x)/\(cI 0=cI (x:Int)/\True)/\([]:List dP)=[])/\∀(x:Nat),(z2 x)->br (decide ((x:Int) < (s.size:Int))) ((0<=(x:Int)/\(x:Int) < (s.size:Int))/\∀(u:UInt8),s[(x:Int).toNat]?=some u->True/\((!sN (u.toNat:Int))=true->0<=(x:Int)/\(x:Int) < (s.size:Int))/\∀(u_1:UInt8),((!sN (u.toNat:Int))=true->s[(x:Int).toNat]?=some u_1)->((z4 u u_1)=true->0<=(x:Int)/\(x:Int) < (s.size:Int))/\∀(u_2:UInt8),((z4 u u_1)=true->s[(x:Int).toNat]?=some u_2)->((z1 u_2 u u_1)=true->0<=(x:Int)/\(x:Int) < (s.size:Int))/\∀(u_3:UInt8),((z1 u_2 u u_1)=true->s[(x:Int).toNat]?=some u_3)->br (!sN (u.toNat:Int) && !decide ((u_1.toNat:Int)=(95:Int)) && (decide ((u_2.toNat:Int) < (48:Int)) || decide (57 < (u_3.toNat:Int)))) (qB (dI s) false) (iR ((x:Int)+(1:Int))/\∃x',(z2 x')/\(cI ((x:Int)+(1:Int))=cI (x':Int)/\True)/\([]:List dP)=[]/\z6.length - x' < z6.length - x)) (qB (dI s) true)):=by
 conv=>zeta
 delta dP cI qB iR;have hs2:(!(decide ((s.size:Int) < (1:Int)) || decide ((16:Int) < (s.size:Int))))=true↔(1<=s.size/\s.size<=16):=by
  simp only[CO,l7,eH];omega
 refine⟨λh=>by have:=hs2.1 h;omega,λu hu=>⟨λ_=>trivial,ah.2 ⟨λh=>⟨rfl,?_⟩,λh=>?_⟩⟩⟩
 .have:dI s=false:=by
   unfold dI
   by_cases hs:1<=s.size/\s.size<=16
   .have e:=Kw (hu (hs2.2 hs));simp only[xk,dN,CO]at h;have h0:sN (IQ s 0)=false:=by
     rw[e];rcases h with(h | h) | h
     .omega
     .omega
     .exact h
    rw[h0];simp
   .rw[Aw hs];rfl
  rw[this]
 .simp only[l7,eH,wI]at h;obtain⟨⟨h1,h2⟩,h3⟩:=h;have hs:1<=s.size/\s.size<=16:=by omega
  have e:=Kw (hu (hs2.2 hs));have hl:(List.range s.size).length=s.size:=List.length_range;rw[hl];refine⟨⟨0,⟨by omega,λj hj=>by omega⟩,⟨rfl,trivial⟩,rfl⟩,λk hk=>ah.2 ⟨λh=>?_,λh=>?_⟩⟩
  .simp only[dN]at h;have hN:(k:Int).toNat=k:=by omega
   rw[hN];refine⟨by omega,λv hv=>⟨trivial,λ_=>by omega,λv1 hv1=>⟨λ_=>by omega,λv2 hv2=>⟨λ_=>by omega,λv3 hv3=>?_⟩⟩⟩⟩
   have ev:=Kw hv;have bad:okB (IQ s k)=false->dI s=false:=by
    intro hb;unfold dI;have:((List.range s.size).all λi=>okB (IQ s i))=false:=by
     rw[List.all_eq_false];exact⟨k,by simp;omega,by rw[hb];simp⟩
    rw[this];simp
   have fin:okB (IQ s k)=true->(WS IntKind.i64 ((k:Int)+1)/\∃x',(x'<=s.size/\∀(j:Nat),j < x'->okB (IQ s j)=true)/\(SV.c (SC.v (Value.int IntKind.i64 ((k:Int)+1)))=SV.c (SC.v (Value.int IntKind.i64 (x':Int)))/\True)/\([]:List (Go.l9.Gd×Go.l9.ak))=[]/\s.size - x' < s.size - k):=λho=>
    ⟨ay.2 (by omega),k+1,⟨by omega,λj hj=>by
     by_cases iY:j=k
     .rw[iY];exact ho
     .exact hk.2 j (by omega)⟩,⟨rfl,trivial⟩,rfl,by omega⟩
   cases hA:sN (v.toNat:Int) with
   | true=>
     refine ah.2 ⟨λh=>by simp at h,λ_=>fin ?_⟩
     rw[ev];unfold okB;rw[hA];rfl
   | false=>
     have hv1:=hv1 (by rw[hA];rfl)
     rw[hv]at hv1;cases hv1
     by_cases h95:(v.toNat:Int)=95
     .refine ah.2 ⟨λh=>by simp[h95]at h,λ_=>fin ?_⟩
      rw[ev];unfold okB;simp[h95]
     .have hd95:decide ((v.toNat:Int)=95)=false:=Aw h95;have hv2:=hv2 (by rw[hA,hd95];rfl)
      rw[hv]at hv2;cases hv2
      by_cases h48:(v.toNat:Int) < 48
      .refine ah.2 ⟨λ_=>⟨rfl,?_⟩,λh=>by simp[h95,h48]at h⟩
       rw[bad (by rw[ev];unfold okB;rw[hA,hd95];simp;omega)]
      .have aqb:decide ((v.toNat:Int) < 48)=false:=Aw h48;have hv3:=hv3 (by rw[hA,hd95,aqb];rfl)
       rw[hv]at hv3;cases hv3
       by_cases h57:57 < (v.toNat:Int)
       .refine ah.2 ⟨λ_=>⟨rfl,?_⟩,λh=>by simp[h95,h57]at h⟩
        rw[bad (by rw[ev];unfold okB;rw[hA,hd95];simp;omega)]
       .refine ah.2 ⟨λh=>by simp[h95,h48,h57]at h,λ_=>fin ?_⟩
        rw[ev];unfold okB;rw[hA,hd95];simp;omega
  .simp only[eH]at h;have:dI s=true:=by
    unfold dI;rw[xq hs,e,h3];simp only[Hy];rw[Q9];intro i hi;simp at hi;exact hk.2 i (by omega)
   rw[this];exact⟨rfl,rfl⟩
theorem aaz:aU aS.gd 208 aod:=
 jW (cx:=aS) (n:=47) (cl:=[(214,ah5)]) au ⟨aar,trivial⟩ Tryz.func208 λd hd=>by
  obtain⟨s,⟨⟩⟩:=d;exact⟨akE s,cast (by kernel_rfl) (afC s)⟩
def gW(l:List ByteArray):Int×Int:=match(List.range l.length).find? (λi=>!dI (l.getD i ⟨#[]⟩) || uj (l.take i) (l.getD i ⟨#[]⟩)) with
 | some i=>(if dI (l.getD i ⟨#[]⟩) then 7 else 6,i)
 | none=>(0,-1)
theorem vX{l:List ByteArray} (hk:k < l.length) (h:∀j < k,dI (l.getD j ⟨#[]⟩)=true/\uj (l.take j) (l.getD j ⟨#[]⟩)=false) (hf:dI (l.getD k ⟨#[]⟩)=false\/uj (l.take k) (l.getD k ⟨#[]⟩)=true):
 gW l=(if dI (l.getD k ⟨#[]⟩) then 7 else 6,(k:Int)):=by
 unfold gW;rw[show(List.range l.length).find? (λi=>!dI (l.getD i ⟨#[]⟩) || uj (l.take i) (l.getD i ⟨#[]⟩))=some k from List.find?_range_eq_some.2 ⟨by rcases hf with hf | hf<;>rw[hf]<;>simp,by simpa using hk,λj hj=>by obtain⟨a,b⟩:=h j hj;rw[a,b];rfl⟩]
theorem NR{l:List ByteArray} (h:∀j < l.length,dI (l.getD j ⟨#[]⟩)=true/\uj (l.take j) (l.getD j ⟨#[]⟩)=false):gW l=(0,-1):=by
 unfold gW;rw[show(List.range l.length).find? (λi=>!dI (l.getD i ⟨#[]⟩) || uj (l.take i) (l.getD i ⟨#[]⟩))=none from WY.2 λi hi=>by
  obtain⟨a,b⟩:=h i (by simpa using hi)
  rw[a,b];simp]
abbrev aaA:CT:={ ps:=[.sl .str],pre:=λd=>d.1.length<=1000000,res:=λd=>([],.iJ [.c (.v (.int .i64 (gW d.1).1)),.c (.v (.int .i64 (gW d.1).2))]) }
abbrev akF(l:List ByteArray):Nat->Option (St->jK):=λk=>match k with
 | 2=>some λ_=>.inv { α:=Nat,slots:=λk=>[(8,.c (.v (.int .i64 k)))],res:=λk=>[],inv:=λk=>k<=(l).length/\∀j < k,dI (l.getD j ⟨#[]⟩)=true/\uj (l.take j) (l.getD j ⟨#[]⟩)=false,meas:=λk=>(l).length - k }
 | _=>none
theorem afD(l:List ByteArray) (aG:aaA.pre (l,())):
 let z1:=λ(x:Nat)=>(x<=l.length/\∀(j:Nat),j < x->dI (l.getD j { data:=#[]:ByteArray })=true/\uj (List.take j l) (l.getD j { data:=#[]:ByteArray })=false);let z2:=[cI ((gW l).fst),cI ((gW l).snd)];(∃x,(z1 x)/\(cI 0=cI (x:Int)/\True)/\([]:List dP)=[])/\∀(x:Nat),(z1 x)->br (decide ((x:Int) < (l.length:Int))) ((0<=(x:Int)/\(x:Int) < (l.length:Int))/\∀(d:ByteArray),l[(x:Int).toNat]?=some d->True/\br (!dI d) (rT z2 [cI 6,cI (x:Int)]) (((0:Int)<=(0:Int)/\0<=(x:Int)/\(x:Int)<=(l.length:Int))/\(List.drop 0 (List.take (x:Int).toNat l)).length<=1000000/\br (uj (List.drop 0 (List.take (x:Int).toNat l)) d) (rT z2 [cI 7,cI (x:Int)]) (iR ((x:Int)+(1:Int))/\∃x',(z1 x')/\(cI ((x:Int)+(1:Int))=cI (x':Int)/\True)/\([]:List dP)=[]/\l.length - x' < l.length - x))) (rT z2 [cI 0,cI (-1)]):=by
 conv=>zeta
 delta dP cI rT iR;have hp:l.length<=1000000:=aG;refine⟨⟨0,⟨by omega,λj hj=>by omega⟩,⟨rfl,trivial⟩,rfl⟩,λk hk=>ah.2 ⟨λh=>?_,λh=>?_⟩⟩
 .simp only[dN]at h;have hN:(k:Int).toNat=k:=by omega
  rw[hN];refine⟨by omega,λd hd=>?_⟩
  have hg:l.getD k ⟨#[]⟩=d:=by rw[Jf,hd];rfl
  refine⟨trivial,ah.2 ⟨λh2=>⟨rfl,?_⟩,λh2=>⟨⟨by omega,by omega,by omega⟩,by simp;omega,ah.2 ⟨λh3=>⟨rfl,?_⟩,λh3=>⟨ay.2 (by omega),k+1,⟨by omega,λj hj=>?_⟩,⟨rfl,trivial⟩,rfl,by omega⟩⟩⟩⟩⟩
  .have h2:dI d=false:=by simpa using h2
   rw[vX (by omega) hk.2 (.inl (by rw[hg];exact h2)),hg,h2];rfl
  .have h2:dI d=true:=by simpa using h2
   have h3:uj (l.take k) d=true:=by simpa using h3
   rw[vX (by omega) hk.2 (.inr (by rw[hg];exact h3)),hg,h2];rfl
  .by_cases iY:j=k
   .subst iY;rw[hg];exact⟨by simpa using h2,by simpa using h3⟩
   .exact hk.2 j (by omega)
 .simp only[eH]at h;rw[NR λj hj=>hk.2 j (by omega)];exact⟨rfl,rfl⟩
theorem aaB:aU aS.gd 184 aaA:=
 jW (cx:=aS) (n:=24) (cl:=[(208,aod),(209,Qz)]) au ⟨aaz,aay,trivial⟩ Tryz.func184 λd hd=>by
  obtain⟨l,⟨⟩⟩:=d;exact⟨akF l,cast (by kernel_rfl) (afD l hd)⟩
def ciS(vs:List VD) (ms cs:List ByteArray) (fs:List FD) (e op obj n m:Int):Int:=if e≠0 then e else if 0<=oZ vs ms cs fs op/\(obj < 0\/oZ vs ms cs fs op<=obj) then 11 else if op=18/\(n < 0\/(ms.length:Int)<=n) then 11 else if(op=4\/op=5)/\(n < 0\/m < n) then 12 else 0
abbrev uo(i:ID):Int:=qC i.1 i.2.1 i.2.2.1 i.2.2.2.1 i.2.2.2.2.1 i.2.2.2.2.2.1 i.2.2.2.2.2.2.1 i.2.2.2.2.2.2.2.1
abbrev vY(vs:List VD) (ms cs:List ByteArray) (fs:List FD) (i:ID) (m:Int):Int:=ciS vs ms cs fs (uo i) i.1 i.2.2.2.2.1 i.2.2.2.2.2.1 m
abbrev aoe:CT:={ ps:=[oW,lY,.int .i64],pre:=λd=>True,res:=λd=>([],.one (.c (.v (.int .i64 (vY d.1.1 d.1.2.1 d.1.2.2.1 d.1.2.2.2.1 d.2.1 d.2.2.1))))) }
theorem afE(vs:List VD) (ms cs:List ByteArray) (fs:List FD) (ts:List SD) (op a b c obj n fn ord m:Int):
 let z3:=qC op a b c obj n fn ord;let z2:=ciS vs ms cs fs z3 op obj n m;let z1:=qI z2 (11:Int);True/\br (!decide (qC op a b c obj n fn ord=0)) (qI z2 z3) (True/\br (decide (0<=oZ vs ms cs fs op) && (decide (obj < 0) || decide (oZ vs ms cs fs op<=obj))) z1 (br (decide (op=18) && (decide (n < 0) || decide ((ms.length:Int)<=n))) z1 (br ((decide (op=4) || decide (op=5)) && (decide (n < 0) || decide (m < n))) (qI z2 (12:Int)) (qI z2 (0:Int))))):=by
 conv=>zeta
 delta qI;generalize qC op a b c obj n fn ord=e;unfold ciS;generalize oZ vs ms cs fs op=o;refine⟨trivial,ah.2 ⟨λh=>⟨rfl,?_⟩,λh=>⟨trivial,ah.2 ⟨λh2=>⟨rfl,?_⟩,λh2=>ah.2 ⟨λh3=>⟨rfl,?_⟩,λh3=>ah.2 ⟨λh4=>⟨rfl,?_⟩,λh4=>⟨rfl,?_⟩⟩⟩⟩⟩⟩⟩
 all_goals simp only[CO,wI,bY,xk,A72,l7,dN,eH]at *
 all_goals (congr 4;(repeat' split)<;>first | rfl | omega | (exfalso;omega))
theorem aaC:aU aS.gd 190 aoe:=
 jW (cx:=aS) (n:=66) (cl:=[(168,akl),(211,ah6)]) au ⟨ND,aat,trivial⟩ Tryz.func190 λd hd=>by
  obtain⟨⟨vs,ms,cs,fs,ts,⟨⟩⟩,⟨op,a,b,c,obj,n,fn,ord,⟨⟩⟩,m,⟨⟩⟩:=d;exact⟨λ_=>none,cast (by kernel_rfl) (afE vs ms cs fs ts op a b c obj n fn ord m)⟩
def CW(vs:List VD) (ms cs:List ByteArray) (fs:List FD):Int×Int×Int:=
 if(gW (iy vs)).1≠0 then((gW (iy vs)).1,-1,-1) else if(gW ms).1≠0 then((gW ms).1,-1,-1) else if(gW cs).1≠0 then((gW cs).1,-1,-1) else((gW (jw fs)).1,(gW (jw fs)).2,-1)
theorem akG{d:List ByteArray} (hd:[iy vs,ms,cs][k]?=some d) (h:(gW d).1≠0) (hn:∀j < k,∀x,[iy vs,ms,cs][j]?=some x->(gW x).1=0):
 CW vs ms cs fs=((gW d).1,-1,-1):=by
 unfold CW
 match k,hd,hn with
 | 0,hd,hn=>simp at hd;subst hd;rw[if_pos h]
 | 1,hd,hn=>
   simp at hd;subst hd;have h0:=hn 0 (by omega) (iy vs) rfl
   rw[if_neg (by rw[h0];simp),if_pos h]
 | 2,hd,hn=>
   simp at hd;subst hd;have h0:=hn 0 (by omega) (iy vs) rfl
   have h1:=hn 1 (by omega) ms rfl
   rw[if_neg (by rw[h0];simp),if_neg (by rw[h1];simp),if_pos h]
 | k+3,hd,hn=>simp at hd
theorem aof(hn:∀(j:Nat) x,[iy vs,ms,cs][j]?=some x->(gW x).1=0):CW vs ms cs fs=((gW (jw fs)).1,(gW (jw fs)).2,-1):=by
 unfold CW;have h0:=hn 0 (iy vs) rfl;have h1:=hn 1 ms rfl;have h2:=hn 2 cs rfl;rw[if_neg (by rw[h0];simp),if_neg (by rw[h1];simp),if_neg (by rw[h2];simp)]
abbrev akH:CT:={ ps:=[oW],pre:=λd=>d.1.1.length<=1000000/\d.1.2.1.length<=1000000/\d.1.2.2.1.length<=1000000/\d.1.2.2.2.1.length<=1000000,res:=λd=>([],.iJ [.c (.v (.int .i64 ((CW d.1.1 d.1.2.1 d.1.2.2.1 d.1.2.2.2.1).1))),.agg [.v (.int .i64 ((CW d.1.1 d.1.2.1 d.1.2.2.1 d.1.2.2.2.1).2.1)),.v (.int .i64 ((CW d.1.1 d.1.2.1 d.1.2.2.1 d.1.2.2.2.1).2.2))]]) }
abbrev akI(vs:List VD) (ms cs:List ByteArray) (fs:List FD) (ts:List SD):Nat->Option (St->jK):=λk=>match k with
 | 2=>some λ_=>.inv { α:=Nat,slots:=λk=>[(18,.c (.v (.int .i64 k)))],res:=λk=>[],inv:=λk=>k<=([iy vs,ms,cs]).length/\∀j < k,∀x,[iy vs,ms,cs][j]?=some x->(gW x).1=0,meas:=λk=>([iy vs,ms,cs]).length - k }
 | _=>none
abbrev Bv:=[v6 (-1),v6 (-1)]
theorem afF(vs:List VD) (ms cs:List ByteArray) (fs:List FD) (ts:List SD) (aG:akH.pre ((vs,ms,cs,fs,ts,()),())):
 let z3:=[iy vs,ms,cs];let z1:=[g0 (ak.blk 27 [SC.sl Hg vs,SC.sl Sh.str ms,SC.sl Sh.str cs,SC.sl Dw fs,SC.sl mO ts]),g0 (ak.blk 162 [v6 0,v6 0]),g0 ak.gone,g0 (ak.row 23 Sh.str.sl z3)];let z4:=CW vs ms cs fs;let z2:=[cI (z4.fst),SV.agg [v6 (z4.snd.fst),v6 (z4.snd.snd)]];vs.length<=1000000/\(∃x,(x<=z3.length/\∀(j:Nat),j < x->∀(x:List ByteArray),z3[j]?=some x->(gW x).fst=0)/\(cI 0=cI (x:Int)/\True)/\sm z1)/\∀(x:Nat),(x<=z3.length/\∀(j:Nat),j < x->∀(x:List ByteArray),z3[j]?=some x->(gW x).fst=0)->br (decide ((x:Int) < (z3.length:Int))) ((0<=(x:Int)/\(x:Int) < (z3.length:Int))/\(x:Int).toNat < z3.length/\∀(d:List ByteArray),z3[(x:Int).toNat]?=some d->d.length<=1000000/\br (!decide ((gW d).fst=0)) (rT z2 [cI ((gW d).fst),SV.agg Bv]) (iR ((x:Int)+(1:Int))/\∃x',(x'<=z3.length/\∀(j:Nat),j < x'->∀(x:List ByteArray),z3[j]?=some x->(gW x).fst=0)/\(cI ((x:Int)+(1:Int))=cI (x':Int)/\True)/\sm z1/\z3.length - x' < z3.length - x)) (fs.length<=1000000/\(jw fs).length<=1000000/\rT z2 [cI ((gW (jw fs)).fst),SV.agg [v6 ((gW (jw fs)).snd),v6 (-1)]]):=by
 conv=>zeta
 delta Bv v6 cI g0 rT sm I6 iR;obtain⟨hp1,hp2,hp3,hp4⟩:vs.length<=1000000/\ms.length<=1000000/\cs.length<=1000000/\fs.length<=1000000:=aG;refine⟨hp1,?_⟩;refine⟨⟨0,⟨by omega,λj hj=>by omega⟩,⟨rfl,trivial⟩,rfl⟩,λk hk=>ah.2 ⟨λh=>?_,λh=>?_⟩⟩
 .have h3:k < 3:=by simp at h;omega
  have h:k < [iy vs,ms,cs].length:=h3;have hN:(k:Int).toNat=k:=by omega
  rw[hN];refine⟨⟨by omega,by omega⟩,h,λd hd=>⟨?_,ah.2 ⟨λh2=>⟨rfl,?_⟩,λh2=>⟨ay.2 (by omega),k+1,⟨by omega,λj hj x hx=>?_⟩,⟨rfl,trivial⟩,rfl,by omega⟩⟩⟩⟩
  .have:d∈[iy vs,ms,cs]:=gZ hd;simp only[lU,List.not_mem_nil,or_false]at this;rcases this with rfl | rfl | rfl
   .simpa[iy]using hp1
   .exact hp2
   .exact hp3
  .rw[akG hd (by simpa using h2) hk.2]
  .by_cases iY:j=k
   .subst iY;rw[hd]at hx;cases hx;simpa using h2
   .exact hk.2 j (by omega) x hx
 .have h:¬k < [iy vs,ms,cs].length:=by
   have:¬k < 3:=by simp at h;omega
   exact this
  refine⟨hp4,by simpa[jw]using hp4,rfl,?_⟩
  rw[aof λj x hx=>hk.2 j (by have:=(A8.1 hx).1;omega) x hx]
theorem aaD:aU aS.gd 143 akH:=
 jW (cx:=aS) (n:=41) (cl:=[(183,Qv),(184,aaA),(185,Qw)]) au ⟨aau,aaB,aav,trivial⟩ Tryz.func143 λd hd=>by
  obtain⟨⟨vs,ms,cs,fs,ts,⟨⟩⟩,⟨⟩⟩:=d;exact⟨akI vs ms cs fs ts,cast (by kernel_rfl) (afF vs ms cs fs ts hd)⟩
def Ar(vs:List VD) (ms cs:List ByteArray) (fs:List FD):Int:=if 8 < vs.length\/4 < ms.length\/4 < cs.length\/8 < fs.length then 4 else if vs.all λv=>bU v.2.1 then 0 else 2
abbrev aog:CT:={ ps:=[oW],pre:=λd=>True,res:=λd=>([],.iJ [.c (.v (.int .i64 (Ar d.1.1 d.1.2.1 d.1.2.2.1 d.1.2.2.2.1))),.agg [.v (.int .i64 (-1)),.v (.int .i64 (-1))]]) }
abbrev akJ(vs:List VD) (ms cs:List ByteArray) (fs:List FD) (ts:List SD):Nat->Option (St->jK):=λk=>match k with
 | 5=>some λ_=>.inv { α:=Nat,slots:=λk=>[(34,.c (.v (.int .i64 k)))],res:=λk=>[],inv:=λk=>k<=(vs).length/\∀j < k,∀v,vs[j]?=some v->bU v.2.1=true,meas:=λk=>(vs).length - k }
 | _=>none
abbrev kq8:=[cI 0,SV.agg [v6 (-1),v6 (-1)]]
theorem afG(vs:List VD) (ms cs:List ByteArray) (fs:List FD) (ts:List SD):
 let z3:=[cI (Ar vs ms cs fs),SV.agg Bv];let z2:=λ(x:Nat)=>(x<=vs.length/\∀(j:Nat),j < x->∀(v:ByteArray×Int×Unit),vs[j]?=some v->bU v.snd.fst=true);let z1:=[g0 (ak.blk 27 [SC.sl Hg vs,SC.sl Sh.str ms,SC.sl Sh.str cs,SC.sl Dw fs,SC.sl mO ts]),g0 (ak.blk 162 [v6 0,v6 0]),g0 (ak.blk 162 Bv)];br (decide (8 < (vs.length:Int)) || decide (4 < (ms.length:Int)) || decide (4 < (cs.length:Int)) || decide (8 < (fs.length:Int))) (rT z3 [cI 4,SV.agg Bv]) ((∃x,(z2 x)/\(cI 0=cI (x:Int)/\True)/\sm z1)/\∀(x:Nat),(z2 x)->br (decide ((x:Int) < (vs.length:Int))) ((0<=(x:Int)/\(x:Int) < (vs.length:Int))/\∀(d:ByteArray×(I6.pair Sh.unit).den),vs[(x:Int).toNat]?=some d->True/\br (!bU (d.snd.fst,()).fst) (rT z3 [cI 2,SV.agg Bv]) (iR ((x:Int)+(1:Int))/\∃x',(z2 x')/\(cI ((x:Int)+(1:Int))=cI (x':Int)/\True)/\sm z1/\vs.length - x' < vs.length - x)) (rT z3 kq8)):=by
 conv=>zeta
 delta Bv kq8 v6 cI g0 rT sm I6 iR
 by_cases hc:8 < vs.length\/4 < ms.length\/4 < cs.length\/8 < fs.length
 .have e:Ar vs ms cs fs=4:=by unfold Ar;rw[if_pos hc]
  rw[e];refine ah.2 ⟨λ_=>⟨rfl,rfl⟩,λh=>?_⟩
  simp only[l7,eH]at h;omega
 refine ah.2 ⟨λh=>?_,λh=>⟨⟨0,⟨by omega,λj hj=>by omega⟩,⟨rfl,trivial⟩,rfl⟩,λk hk=>ah.2 ⟨λh2=>?_,λh2=>?_⟩⟩⟩
 .simp only[xk,dN]at h;omega
 .simp only[dN]at h2;have hN:(k:Int).toNat=k:=by omega
  rw[hN];refine⟨by omega,λd hd=>⟨trivial,ah.2 ⟨λh3=>⟨rfl,?_⟩,λh3=>⟨ay.2 (by omega),k+1,⟨by omega,λj hj v hv=>?_⟩,⟨rfl,trivial⟩,rfl,by omega⟩⟩⟩⟩
  .have h3:bU d.2.1=false:=by simpa using h3
   have e:Ar vs ms cs fs=2:=by
    unfold Ar;rw[if_neg hc,if_neg];intro hh;rw[Q9]at hh;have:=hh d (gZ hd);rw[h3]at this;cases this
   rw[e]
  .have h3:bU d.2.1=true:=by simpa using h3
   by_cases iY:j=k
   .subst iY;rw[hd]at hv;cases hv;exact h3
   .exact hk.2 j (by omega) v hv
 .simp only[eH]at h2;have e:Ar vs ms cs fs=0:=by
   unfold Ar;rw[if_neg hc,if_pos];rw[Q9];intro v hv;obtain⟨j,hj⟩:=Ai hv;exact hk.2 j (by have:=(A8.1 hj).1;omega) v hj
  rw[e];exact⟨rfl,rfl⟩
theorem aaE:aU aS.gd 144 aog:=
 jW (cx:=aS) (n:=45) (cl:=[(186,aas)]) au ⟨NP,trivial⟩ Tryz.func144 λd hd=>by
  obtain⟨⟨vs,ms,cs,fs,ts,⟨⟩⟩,⟨⟩⟩:=d;exact⟨akJ vs ms cs fs ts,cast (by kernel_rfl) (afG vs ms cs fs ts)⟩
def Dx(n:Nat) (t:SD):Int:=if t.1 < 0\/(n:Int)<=t.1 then 11 else if bU t.2.1 then 0 else 2
def Dy(fs:List FD) (ts:List SD):Int:=if ts.length < 1\/8 < ts.length then 4 else match ts.find? (λt=>decide (Dx fs.length t≠0)) with | some t=>Dx fs.length t | none=>0
theorem xZ{α:Type}{l:List α}{p:α->Bool}{d:α} (hd:l[k]?=some d) (hp:p d=true) (hn:∀j < k,∀t,l[j]?=some t->p t=false):l.find? p=some d:=by
 induction l generalizing k with
 | nil=>simp at hd
 | cons x l ih=>
   cases k with
   | zero=>simp at hd;subst hd;simp[hp]
   | succ k=>
     have h0:=hn 0 (by omega) x (by simp)
     rw[List.find?_cons,h0];exact ih (by simpa using hd) λj hj t ht=>hn (j+1) (by omega) t (by simpa using ht)
theorem Tf{α:Type}{l:List α}{p:α->Bool} (hn:∀(j:Nat) t,l[j]?=some t->p t=false):l.find? p=none:=by
 rw[WY];intro x hx;obtain⟨j,hj⟩:=Ai hx;rw[hn j x hj];simp
theorem zB{d:SD} (hc:¬(ts.length < 1\/8 < ts.length)) (hd:ts[k]?=some d) (h:Dx fs.length d≠0) (hn:∀j < k,∀t,ts[j]?=some t->Dx fs.length t=0):Dy fs ts=Dx fs.length d:=by
 unfold Dy;rw[if_neg hc,xZ hd (by simpa using h) λj hj t ht=>by simpa using hn j hj t ht]
theorem Ti(hc:¬(ts.length < 1\/8 < ts.length)) (hn:∀(j:Nat) t,ts[j]?=some t->Dx fs.length t=0):Dy fs ts=0:=by
 unfold Dy;rw[if_neg hc,Tf λj t ht=>by simpa using hn j t ht]
abbrev aoi:CT:={ ps:=[oW],pre:=λd=>True,res:=λd=>([],.iJ [.c (.v (.int .i64 (Dy d.1.2.2.2.1 d.1.2.2.2.2.1))),.agg [.v (.int .i64 (-1)),.v (.int .i64 (-1))]]) }
abbrev akK(vs:List VD) (ms cs:List ByteArray) (fs:List FD) (ts:List SD):Nat->Option (St->jK):=λk=>match k with
 | 5=>some λ_=>.inv { α:=Nat,slots:=λk=>[(22,.c (.v (.int .i64 k)))],res:=λk=>[],inv:=λk=>k<=(ts).length/\∀j < k,∀t,ts[j]?=some t->Dx fs.length t=0,meas:=λk=>(ts).length - k }
 | _=>none
theorem afH(vs:List VD) (ms cs:List ByteArray) (fs:List FD) (ts:List SD):
 let z3:=[cI (Dy fs ts),SV.agg Bv];let z2:=λ(x:Nat)=>(x<=ts.length/\∀(j:Nat),j < x->∀(t:Int×Int×Unit),ts[j]?=some t->Dx fs.length t=0);let z1:=[g0 (ak.blk 27 [SC.sl Hg vs,SC.sl Sh.str ms,SC.sl Sh.str cs,SC.sl Dw fs,SC.sl mO ts]),g0 (ak.blk 162 [v6 0,v6 0]),g0 (ak.blk 162 Bv)];br (decide ((ts.length:Int) < (1:Int)) || decide (8 < (ts.length:Int))) (rT z3 [cI 4,SV.agg Bv]) ((∃x,(z2 x)/\(cI 0=cI (x:Int)/\True)/\sm z1)/\∀(x:Nat),(z2 x)->br (decide ((x:Int) < (ts.length:Int))) ((0<=(x:Int)/\(x:Int) < (ts.length:Int))/\∀(d:Int×(I6.pair Sh.unit).den),ts[(x:Int).toNat]?=some d->br (decide (d.fst < 0) || decide ((fs.length:Int)<=d.fst)) (rT z3 [cI 11,SV.agg Bv]) (True/\br (!bU (d.snd.fst,()).fst) (rT z3 [cI 2,SV.agg Bv]) (iR ((x:Int)+(1:Int))/\∃x',(z2 x')/\(cI ((x:Int)+(1:Int))=cI (x':Int)/\True)/\sm z1/\ts.length - x' < ts.length - x))) (rT z3 kq8)):=by
 conv=>zeta
 delta Bv kq8 v6 cI g0 rT sm I6 iR
 by_cases hc:ts.length < 1\/8 < ts.length
 .have e:Dy fs ts=4:=by unfold Dy;rw[if_pos hc]
  rw[e];refine ah.2 ⟨λ_=>⟨rfl,rfl⟩,λh=>?_⟩
  simp only[l7,eH]at h;omega
 refine ah.2 ⟨λh=>?_,λh=>⟨⟨0,⟨by omega,λj hj=>by omega⟩,⟨rfl,trivial⟩,rfl⟩,λk hk=>ah.2 ⟨λh2=>?_,λh2=>?_⟩⟩⟩
 .simp only[xk,dN]at h;omega
 .simp only[dN]at h2;have hN:(k:Int).toNat=k:=by omega
  rw[hN];refine⟨by omega,λd hd=>ah.2 ⟨λh3=>⟨rfl,?_⟩,λh3=>⟨trivial,ah.2 ⟨λh4=>⟨rfl,?_⟩,λh4=>⟨ay.2 (by omega),k+1,⟨by omega,λj hj v hv=>?_⟩,⟨rfl,trivial⟩,rfl,by omega⟩⟩⟩⟩⟩
  .have h3:d.1 < 0\/(fs.length:Int)<=d.1:=by simpa using h3
   have e:Dx fs.length d=11:=by unfold Dx;rw[if_pos h3]
   rw[zB hc hd (by rw[e];simp) hk.2,e]
  .have h3:¬(d.1 < 0\/(fs.length:Int)<=d.1):=by simpa using h3
   have h4:bU d.2.1=false:=by simpa using h4
   have e:Dx fs.length d=2:=by unfold Dx;rw[if_neg h3,if_neg (by rw[h4];simp)]
   rw[zB hc hd (by rw[e];simp) hk.2,e]
  .have h3:¬(d.1 < 0\/(fs.length:Int)<=d.1):=by simpa using h3
   have h4:bU d.2.1=true:=by simpa using h4
   by_cases iY:j=k
   .subst iY;rw[hd]at hv;cases hv;unfold Dx;rw[if_neg h3,if_pos h4]
   .exact hk.2 j (by omega) v hv
 .simp only[eH]at h2;rw[Ti hc λj t hj=>hk.2 j (by have:=(A8.1 hj).1;omega) t hj];exact⟨rfl,rfl⟩
theorem aaF:aU aS.gd 146 aoi:=
 jW (cx:=aS) (n:=45) (cl:=[(186,aas)]) au ⟨NP,trivial⟩ Tryz.func146 λd hd=>by
  obtain⟨⟨vs,ms,cs,fs,ts,⟨⟩⟩,⟨⟩⟩:=d;exact⟨akK vs ms cs fs ts,cast (by kernel_rfl) (afH vs ms cs fs ts)⟩
abbrev aaG:CT:={ ps:=[Dw],pre:=λd=>True,res:=λd=>([],vB (decide (64 < d.1.2.1.length))) }
theorem afI(nm:ByteArray) (l:List ID):
 qB (decide (64 < l.length)) (decide (64 < (l.length:Int))):=by
 delta qB;refine⟨rfl,?_⟩
 congr 4
 rw[Gy];simp only[dN];omega
theorem aaH:aU aS.gd 188 aaG:=
 jW (cx:=aS) (n:=7) (cl:=[]) au trivial Tryz.func188 λd hd=>by
  obtain⟨⟨nm,l,⟨⟩⟩,⟨⟩⟩:=d;exact⟨λ_=>none,cast (by kernel_rfl) (afI nm l)⟩
def dJ(fs:List FD):Int:=match fs.findIdx? (λf=>decide (64 < f.2.1.length)) with | some k=>(k:Int) | none=>-1
theorem FN{d:FD} (hd:fs[k]?=some d) (h2:64 < d.2.1.length) (hn:∀j < k,∀f,fs[j]?=some f->f.2.1.length<=64):dJ fs=k:=by
 have gX:k < fs.length:=(A8.1 hd).1;have:fs.findIdx? (λf=>decide (64 < f.2.1.length))=some k:=by
  rw[A52];refine⟨gX,by rw[(A8.1 hd).2];simpa using h2,λj hj=>?_⟩
  have:=hn j hj fs[j] (kQ (by omega))
  simpa using this
 simp[dJ,this]
theorem Bz(hn:∀(j:Nat) f,fs[j]?=some f->f.2.1.length<=64):dJ fs = -1:=by
 have:fs.findIdx? (λf=>decide (64 < f.2.1.length))=none:=by
  rw[A75];intro y hy;obtain⟨j,hj⟩:=Ai hy;simpa using hn j y hj
 simp[dJ,this]
abbrev Ky:CT:={ ps:=[.sl Dw],pre:=λd=>d.1.length<=1000000,res:=λd=>([],.one (.c (.v (.int .i64 (dJ d.1))))) }
abbrev akL(fs:List FD):Nat->Option (St->jK):=λk=>match k with
 | 2=>some λ_=>.inv { α:=Nat,slots:=λk=>[(8,.c (.v (.int .i64 k)))],res:=λk=>[],inv:=λk=>k<=(fs).length/\∀j < k,∀f,fs[j]?=some f->f.2.1.length<=64,meas:=λk=>(fs).length - k }
 | _=>none
theorem afJ(fs:List FD) (aG:Ky.pre (fs,())):
 let z1:=λ(x:Nat)=>(x<=fs.length/\∀(j:Nat),j < x->∀(f:ByteArray×List ID×Unit),fs[j]?=some f->f.snd.fst.length<=64);(∃x,(z1 x)/\(cI 0=cI (x:Int)/\True)/\([]:List dP)=[])/\∀(x:Nat),(z1 x)->br (decide ((x:Int) < (fs.length:Int))) ((0<=(x:Int)/\(x:Int) < (fs.length:Int))/\∀(d:ByteArray×(lY.sl.pair Sh.unit).den),fs[(x:Int).toNat]?=some d->True/\br (decide (64 < List.length (d.snd.fst,()).fst)) (qI (dJ fs) (x:Int)) (iR ((x:Int)+(1:Int))/\∃x',(z1 x')/\(cI ((x:Int)+(1:Int))=cI (x':Int)/\True)/\([]:List dP)=[]/\fs.length - x' < fs.length - x)) (qI (dJ fs) (-1:Int)):=by
 conv=>zeta
 delta dP cI qI I6 iR;have hp:fs.length<=1000000:=aG;refine⟨⟨0,⟨by omega,λj hj=>by omega⟩,⟨rfl,trivial⟩,rfl⟩,λk hk=>ah.2 ⟨λh=>?_,λh=>?_⟩⟩
 .simp only[dN]at h;have hN:(k:Int).toNat=k:=by omega
  rw[hN];refine⟨by omega,λd hd=>⟨trivial,ah.2 ⟨λh2=>⟨rfl,?_⟩,λh2=>⟨ay.2 (by omega),k+1,⟨by omega,λj hj f hf=>?_⟩,⟨rfl,trivial⟩,rfl,by omega⟩⟩⟩⟩
  .have h2:64 < d.2.1.length:=by simpa using h2
   rw[FN hd h2 hk.2]
  .have h2:¬64 < d.2.1.length:=by simpa using h2
   by_cases iY:j=k
   .subst iY;rw[hd]at hf;cases hf;omega
   .exact hk.2 j (by omega) f hf
 .simp only[eH]at h;rw[Bz λj f hf=>hk.2 j (by have:=(A8.1 hf).1;omega) f hf];exact⟨rfl,rfl⟩
theorem Wn:J7 Tryz.prog aS.gd 187 [.func (.func 188) #[] #[]] Ky:=
 (nZ (cx:=aS) (n:=19) (cl:=[(188,aaG)]) (il:=ilN) (hl:=hlN) (ml:=mlN) (rc:=[]) (lits:=[]) (suf:=[.func (.func 188) #[] #[]]) (by kernel_rfl) au ⟨aaH,trivial⟩ trivial trivial trivial Tryz.func187 (by kernel_rfl) (by kernel_rfl) rfl (by kernel_rfl) (by kernel_rfl) (by simp) λd hd=>by
  obtain⟨fs,⟨⟩⟩:=d;exact⟨akL fs,cast (by kernel_rfl) (afJ fs hd)⟩)
def Kz(vs:List VD) (ms cs:List ByteArray) (fs:List FD) (d:cO [mO,lY]):Int:=vY vs ms cs fs d.2.1 (((fs.getD d.1.1.toNat (⟨#[]⟩,[],())).2.1.length:Nat):Int)
def FP(vs:List VD) (ms cs:List ByteArray) (fs:List FD):Int×Int×Int:=match(dM fs).find? (λd=>decide (d.1.1=dJ fs) || decide (Kz vs ms cs fs d≠0)) with
 | some d=>if d.1.1=dJ fs then(4,dJ fs,-1) else(Kz vs ms cs fs d,d.1.1,d.1.2.1)
 | none=>if 0<=dJ fs then(4,dJ fs,-1) else(0,-1,-1)
theorem Tj{e:FD} (he:fs[d.1.1.toNat]?=some e):Kz vs ms cs fs d=vY vs ms cs fs d.2.1 (e.2.1.length:Int):=by
 unfold Kz;rw[Jf,he];rfl
theorem vZ:∀(l:List FD) (n:Nat){d:cO [mO,lY]},d∈jP n l->∃(k:Nat) (x:FD) (j:Nat) (e:ID),l[k]?=some x/\x.2.1[j]?=some e/\d=((((n+k:Nat):Int),(j:Int),()),e,())
 | [],n,d,h=>by simp[jP]at h
 | x :: l,n,d,h=>by
   simp only[jP,CX]at h;rcases h with h | h
   .unfold qj at h;obtain⟨p,hp,rfl⟩:=Jl.1 h;have:=List.mk_mem_zipIdx_iff_getElem?.1 (show(p.1,p.2)∈x.2.1.zipIdx from hp)
    exact⟨0,x,p.2,p.1,rfl,this,rfl⟩
   .obtain⟨k,y,j,e,h1,h2,rfl⟩:=vZ l (n+1) h;exact⟨k+1,y,j,e,by simpa using h1,h2,by rw[show n+1+k=n+(k+1) by omega]⟩
theorem NS{i:Nat} (hd:(dM fs)[i]?=some d):0<=d.1.1/\d.1.1 < fs.length:=by
 obtain⟨k,x,j,e,h1,h2,rfl⟩:=vZ fs 0 (gZ hd);have:=(A8.1 h1).1;show 0<=((0+k:Nat):Int)/\((0+k:Nat):Int) < _;omega
theorem Tn{i:Nat} (hd:(dM fs)[i]?=some d) (hb:d.1.1=dJ fs\/Kz vs ms cs fs d≠0)
 (hn:∀j < i,∀d,(dM fs)[j]?=some d->d.1.1≠dJ fs/\Kz vs ms cs fs d=0):FP vs ms cs fs=if d.1.1=dJ fs then(4,dJ fs,-1) else(Kz vs ms cs fs d,d.1.1,d.1.2.1):=by
 unfold FP;rw[xZ hd (by simpa using hb) λj hj t ht=>by obtain⟨a,b⟩:=hn j hj t ht;simp[a,b]]
theorem QA(hn:∀(j:Nat) d,(dM fs)[j]?=some d->d.1.1≠dJ fs/\Kz vs ms cs fs d=0):FP vs ms cs fs=if 0<=dJ fs then(4,dJ fs,-1) else(0,-1,-1):=by
 unfold FP;rw[Tf λj t ht=>by obtain⟨a,b⟩:=hn j t ht;simp[a,b]]
abbrev akM:CT:={ ps:=[oW],pre:=λd=>d.1.2.2.2.1.length<=1000000/\∀x∈d.1.2.2.2.1,x.2.1.length<=1000000,res:=λd=>([],.iJ [.c (.v (.int .i64 ((FP d.1.1 d.1.2.1 d.1.2.2.1 d.1.2.2.2.1).1))),.agg [.v (.int .i64 ((FP d.1.1 d.1.2.1 d.1.2.2.1 d.1.2.2.2.1).2.1)),.v (.int .i64 ((FP d.1.1 d.1.2.1 d.1.2.2.1 d.1.2.2.2.1).2.2))]]) }
abbrev akN(vs:List VD) (ms cs:List ByteArray) (fs:List FD) (ts:List SD):Nat->Option (St->jK):=λk=>match k with
 | 5=>some λ_=>.rng { α:=Nat,res:=λ_=>[],inv:=λi n=>n=i/\∀j < n,∀d,(dM fs)[j]?=some d->d.1.1≠dJ fs/\Kz vs ms cs fs d=0 }
 | _=>none
abbrev aoj:List (Nat×Nat×CT):=[(187,188,Ky)]
theorem afK(vs:List VD) (ms cs:List ByteArray) (fs:List FD) (ts:List SD) (aG:akM.pre ((vs,ms,cs,fs,ts,()),())):
 let z5:=[g0 (ak.blk 27 [SC.sl Hg vs,SC.sl Sh.str ms,SC.sl Sh.str cs,SC.sl Dw fs,SC.sl mO ts]),g0 (ak.blk 38 [v6 0]),g0 (ak.blk 162 [v6 0,v6 0]),g0 (ak.blk 3 [v6 (dJ fs)])];let z11:=FP vs ms cs fs;let z9:=[cI (z11.fst),SV.agg [v6 (z11.snd.fst),v6 (z11.snd.snd)]];let z10:=[cI 4,SV.agg [v6 (dJ fs),v6 (-1)]];let z3:=((rT z9 z10)/\rT z9 z10)/\rT z9 z10;let z8:=rT z9 kq8;let z4:=λ(d:mO.den×cO [I6.pair (I6.pair (I6.pair (I6.pair (I6.pair (I6.pair mO)))))])=>(d.snd.fst.fst,d.snd.fst.snd.fst,d.snd.fst.snd.snd.fst,d.snd.fst.snd.snd.snd.fst,d.snd.fst.snd.snd.snd.snd.fst,d.snd.fst.snd.snd.snd.snd.snd.fst,d.snd.fst.snd.snd.snd.snd.snd.snd.fst,d.snd.fst.snd.snd.snd.snd.snd.snd.snd.fst,());let z6:=λ(d:mO.den×cO [I6.pair (I6.pair (I6.pair (I6.pair (I6.pair (I6.pair mO)))))])=>(d.snd.fst.snd.snd.snd.snd.fst,d.snd.fst.snd.snd.snd.snd.snd.fst,d.snd.fst.snd.snd.snd.snd.snd.snd.fst,d.snd.fst.snd.snd.snd.snd.snd.snd.snd.fst,());let z7:=λ(d:mO.den×cO [I6.pair (I6.pair (I6.pair (I6.pair (I6.pair (I6.pair mO)))))])=>(d.snd.fst.snd.snd.snd.snd.snd.fst,d.snd.fst.snd.snd.snd.snd.snd.snd.fst,d.snd.fst.snd.snd.snd.snd.snd.snd.snd.fst,());let z2:=λ(d:mO.den×cO [I6.pair (I6.pair (I6.pair (I6.pair (I6.pair (I6.pair mO)))))])=>qC (z4 d).fst (d.snd.fst.snd.fst,d.snd.fst.snd.snd.fst,d.snd.fst.snd.snd.snd.fst,d.snd.fst.snd.snd.snd.snd.fst,d.snd.fst.snd.snd.snd.snd.snd.fst,d.snd.fst.snd.snd.snd.snd.snd.snd.fst,d.snd.fst.snd.snd.snd.snd.snd.snd.snd.fst,()).fst (d.snd.fst.snd.snd.fst,d.snd.fst.snd.snd.snd.fst,d.snd.fst.snd.snd.snd.snd.fst,d.snd.fst.snd.snd.snd.snd.snd.fst,d.snd.fst.snd.snd.snd.snd.snd.snd.fst,d.snd.fst.snd.snd.snd.snd.snd.snd.snd.fst,()).fst (d.snd.fst.snd.snd.snd.fst,d.snd.fst.snd.snd.snd.snd.fst,d.snd.fst.snd.snd.snd.snd.snd.fst,d.snd.fst.snd.snd.snd.snd.snd.snd.fst,d.snd.fst.snd.snd.snd.snd.snd.snd.snd.fst,()).fst (z6 d).fst (z7 d).fst (d.snd.fst.snd.snd.snd.snd.snd.snd.fst,d.snd.fst.snd.snd.snd.snd.snd.snd.snd.fst,()).fst (d.snd.fst.snd.snd.snd.snd.snd.snd.snd.fst,()).fst;let z1:=λ(d:mO.den×cO [I6.pair (I6.pair (I6.pair (I6.pair (I6.pair (I6.pair mO)))))]) (bJ:ByteArray×(lY.sl.pair Sh.unit).den)=>[cI (ciS vs ms cs fs (z2 d) (z4 d).fst (z6 d).fst (z7 d).fst ((List.length bJ.snd.fst):Int)),SV.agg [v6 d.fst.fst,v6 d.fst.snd.fst]];fs.length<=1000000/\(fs.length<=1000000/\∀(x:ByteArray×(lY.sl.pair Sh.unit).den),x∈fs->List.length x.snd.fst<=1000000)/\some Tryz.prog=some Tryz.prog/\(∃x,(x=0/\∀(j:Nat),j < x->∀(d:mO.den×cO [I6.pair (I6.pair (I6.pair (I6.pair (I6.pair (I6.pair mO)))))]),(dM fs)[j]?=some d->d.fst.fst≠dJ fs/\Kz vs ms cs fs d=0)/\sm z5)/\(∀(i x:Nat) (d:mO.den×cO [I6.pair (I6.pair (I6.pair (I6.pair (I6.pair (I6.pair mO)))))]),(x=i/\∀(j:Nat),j < x->∀(d:mO.den×cO [I6.pair (I6.pair (I6.pair (I6.pair (I6.pair (I6.pair mO)))))]),(dM fs)[j]?=some d->d.fst.fst≠dJ fs/\Kz vs ms cs fs d=0)->(dM fs)[i]?=some d->br (decide (d.fst.fst=dJ fs)) (br (decide (0<=dJ fs)) z3 z8) ((0<=d.fst.fst/\d.fst.fst < (fs.length:Int))/\∀(bJ:ByteArray×(lY.sl.pair Sh.unit).den),fs[Int.toNat d.fst.fst]?=some bJ->True/\br (!decide (ciS vs ms cs fs (z2 d) (z4 d).fst (z6 d).fst (z7 d).fst ((List.length bJ.snd.fst):Int)=(0:Int))) ((rT z9 (z1 d bJ))/\rT z9 (z1 d bJ)) (∃x',(x'=i+1/\∀(j:Nat),j < x'->∀(d:mO.den×cO [I6.pair (I6.pair (I6.pair (I6.pair (I6.pair (I6.pair mO)))))]),(dM fs)[j]?=some d->d.fst.fst≠dJ fs/\Kz vs ms cs fs d=0)/\sm z5)))/\∀(x:Nat),(x=aN (dM fs)/\∀(j:Nat),j < x->∀(d:mO.den×cO [I6.pair (I6.pair (I6.pair (I6.pair (I6.pair (I6.pair mO)))))]),(dM fs)[j]?=some d->d.fst.fst≠dJ fs/\Kz vs ms cs fs d=0)->br (decide (0<=dJ fs)) z3 z8:=by
 conv=>zeta
 delta v6 cI g0 rT sm I6;refine⟨aG.1,aG,rfl,⟨0,⟨rfl,λj hj=>by omega⟩,rfl⟩,λi x d hi hd=>?_,λx hx=>?_⟩
 .obtain⟨rfl,hi⟩:=hi;refine ah.2 ⟨λh=>?_,λh=>?_⟩
  .have h:d.1.1=dJ fs:=by simpa using h
   obtain⟨hb1,hb2⟩:=NS hd;have hl:(0:Int)<=dJ fs:=by rw[<-h];exact hb1
   rw[Tn hd (.inl h) hi,if_pos h];exact ah.2 ⟨λ_=>⟨⟨⟨rfl,rfl⟩,rfl,rfl⟩,rfl,rfl⟩,λhh=>absurd hl (A92 hh)⟩
  .have h:¬d.1.1=dJ fs:=by simpa using h
   obtain⟨hb1,hb2⟩:=NS hd;refine⟨⟨hb1,hb2⟩,λe he=>⟨trivial,ah.2 ⟨λh2=>?_,λh2=>⟨x+1,⟨rfl,λj hj d' hd'=>?_⟩,rfl⟩⟩⟩⟩
   .have h2:Kz vs ms cs fs d≠0:=by rw[Tj he];simpa using h2
    rw[Tn hd (.inr h2) hi,if_neg h,Tj he];exact⟨⟨rfl,rfl⟩,rfl,rfl⟩
   .by_cases hji:j=x
    .subst hji;rw[hd]at hd';cases hd';exact⟨h,by rw[Tj he];simpa using h2⟩
    .exact hi j (by omega) d' hd'
 .obtain⟨rfl,hx⟩:=hx;refine ah.2 ⟨λh=>?_,λh=>?_⟩
  .have h:(0:Int)<=dJ fs:=by simpa using h
   rw[QA λj d hd=>hx j (by rw[bF];exact(A8.1 hd).1) d hd,if_pos h]
   exact⟨⟨⟨rfl,rfl⟩,rfl,rfl⟩,rfl,rfl⟩
  .have h:¬(0:Int)<=dJ fs:=by simpa using h
   rw[QA λj d hd=>hx j (by rw[bF];exact(A8.1 hd).1) d hd,if_neg h]
   exact⟨rfl,rfl⟩
theorem aaI:aU aS.gd 145 akM:=
 (nZ (cx:=aS) (n:=39) (cl:=[(189,Kv),(190,aoe)]) (il:=ilN) (hl:=aoj) (ml:=mlN) (rc:=[]) (lits:=[]) (suf:=[]) (by kernel_rfl) au ⟨aaq,aaC,trivial⟩ trivial ⟨Wn,trivial⟩ trivial Tryz.func145 (by kernel_rfl) (by kernel_rfl) rfl (by kernel_rfl) (by kernel_rfl) (by simp) λd hd=>by
  obtain⟨⟨vs,ms,cs,fs,ts,⟨⟩⟩,⟨⟩⟩:=d;exact⟨akN vs ms cs fs ts,cast (by kernel_rfl) (afK vs ms cs fs ts hd)⟩).met
abbrev bnd(d:cO [oW]):Prop:=d.1.1.length<=1000000/\d.1.2.1.length<=1000000/\d.1.2.2.1.length<=1000000/\d.1.2.2.2.1.length<=1000000/\d.1.2.2.2.2.1.length<=1000000/\(∀x∈d.1.2.2.2.1,x.2.1.length<=1000000)/\(dM d.1.2.2.2.1).length<=1000000
def aC(vs:List VD) (ms cs:List ByteArray) (fs:List FD) (ts:List SD):Int×Int×Int:=
 if(CW vs ms cs fs).1≠0 then CW vs ms cs fs else if Ar vs ms cs fs≠0 then(Ar vs ms cs fs,-1,-1) else if(FP vs ms cs fs).1≠0 then FP vs ms cs fs else if Dy fs ts≠0 then(Dy fs ts,-1,-1) else(0,-1,-1)
abbrev IU:CT:={ ps:=[oW],pre:=λd=>bnd d,res:=λd=>([],.iJ [.c (.v (.int .i64 (aC d.1.1 d.1.2.1 d.1.2.2.1 d.1.2.2.2.1 d.1.2.2.2.2.1).1)),.c (.v (.int .i64 (aC d.1.1 d.1.2.1 d.1.2.2.1 d.1.2.2.2.1 d.1.2.2.2.2.1).2.1)),.c (.v (.int .i64 (aC d.1.1 d.1.2.1 d.1.2.2.1 d.1.2.2.2.1 d.1.2.2.2.2.1).2.2))]) }
theorem akO(vs:List VD) (ms cs:List ByteArray) (fs:List FD) (ts:List SD) (aG:IU.pre ((vs,ms,cs,fs,ts,()),())):
 let z10:=CW vs ms cs fs;let z7:=z10.fst=0;let z5:=decide z7;let z6:=decide (Ar vs ms cs fs=0);let z11:=FP vs ms cs fs;let z8:=z11.fst=0;let z9:=aC vs ms cs fs ts;let z4:=[cI (z9.fst),cI (z9.snd.fst),cI (z9.snd.snd)];let z3:=rT z4 [cI 0,cI (-1),cI (-1)];let z2:=True/\br (!decide (Dy fs ts=0)) (rT z4 [cI (Dy fs ts),cI (-1),cI (-1)]) z3;let z1:=(fs.length<=1000000/\∀(x:ByteArray×(lY.sl.pair Sh.unit).den),x∈fs->List.length x.snd.fst<=1000000)/\br (decide z8) z2 (br (!decide z8) (rT z4 [cI (z11.fst),cI (z11.snd.fst),cI (z11.snd.snd)]) z3);(vs.length<=1000000/\ms.length<=1000000/\cs.length<=1000000/\fs.length<=1000000)/\br z5 (True/\br z6 z1 (br z6 z2 (br (!decide (Ar vs ms cs fs=0)) (rT z4 [cI (Ar vs ms cs fs),cI (-1),cI (-1)]) z3))) (br z5 z1 (br z5 z2 (br (!decide z7) (rT z4 [cI (z10.fst),cI (z10.snd.fst),cI (z10.snd.snd)]) z3))):=by
 conv=>zeta
 delta cI rT I6;obtain⟨h1,h2,h3,h4,h5,h6,h7⟩:bnd ((vs,ms,cs,fs,ts,()),()):=aG;have hA:∀x∈fs,x.2.1.length<=1000000:=h6;have hB:fs.length<=1000000/\∀x∈fs,x.2.1.length<=1000000:=⟨h4,h6⟩;have hC:vs.length<=1000000/\ms.length<=1000000/\cs.length<=1000000/\fs.length<=1000000:=⟨h1,h2,h3,h4⟩;clear h1 h2 h3 h4 h5 h6 h7 hA;unfold aC;simp only[ah]
 repeat' (first | exact hB | exact hC | (refine And.intro ?_ ?_) | (intro _))
 all_goals first | trivial | rfl | (clear hB hC;simp_all;done)
theorem Dz:aU aS.gd 74 IU:=
 jW (cx:=aS) (n:=40) (cl:=[(143,akH),(144,aog),(145,akM),(146,aoi)]) au ⟨aaD,aaE,aaI,aaF,trivial⟩ Tryz.func74 λd hd=>by
  obtain⟨⟨vs,ms,cs,fs,ts,⟨⟩⟩,⟨⟩⟩:=d;exact⟨λ_=>none,cast (by kernel_rfl) (akO vs ms cs fs ts hd)⟩
abbrev aaJ:CT:={ ps:=[oW],pre:=λd=>bnd d,res:=λd=>([],vB (decide ((aC d.1.1 d.1.2.1 d.1.2.2.1 d.1.2.2.2.1 d.1.2.2.2.2.1).1=0))) }
theorem aaK{hi:Int}:∀(l:List Int) (lo:Int),SS l->(∀x∈l,lo<=x/\x < hi)->lo<=hi->(l.length:Int)<=hi - lo
 | [],lo,_,_,h=>by simp;omega
 | x :: l,lo,hs,hb,h=>by
   obtain⟨h1,h2⟩:=WL.1 hs;obtain⟨b1,b2⟩:=hb x (by simp)
   have:=aaK l (x+1) h2 (λy hy=>⟨by have:=h1 y hy;omega,(hb y (by simp[hy])).2⟩) (by omega)
   simp only[sV];omega
theorem aaL{n:Nat} (hs:SS l) (hb:∀x∈l,0<=x/\x < (n:Int)):l.length<=n:=by
 have:=aaK l 0 hs hb (by omega)
 omega
theorem lQ(h:(aC vs ms cs fs ts).1=0):Ar vs ms cs fs=0/\(FP vs ms cs fs).1=0/\Dy fs ts=0:=by
 unfold aC at h;split at h
 .rename_i h1;exact absurd h h1
 .split at h
  .rename_i h1;exact absurd h h1
  .split at h
   .rename_i h1;exact absurd h h1
   .split at h
    .rename_i h1;exact absurd h h1
    .rename_i h1 h2 h3 h4;exact⟨by omega,by omega,by omega⟩
theorem akP(h:(FP vs ms cs fs).1=0):∀d∈dM fs,Kz vs ms cs fs d=0:=by
 unfold FP at h;split at h
 .rename_i d hd;have hp:=Lu hd;split at h
  .cases h
  .rename_i h1;simp only[xk,dN]at hp;rcases hp with hp | hp
   .exact absurd hp h1
   .exact absurd h hp
 .rename_i hd;intro d hm;have:=WY.1 hd d hm;simp only[xk,dN,not_or]at this;omega
theorem aP{α:Type 1}{Q:α->Prop}{V:Prop} (a:α) (v:V) (h:V=Q a):∃a,Q a:=⟨a,cast h v⟩
def Tq(vs:List VD) (ms cs:List ByteArray) (fs:List FD) (ts:List SD):Bool:=decide (vs.length<=20/\ms.length<=20/\cs.length<=20/\fs.length<=20/\ts.length<=20) && fs.all λf=>decide (f.2.1.length<=100)
abbrev aok:CT:={ ps:=[oW],pre:=λd=>True,res:=λd=>([],vB (Tq d.1.1 d.1.2.1 d.1.2.2.1 d.1.2.2.2.1 d.1.2.2.2.2.1)) }
abbrev aol(vs:List VD) (ms cs:List ByteArray) (fs:List FD) (ts:List SD):Nat->Option (St->jK):=λk=>match k with
 | 4=>some λ_=>.inv { α:=Nat,slots:=λk=>[(3,.c (.v (.int .i64 k)))],res:=λk=>[],inv:=λk=>k<=(fs).length/\∀j < k,∀f,fs[j]?=some f->f.2.1.length<=100,meas:=λk=>(fs).length - k }
 | _=>none
theorem akQ(vs:List VD) (ms cs:List ByteArray) (fs:List FD) (ts:List SD):
 let z3:=qB (Tq vs ms cs fs ts) false;let z1:=λ(x:Nat)=>(x<=fs.length/\∀(j:Nat),j < x->∀(f:ByteArray×List ID×Unit),fs[j]?=some f->f.snd.fst.length<=100);let z2:=[g0 (ak.blk 27 [SC.sl Hg vs,SC.sl Sh.str ms,SC.sl Sh.str cs,SC.sl Dw fs,SC.sl mO ts])];br (decide (20 < (vs.length:Int)) || decide (20 < (ms.length:Int)) || decide (20 < (cs.length:Int)) || decide (20 < (fs.length:Int)) || decide (20 < (ts.length:Int))) z3 ((∃x,(z1 x)/\(cI 0=cI (x:Int)/\True)/\sm z2)/\∀(x:Nat),(z1 x)->br (decide ((x:Int) < (fs.length:Int))) ((0<=(x:Int)/\(x:Int) < (fs.length:Int))/\∀(d:ByteArray×(lY.sl.pair Sh.unit).den),fs[(x:Int).toNat]?=some d->br (decide (100 < ((List.length d.snd.fst):Int))) z3 (iR ((x:Int)+(1:Int))/\∃x',(z1 x')/\(cI ((x:Int)+(1:Int))=cI (x':Int)/\True)/\sm z2/\fs.length - x' < fs.length - x)) (qB (Tq vs ms cs fs ts) true)):=by
 conv=>zeta
 delta cI g0 qB sm I6 iR
 by_cases hc:¬(vs.length<=20/\ms.length<=20/\cs.length<=20/\fs.length<=20/\ts.length<=20)
 .have e:Tq vs ms cs fs ts=false:=by unfold Tq;rw[Aw hc];rfl
  rw[e];refine ah.2 ⟨λ_=>⟨rfl,rfl⟩,λh=>?_⟩
  simp only[l7,eH]at h;omega
 have hc:=Gw.1 hc;refine ah.2 ⟨λh=>?_,λ_=>?_⟩
 .simp only[xk,dN]at h;omega
 refine⟨⟨0,⟨by omega,λj hj=>by omega⟩,⟨rfl,trivial⟩,rfl⟩,λk hk=>ah.2 ⟨λh=>?_,λh=>?_⟩⟩
 .simp only[dN]at h;have hN:(k:Int).toNat=k:=by omega
  rw[hN];refine⟨by omega,λd hd=>ah.2 ⟨λh2=>⟨rfl,?_⟩,λh2=>⟨ay.2 (by omega),k+1,⟨by omega,λj hj f hf=>?_⟩,⟨rfl,trivial⟩,rfl,by omega⟩⟩⟩
  .have h2:¬d.2.1.length<=100:=by simp only[dN]at h2;omega
   have e:Tq vs ms cs fs ts=false:=by
    unfold Tq;rw[show(fs.all λf=>decide (f.2.1.length<=100))=false from List.all_eq_false.2 ⟨d,gZ hd,by simpa using h2⟩,Bool.and_false]
   rw[e]
  .by_cases iY:j=k
   .subst iY;rw[hd]at hf;cases hf;simp only[eH]at h2;omega
   .exact hk.2 j (by omega) f hf
 .simp only[eH]at h;have e:Tq vs ms cs fs ts=true:=by
   unfold Tq;rw[xq hc,Hy,Q9];intro f hf;obtain⟨j,hj⟩:=Ai hf;simpa using hk.2 j (by have:=(A8.1 hj).1;omega) f hj
  rw[e];exact⟨rfl,rfl⟩
theorem afL:aU aS.gd 10 aok:=
 jW (cx:=aS) (n:=47) (cl:=[]) au trivial Tryz.func10 λd hd=>by
  obtain⟨⟨vs,ms,cs,fs,ts,⟨⟩⟩,⟨⟩⟩:=d;exact aP (aol vs ms cs fs ts) (akQ vs ms cs fs ts) (by kernel_rfl)
abbrev ah7:CT:={ ps:=[oW],pre:=λd=>True,res:=λd=>([],.one (.c (.v (.int .i64 (Dy d.1.2.2.2.1 d.1.2.2.2.2.1))))) }
abbrev akR(vs:List VD) (ms cs:List ByteArray) (fs:List FD) (ts:List SD):Nat->Option (St->jK):=λk=>match k with
 | 4=>some λ_=>.inv { α:=Nat,slots:=λk=>[(3,.c (.v (.int .i64 k)))],res:=λk=>[],inv:=λk=>k<=(ts).length/\∀j < k,∀t,ts[j]?=some t->Dx fs.length t=0,meas:=λk=>(ts).length - k }
 | _=>none
theorem afM(vs:List VD) (ms cs:List ByteArray) (fs:List FD) (ts:List SD):
 let z1:=λ(x:Nat)=>(x<=ts.length/\∀(j:Nat),j < x->∀(t:Int×Int×Unit),ts[j]?=some t->Dx fs.length t=0);let z2:=[g0 (ak.blk 27 [SC.sl Hg vs,SC.sl Sh.str ms,SC.sl Sh.str cs,SC.sl Dw fs,SC.sl mO ts])];let z3:=λ(x:Nat)=>0<=(x:Int)/\(x:Int) < (ts.length:Int);br (decide ((ts.length:Int) < (1:Int)) || decide (8 < (ts.length:Int))) (qI (Dy fs ts) (4:Int)) ((∃x,(z1 x)/\(cI 0=cI (x:Int)/\True)/\sm z2)/\∀(x:Nat),(z1 x)->br (decide ((x:Int) < (ts.length:Int))) ((z3 x)/\∀(d:Int×(I6.pair Sh.unit).den),ts[(x:Int).toNat]?=some d->((!decide (d.fst < 0))=true->0<=(x:Int)/\(x:Int) < (ts.length:Int))/\∀(bJ:Int×(I6.pair Sh.unit).den),((!decide (d.fst < 0))=true->ts[(x:Int).toNat]?=some bJ)->br (decide (d.fst < 0) || decide ((fs.length:Int)<=bJ.fst)) (qI (Dy fs ts) (11:Int)) ((z3 x)/\∀(d:Int×(I6.pair Sh.unit).den),ts[(x:Int).toNat]?=some d->True/\br (!bU (d.snd.fst,()).fst) (qI (Dy fs ts) (2:Int)) (iR ((x:Int)+(1:Int))/\∃x',(z1 x')/\(cI ((x:Int)+(1:Int))=cI (x':Int)/\True)/\sm z2/\ts.length - x' < ts.length - x))) (qI (Dy fs ts) (0:Int))):=by
 conv=>zeta
 delta cI g0 qI sm I6 iR
 by_cases hc:ts.length < 1\/8 < ts.length
 .have e:Dy fs ts=4:=by unfold Dy;rw[if_pos hc]
  rw[e];refine ah.2 ⟨λ_=>⟨rfl,rfl⟩,λh=>?_⟩
  simp only[l7,eH]at h;omega
 refine ah.2 ⟨λh=>?_,λh=>⟨⟨0,⟨by omega,λj hj=>by omega⟩,⟨rfl,trivial⟩,rfl⟩,λk hk=>ah.2 ⟨λh2=>?_,λh2=>?_⟩⟩⟩
 .simp only[xk,dN]at h;omega
 .simp only[dN]at h2;have hN:(k:Int).toNat=k:=by omega
  rw[hN];refine⟨by omega,λd hd=>⟨λ_=>by omega,λd1 hd1=>ah.2 ⟨λh3=>⟨rfl,?_⟩,λh3=>⟨by omega,λd2 hd2=>⟨trivial,ah.2 ⟨λh4=>⟨rfl,?_⟩,λh4=>⟨ay.2 (by omega),k+1,⟨by omega,λj hj v hv=>?_⟩,⟨rfl,trivial⟩,rfl,by omega⟩⟩⟩⟩⟩⟩⟩
  .have h3:d.1 < 0\/(fs.length:Int)<=d.1:=by
    by_cases hn:d.1 < 0
    .exact .inl hn
    .have:=hd1 (by simp[hn])
     rw[hd]at this;cases this;exact by simpa using h3
   have e:Dx fs.length d=11:=by unfold Dx;rw[if_pos h3]
   rw[zB hc hd (by rw[e];simp) hk.2,e]
  all_goals
   rw[hd]at hd2;cases hd2;have h3:¬(d.1 < 0\/(fs.length:Int)<=d.1):=by
    simp only[l7,eH]at h3;have:=hd1 (by rw[Aw h3.1];rfl)
    rw[hd]at this;cases this;exact λq=>q.elim (λq=>h3.1 q) (λq=>h3.2 q)
  .have h4:bU d.2.1=false:=by simpa using h4
   have e:Dx fs.length d=2:=by unfold Dx;rw[if_neg h3,if_neg (by rw[h4];simp)]
   rw[zB hc hd (by rw[e];simp) hk.2,e]
  .have h4:bU d.2.1=true:=by simpa using h4
   by_cases iY:j=k
   .subst iY;rw[hd]at hv;cases hv;unfold Dx;rw[if_neg h3,if_pos h4]
   .exact hk.2 j (by omega) v hv
 .simp only[eH]at h2;rw[Ti hc λj t hj=>hk.2 j (by have:=(A8.1 hj).1;omega) t hj];exact⟨rfl,rfl⟩
theorem aaM:aU aS.gd 136 ah7:=
 jW (cx:=aS) (n:=48) (cl:=[(134,Qu)]) au ⟨NQ,trivial⟩ Tryz.func136 λd hd=>by
  obtain⟨⟨vs,ms,cs,fs,ts,⟨⟩⟩,⟨⟩⟩:=d;exact aP (akR vs ms cs fs ts) (afM vs ms cs fs ts) (by kernel_rfl)
def exS(vs:List VD) (ms cs:List ByteArray) (fs:List FD) (op obj n:Int):Bool:=!decide (0<=oZ vs ms cs fs op/\(obj < 0\/oZ vs ms cs fs op<=obj)) && !decide (op=18/\(n < 0\/(ms.length:Int)<=n))
abbrev ah8:CT:={ ps:=[oW,lY],pre:=λd=>True,res:=λd=>([],vB (exS d.1.1 d.1.2.1 d.1.2.2.1 d.1.2.2.2.1 d.2.1.1 d.2.1.2.2.2.2.1 d.2.1.2.2.2.2.2.1)) }
theorem afN(vs:List VD) (ms cs:List ByteArray) (fs:List FD) (ts:List SD) (op a b c obj n fn ord:Int):
 let z7:=exS vs ms cs fs op obj n;let z4:=qB z7 (decide (0<=obj) && decide (obj < (vs.length:Int)));let z5:=qB z7 (decide (0<=obj) && decide (obj < (ms.length:Int)));let z6:=qB z7 (decide (0<=obj) && decide (obj < (cs.length:Int)));let z3:=br (decide (op=21)) (qB z7 (decide (0<=obj) && decide (obj < (fs.length:Int)))) (qB z7 true);let z2:=br (decide (op=18)) (br (decide (n < 0) || decide ((ms.length:Int)<=n)) (qB z7 false) z6) (br (decide (op=19)) (br (decide (op=19)) z6 z3) (br (decide (op=20)) z6 z3));let z1:=br (decide (op=15)) (br (decide (op=15)) z5 z2) (br (decide (op=16)) (br (decide (op=16)) z5 z2) (br (decide (op=17)) z5 z2));br (decide (op=8)) (br (decide (op=8)) z4 z1) (br (decide (op=9)) (br (decide (op=9)) z4 z1) (br (decide (op=10)) (br (decide (op=10)) z4 z1) (br (decide (op=11)) (br (decide (op=11)) z4 z1) (br (decide (op=12)) (br (decide (op=12)) z4 z1) (br (decide (op=14)) z4 z1))))):=by
 conv=>zeta
 delta qB;simp only[ah]
 repeat' (first | (refine And.intro ?_ ?_) | (intro _))
 all_goals first | rfl | (simp_all[exS,oZ];done) | (simp_all[exS,oZ];omega) | (simp_all[exS,oZ];rw[Gy];simp<;>omega)
theorem aaN:aU aS.gd 179 ah8:=
 jW (cx:=aS) (n:=61) (cl:=[]) au trivial Tryz.func179 λd hd=>by
  obtain⟨⟨vs,ms,cs,fs,ts,⟨⟩⟩,⟨op,a,b,c,obj,n,fn,ord,⟨⟩⟩,⟨⟩⟩:=d;exact aP (λ_=>none) (afN vs ms cs fs ts op a b c obj n fn ord) (by kernel_rfl)
abbrev ah9:CT:={ ps:=[.str],pre:=λd=>True,res:=λd=>([],vB (dI d.1)) }
abbrev akS(s:ByteArray):Nat->Option (St->jK):=λk=>match k with
 | 4=>some λ_=>.inv { α:=Nat,slots:=λk=>[(3,.c (.v (.int .i64 k)))],res:=λk=>[],inv:=λk=>k<=((List.range s.size)).length/\∀j < k,(sN (IQ s j)=true\/(j≠0/\okB (IQ s j)=true)),meas:=λk=>((List.range s.size)).length - k }
 | _=>none
theorem afO(s:ByteArray):
 let z2:=List.range s.size;let z1:=λ(x:Nat)=>(x<=z2.length/\∀(j:Nat),j < x->sN (IQ s j)=true\/j≠0/\okB (IQ s j)=true);br (decide ((s.size:Int) < (1:Int)) || decide (16 < (s.size:Int))) (qB (dI s) false) ((∃x,(z1 x)/\(cI 0=cI (x:Int)/\True)/\([]:List dP)=[])/\∀(x:Nat),(z1 x)->br (decide ((x:Int) < (s.size:Int))) ((0<=(x:Int)/\(x:Int) < (s.size:Int))/\∀(u:UInt8),s[(x:Int).toNat]?=some u->br (!(decide (97<=(u.toNat:Int)) && decide ((u.toNat:Int)<=(122:Int)) || decide (65<=(u.toNat:Int)) && decide ((u.toNat:Int)<=(90:Int))) && (decide ((x:Int)=(0:Int)) || !decide ((u.toNat:Int)=(95:Int)) && (decide ((u.toNat:Int) < (48:Int)) || decide (57 < (u.toNat:Int))))) (qB (dI s) false) (iR ((x:Int)+(1:Int))/\∃x',(z1 x')/\(cI ((x:Int)+(1:Int))=cI (x':Int)/\True)/\([]:List dP)=[]/\z2.length - x' < z2.length - x)) (qB (dI s) true)):=by
 conv=>zeta
 delta dP cI qB iR;have hl:(List.range s.size).length=s.size:=List.length_range;rw[hl]
 by_cases hs:¬(1<=s.size/\s.size<=16)
 .have:dI s=false:=by unfold dI;rw[Aw hs];rfl
  rw[this];refine ah.2 ⟨λ_=>⟨rfl,rfl⟩,λh=>?_⟩
  simp only[l7,eH]at h;omega
 have hs:=Gw.1 hs;refine ah.2 ⟨λh=>?_,λ_=>⟨⟨0,⟨by omega,λj hj=>by omega⟩,⟨rfl,trivial⟩,rfl⟩,λk hk=>ah.2 ⟨λh=>?_,λh=>?_⟩⟩⟩
 .simp only[xk,dN]at h;omega
 .simp only[dN]at h;have hN:(k:Int).toNat=k:=by omega
  rw[hN];refine⟨by omega,λu hu=>?_⟩
  have eu:=Kw hu;have eL:sN (IQ s k)=(decide (97<=(u.toNat:Int)) && decide ((u.toNat:Int)<=122) || decide (65<=(u.toNat:Int)) && decide ((u.toNat:Int)<=90)):=by
   rw[eu];unfold sN;rw[Gy];simp
  rw[<-eL];refine ah.2 ⟨λh2=>⟨rfl,?_⟩,λh2=>⟨ay.2 (by omega),k+1,⟨by omega,λj hj=>?_⟩,⟨rfl,trivial⟩,rfl,by omega⟩⟩
  .have:dI s=false:=by
    simp only[bY,xk,CO,dN,eH]at h2;obtain⟨a,b⟩:=h2;unfold dI;rcases b with b | b
    .have:k=0:=by omega
     subst this;rw[a];simp
    .have hb:okB (IQ s k)=false:=by
      unfold okB;rw[a,eu];simp;omega
     rw[show((List.range s.size).all λi=>okB (IQ s i))=false from List.all_eq_false.2 ⟨k,by simp;omega,by rw[hb];simp⟩,Bool.and_false]
   rw[this]
  .by_cases iY:j=k
   .subst iY;cases hA:sN (IQ s j) with
    | true=>exact .inl rfl
    | false=>
      rw[hA]at h2;refine .inr ?_;simp at h2;refine⟨by omega,?_⟩
      unfold okB;rw[eu];simp;omega
   .exact hk.2 j (by omega)
 .simp only[eH]at h;have:dI s=true:=by
   unfold dI;have h0:sN (IQ s 0)=true:=(hk.2 0 (by omega)).elim id λq=>absurd rfl q.1
   rw[xq hs,h0];simp only[Hy];rw[Q9];intro i hi;simp at hi;rcases hk.2 i (by omega) with q | q
   .unfold okB;rw[q];rfl
   .exact q.2
  rw[this];exact⟨rfl,rfl⟩
theorem aaO:aU aS.gd 178 ah9:=
 jW (cx:=aS) (n:=55) (cl:=[]) au trivial Tryz.func178 λd hd=>by
  obtain⟨s,⟨⟩⟩:=d;exact aP (akS s) (afO s) (by kernel_rfl)
abbrev QB:CT:={ ps:=[.sl .str],pre:=λd=>d.1.length<=1000000,res:=λd=>([],.iJ [.c (.v (.int .i64 (if(gW d.1).1=0 then 0 else(gW d.1).2))),.c (.v (.int .i64 (gW d.1).1))]) }
abbrev akT(l:List ByteArray):Nat->Option (St->jK):=λk=>match k with
 | 2=>some λ_=>.inv { α:=Nat,slots:=λk=>[(4,.c (.v (.int .i64 k)))],res:=λ_=>[],inv:=λk=>k<=l.length/\∀j < k,dI (l.getD j ⟨#[]⟩)=true/\uj (l.take j) (l.getD j ⟨#[]⟩)=false,meas:=λk=>l.length - k }
 | 7=>some λs=>.inv { α:=Nat,slots:=λk=>[(5,.c (.v (.int .i64 k)))],res:=λ_=>[],inv:=λk=>k<=(gq s 4).toNat/\∀j < k,¬l.getD j ⟨#[]⟩=l.getD ((gq s 4).toNat) ⟨#[]⟩,meas:=λk=>(gq s 4).toNat - k }
 | _=>none
theorem afP(l:List ByteArray) (aG:QB.pre (l,())):
 let z1:=λ(x:Nat)=>(x<=l.length/\∀(j:Nat),j < x->dI (l.getD j { data:=#[]:ByteArray })=true/\uj (List.take j l) (l.getD j { data:=#[]:ByteArray })=false);let z4:=λ(x:Nat)=>0<=(x:Int)/\(x:Int) < (l.length:Int);let z3:=[cI (if(gW l).fst=0 then(0:Int) else(gW l).snd),cI ((gW l).fst)];let z2:=λ(x_1 x:Nat)=>(x_1<=(x:Int).toNat/\∀(j:Nat),j < x_1->¬l.getD j { data:=#[]:ByteArray }=l.getD (x:Int).toNat { data:=#[]:ByteArray });let z5:=λ(x_1:Nat)=>(x_1:Int)+(1:Int);(∃x,(z1 x)/\(cI 0=cI (x:Int)/\True)/\([]:List dP)=[])/\∀(x:Nat),(z1 x)->br (decide ((x:Int) < (l.length:Int))) ((z4 x)/\∀(d:ByteArray),l[(x:Int).toNat]?=some d->True/\br (!dI d) (rT z3 [cI (x:Int),cI 6]) ((∃x_1,(z2 x_1 x)/\(cI 0=cI (x_1:Int)/\True)/\([]:List dP)=[])/\∀(x_1:Nat),(z2 x_1 x)->br (decide ((x_1:Int) < (x:Int))) ((z4 x_1)/\∀(bJ:ByteArray),l[(x_1:Int).toNat]?=some bJ->(z4 x)/\∀(kW:ByteArray),l[(x:Int).toNat]?=some kW->br (decide (bJ=kW)) (rT z3 [cI (x:Int),cI 7]) (iR (z5 x_1)/\∃x',(x'<=(x:Int).toNat/\∀(j:Nat),j < x'->¬l.getD j { data:=#[]:ByteArray }=l.getD (x:Int).toNat { data:=#[]:ByteArray })/\(cI (z5 x_1)=cI (x':Int)/\True)/\([]:List dP)=[]/\(x:Int).toNat - x' < (x:Int).toNat - x_1)) (iR (z5 x)/\∃x',(z1 x')/\(cI (z5 x)=cI (x':Int)/\True)/\([]:List dP)=[]/\l.length - x' < l.length - x))) (rT z3 [cI 0,cI 0]):=by
 conv=>zeta
 delta dP cI rT iR;have hp:l.length<=1000000:=aG;refine⟨⟨0,⟨by omega,λj hj=>by omega⟩,⟨rfl,trivial⟩,rfl⟩,λk hk=>ah.2 ⟨λh=>?_,λh=>?_⟩⟩
 .simp only[dN]at h;have hN:(k:Int).toNat=k:=by omega
  rw[hN];refine⟨by omega,λd hd=>?_⟩
  have hg:l.getD k ⟨#[]⟩=d:=by rw[Jf,hd];rfl
  refine⟨trivial,ah.2 ⟨λh2=>⟨rfl,?_⟩,λh2=>⟨⟨0,⟨by omega,λj hj=>by omega⟩,⟨rfl,trivial⟩,rfl⟩,λm hm=>ah.2 ⟨λh3=>?_,λh3=>⟨ay.2 (by omega),k+1,⟨by omega,λj hj=>?_⟩,⟨rfl,trivial⟩,rfl,by omega⟩⟩⟩⟩⟩
  .have h2:dI d=false:=by simpa using h2
   rw[vX (by omega) hk.2 (.inl (by rw[hg];exact h2)),hg,h2];rfl
  .simp only[dN]at h3;have hM:(m:Int).toNat=m:=by omega
   rw[hM];refine⟨by omega,λd1 hd1=>⟨by omega,λd2 hd2=>?_⟩⟩
   rw[hd]at hd2;cases hd2;have hg1:l.getD m ⟨#[]⟩=d1:=by rw[Jf,hd1];rfl
   refine ah.2 ⟨λh4=>⟨rfl,?_⟩,λh4=>⟨ay.2 (by omega),m+1,⟨by omega,λj hj=>?_⟩,⟨rfl,trivial⟩,rfl,by omega⟩⟩
   .have h3':uj (l.take k) d=true:=Ls.2 ⟨d1,gZ (i:=m) (by rw[ait (by omega)];exact hd1),h4⟩
    have h2v:dI d=true:=by simpa using h2
    rw[vX (by omega) hk.2 (.inr (by rw[hg];exact h3')),hg,h2v];rfl
   .by_cases hjm:j=m
    .subst hjm;rw[hg1,hg];simpa using h4
    .exact hm.2 j (by omega)
  .simp only[eH]at h3
   by_cases iY:j=k
   .subst iY;rw[hg];refine⟨by simpa using h2,?_⟩
    unfold uj;rw[Xh];intro y hy;obtain⟨i,hi⟩:=Ai hy;have hij:i < j:=by
     have:=(A8.1 hi).1;simp at this;omega
    rw[ait hij]at hi;have:=hm.2 i (by omega)
    rw[hg,Jf,hi]at this;simpa using this
   .exact hk.2 j (by omega)
 .simp only[eH]at h;rw[NR λj hj=>hk.2 j (by omega)];exact⟨rfl,rfl⟩
theorem aaP:aU aS.gd 133 QB:=
 jW (cx:=aS) (n:=34) (cl:=[(178,ah9)]) au ⟨aaO,trivial⟩ Tryz.func133 λd hd=>by
  obtain⟨l,⟨⟩⟩:=d;exact aP (akT l) (afP l hd) (by kernel_rfl)
abbrev aaQ:CT:={ ps:=[oW],pre:=λd=>d.1.1.length<=1000000/\d.1.2.2.2.1.length<=1000000,res:=λd=>([.row 9 .str (iy d.1.1),.row 9 .str (jw d.1.2.2.2.1)],.iJ [.c (.row 0),.c (.row 1)]) }
abbrev akU(vs:List VD) (ms cs:List ByteArray) (fs:List FD) (ts:List SD):Nat->Option (St->jK):=λk=>match k with
 | 3=>some λ_=>.inv { α:=Nat,slots:=λk=>[(6,.c (.v (.int .i64 k))),(4,.c (.row 1))],res:=λk=>[(1,.row 9 .str (iy (vs.take k)))],inv:=λk=>k<=vs.length,meas:=λk=>vs.length - k,nil:=[(4,9,.str)] }
 | 7=>some λ_=>.inv { α:=Nat,slots:=λk=>[(7,.c (.v (.int .i64 k))),(5,.c (.row 2))],res:=λk=>[(2,.row 9 .str (jw (fs.take k)))],inv:=λk=>k<=fs.length,meas:=λk=>fs.length - k,nil:=[(5,9,.str)] }
 | _=>none
theorem afQ(vs:List VD) (ms cs:List ByteArray) (fs:List FD) (ts:List SD) (aG:aaQ.pre ((vs,ms,cs,fs,ts,()),())):
 let z3:=[SC.sl Hg vs,SC.sl Sh.str ms,SC.sl Sh.str cs,SC.sl Dw fs,SC.sl mO ts];let z5:=λ(x:Nat)=>iy (List.take x vs);let z2:=λ(x:Nat)=>[g0 (ak.blk 27 z3),g0 (ak.row 9 Sh.str (z5 x))];let z4:=λ(x:Nat)=>(x:Int)+(1:Int);let z1:=λ(x x_1:Nat)=>[g0 (ak.blk 27 z3),g0 (ak.row 9 Sh.str (z5 x)),g0 (ak.row 9 Sh.str (jw (List.take x_1 fs)))];(∃x,x<=vs.length/\(cI 0=cI (x:Int)/\SV.c (SC.row (Nat.succ 0))=SV.c (SC.row 1)/\True)/\[g0 (ak.blk 27 z3),g0 (ak.row 9 Sh.str [])]=(z2 x))/\∀(x:Nat),x<=vs.length->br (decide ((x:Int) < (vs.length:Int))) ((0<=(x:Int)/\(x:Int) < (vs.length:Int))/\∀(d:ByteArray×(I6.pair Sh.unit).den),vs[(x:Int).toNat]?=some d->oz (List.length (z5 x)+List.length ([d.fst])) 16/\iR (z4 x)/\∃x',x'<=vs.length/\(cI (z4 x)=cI (x':Int)/\SV.c (SC.row 1)=SV.c (SC.row 1)/\True)/\[g0 (ak.blk 27 z3),g0 (ak.row 9 Sh.str (iy (List.take x vs)++[d.fst]))]=(z2 x')/\vs.length - x' < vs.length - x) ((∃x_1,x_1<=fs.length/\(cI 0=cI (x_1:Int)/\SV.c (SC.row (Nat.succ 0).succ)=SV.c (SC.row 2)/\True)/\[g0 (ak.blk 27 z3),g0 (ak.row 9 Sh.str (z5 x)),g0 (ak.row 9 Sh.str [])]=(z1 x x_1))/\∀(x_1:Nat),x_1<=fs.length->br (decide ((x_1:Int) < (fs.length:Int))) ((0<=(x_1:Int)/\(x_1:Int) < (fs.length:Int))/\∀(d:ByteArray×(lY.sl.pair Sh.unit).den),fs[(x_1:Int).toNat]?=some d->oz (List.length (jw (List.take x_1 fs))+List.length ([d.fst])) 16/\iR (z4 x_1)/\∃x',x'<=fs.length/\(cI (z4 x_1)=cI (x':Int)/\SV.c (SC.row 2)=SV.c (SC.row 2)/\True)/\[g0 (ak.blk 27 z3),g0 (ak.row 9 Sh.str (z5 x)),g0 (ak.row 9 Sh.str (jw (List.take x_1 fs)++[d.fst]))]=(z1 x x')/\fs.length - x' < fs.length - x_1) ([ak.row 9 Sh.str (iy vs),ak.row 9 Sh.str (jw fs)]=[ak.row 9 Sh.str (z5 x),ak.row 9 Sh.str (jw (List.take x_1 fs))]/\bg.iJ [SV.c (SC.row 0),SV.c (SC.row 1)]=bg.iJ [SV.c (SC.row 0),SV.c (SC.row (Nat.succ 0))])):=by
 conv=>zeta
 delta cI g0 I6 iR;obtain⟨hp1,hp2⟩:vs.length<=1000000/\fs.length<=1000000:=aG;refine⟨⟨0,by omega,⟨rfl,rfl,trivial⟩,rfl⟩,λk hk=>ah.2 ⟨λh=>?_,λh=>⟨⟨0,by omega,⟨rfl,rfl,trivial⟩,rfl⟩,λm hm=>ah.2 ⟨λh2=>?_,λh2=>?_⟩⟩⟩⟩
 .simp only[dN]at h;refine⟨by omega,λd hd=>?_⟩
  have hd:vs[k]?=some d:=by simpa using hd
  have e:iy (vs.take (k+1))=iy (vs.take k)++[d.1]:=by
   unfold iy;rw[OJ,hd];simp
  refine⟨?_,ay.2 (by omega),k+1,by omega,⟨rfl,rfl,trivial⟩,?_,by omega⟩
  .have:(iy (vs.take k)).length<=1000000:=by simp[iy];omega
   exact dZ.2 (by simp only[sV,Lp];omega)
  .rw[e]
 .simp only[dN]at h2;refine⟨by omega,λd hd=>?_⟩
  have hd:fs[m]?=some d:=by simpa using hd
  have e:jw (fs.take (m+1))=jw (fs.take m)++[d.1]:=by
   unfold jw;rw[OJ,hd];simp
  refine⟨?_,ay.2 (by omega),m+1,by omega,⟨rfl,rfl,trivial⟩,?_,by omega⟩
  .have:(jw (fs.take m)).length<=1000000:=by simp[jw];omega
   exact dZ.2 (by simp only[sV,Lp];omega)
  .rw[e]
 .simp only[eH]at h h2;rw[xg (by omega),xg (by omega)];exact⟨rfl,rfl⟩
theorem aaR:aU aS.gd 132 aaQ:=
 jW (cx:=aS) (n:=42) (cl:=[]) au trivial Tryz.func132 λd hd=>by
  obtain⟨⟨vs,ms,cs,fs,ts,⟨⟩⟩,⟨⟩⟩:=d;exact aP (akU vs ms cs fs ts) (afQ vs ms cs fs ts hd) (by kernel_rfl)
def zC(vs:List VD) (ms cs:List ByteArray) (fs:List FD) (l:List ID):Int×Int:=if 64 < l.length then(4,-1) else match l.findIdx? (λi=>decide (vY vs ms cs fs i l.length≠0)) with
 | some k=>(vY vs ms cs fs (l.getD k (0,0,0,0,0,0,0,0,())) l.length,k)
 | none=>(0,-1)
theorem zD{l:List ID}{d:ID} (hl:¬64 < l.length) (hd:l[k]?=some d) (hb:vY vs ms cs fs d l.length≠0) (hn:∀j < k,∀i,l[j]?=some i->vY vs ms cs fs i l.length=0):zC vs ms cs fs l=(vY vs ms cs fs d l.length,(k:Int)):=by
 have gX:k < l.length:=(A8.1 hd).1;have:l.findIdx? (λi=>decide (vY vs ms cs fs i l.length≠0))=some k:=by
  rw[A52];refine⟨gX,by rw[(A8.1 hd).2];simpa using hb,λj hj=>?_⟩
  have:=hn j hj l[j] (kQ (by omega))
  simpa using this
 unfold zC;rw[if_neg hl,this];show(vY vs ms cs fs (l.getD k _) l.length,(k:Int))=_;rw[Jf,hd];rfl
theorem afR{l:List ID} (hl:¬64 < l.length) (hn:∀(j:Nat) i,l[j]?=some i->vY vs ms cs fs i l.length=0):zC vs ms cs fs l=(0,-1):=by
 have:l.findIdx? (λi=>decide (vY vs ms cs fs i l.length≠0))=none:=by
  rw[A75];intro y hy;obtain⟨j,hj⟩:=Ai hy;simpa using hn j y hj
 unfold zC;rw[if_neg hl,this]
theorem aom{d:ID} (h:uo d≠0):vY vs ms cs fs d m=uo d:=by unfold vY ciS;rw[if_pos h]
theorem aqc{d:ID} (h:uo d=0) (h2:exS vs ms cs fs d.1 d.2.2.2.2.1 d.2.2.2.2.2.1=false):vY vs ms cs fs d m=11:=by
 unfold exS at h2;unfold vY ciS;rw[if_neg (by simpa using h)]
 split
 .rfl
 .rename_i h3;rw[Aw h3]at h2;rw[OV,Hy,wI]at h2;rw[if_pos (OL h2)]
theorem aqd{d:ID} (h:uo d=0) (h2:exS vs ms cs fs d.1 d.2.2.2.2.1 d.2.2.2.2.2.1=true):vY vs ms cs fs d m=if(d.1=4\/d.1=5)/\(d.2.2.2.2.2.1 < 0\/m < d.2.2.2.2.2.1) then 12 else 0:=by
 unfold exS at h2;rw[bY,CO,CO]at h2;unfold vY ciS;rw[if_neg (by simpa using h),if_neg (A92 h2.1),if_neg (A92 h2.2)]
abbrev aia:CT:={ ps:=[oW,Dw],pre:=λd=>True,res:=λd=>([],.iJ [.c (.v (.int .i64 (zC d.1.1 d.1.2.1 d.1.2.2.1 d.1.2.2.2.1 d.2.1.2.1).1)),.c (.v (.int .i64 (zC d.1.1 d.1.2.1 d.1.2.2.1 d.1.2.2.2.1 d.2.1.2.1).2))]) }
abbrev akV(vs:List VD) (ms cs:List ByteArray) (fs:List FD) (ts:List SD) (nm:ByteArray) (l:List ID):Nat->Option (St->jK):=λk=>match k with
 | 4=>some λ_=>.inv { α:=Nat,slots:=λk=>[(6,.c (.v (.int .i64 k)))],res:=λk=>[],inv:=λk=>k<=(l).length/\∀j < k,∀i,l[j]?=some i->vY vs ms cs fs i l.length=0,meas:=λk=>(l).length - k }
 | _=>none
theorem afS(vs:List VD) (ms cs:List ByteArray) (fs:List FD) (ts:List SD) (nm:ByteArray) (l:List ID):
 let z10:=[cI ((zC vs ms cs fs l).fst),cI ((zC vs ms cs fs l).snd)];let z1:=λ(x:Nat)=>(x<=l.length/\∀(j:Nat),j < x->∀(i:Int×Int×Int×Int×Int×Int×Int×Int×Unit),l[j]?=some i->ciS vs ms cs fs (qC i.fst i.snd.fst i.snd.snd.fst i.snd.snd.snd.fst i.snd.snd.snd.snd.fst i.snd.snd.snd.snd.snd.fst i.snd.snd.snd.snd.snd.snd.fst i.snd.snd.snd.snd.snd.snd.snd.fst) i.fst i.snd.snd.snd.snd.fst i.snd.snd.snd.snd.snd.fst (l.length:Int)=(0:Int));let z5:=[g0 (ak.blk 27 [SC.sl Hg vs,SC.sl Sh.str ms,SC.sl Sh.str cs,SC.sl Dw fs,SC.sl mO ts]),g0 (ak.blk 77 [SC.v (Value.string nm),SC.sl lY l])];let z2:=λ(d:ID)=>(d.fst,d.snd.fst,d.snd.snd.fst,d.snd.snd.snd.fst,d.snd.snd.snd.snd.fst,d.snd.snd.snd.snd.snd.fst,d.snd.snd.snd.snd.snd.snd.fst,d.snd.snd.snd.snd.snd.snd.snd.fst,());let z3:=λ(d:ID)=>(d.snd.fst,d.snd.snd.fst,d.snd.snd.snd.fst,d.snd.snd.snd.snd.fst,d.snd.snd.snd.snd.snd.fst,d.snd.snd.snd.snd.snd.snd.fst,d.snd.snd.snd.snd.snd.snd.snd.fst,());let z4:=λ(d:ID)=>(d.snd.snd.fst,d.snd.snd.snd.fst,d.snd.snd.snd.snd.fst,d.snd.snd.snd.snd.snd.fst,d.snd.snd.snd.snd.snd.snd.fst,d.snd.snd.snd.snd.snd.snd.snd.fst,());let z6:=λ(d:ID)=>(d.snd.snd.snd.fst,d.snd.snd.snd.snd.fst,d.snd.snd.snd.snd.snd.fst,d.snd.snd.snd.snd.snd.snd.fst,d.snd.snd.snd.snd.snd.snd.snd.fst,());let z7:=λ(d:ID)=>(d.snd.snd.snd.snd.fst,d.snd.snd.snd.snd.snd.fst,d.snd.snd.snd.snd.snd.snd.fst,d.snd.snd.snd.snd.snd.snd.snd.fst,());let z8:=λ(d:ID)=>(d.snd.snd.snd.snd.snd.fst,d.snd.snd.snd.snd.snd.snd.fst,d.snd.snd.snd.snd.snd.snd.snd.fst,());let z9:=λ(d:ID)=>(d.snd.snd.snd.snd.snd.snd.fst,d.snd.snd.snd.snd.snd.snd.snd.fst,());br (decide (64 < (l.length:Int))) (rT z10 [cI 4,cI (-1)]) ((∃x,(z1 x)/\(cI 0=cI (x:Int)/\True)/\sm z5)/\∀(x:Nat),(z1 x)->br (decide ((x:Int) < (l.length:Int))) ((0<=(x:Int)/\(x:Int) < (l.length:Int))/\∀(d:ID),l[(x:Int).toNat]?=some d->True/\br (!decide (qC (z2 d).fst (z3 d).fst (z4 d).fst (z6 d).fst (z7 d).fst (z8 d).fst (z9 d).fst (d.snd.snd.snd.snd.snd.snd.snd.fst,()).fst=0)) (rT z10 [cI (qC (z2 d).fst (z3 d).fst (z4 d).fst (z6 d).fst (z7 d).fst (z8 d).fst (z9 d).fst (d.snd.snd.snd.snd.snd.snd.snd.fst,()).fst),cI (x:Int)]) (True/\br (!exS vs ms cs fs (z2 d).fst (z7 d).fst (z8 d).fst) (rT z10 [cI 11,cI (x:Int)]) (br ((decide (d.fst=4) || decide (d.fst=5)) && (decide (d.snd.snd.snd.snd.snd.fst < 0) || decide ((l.length:Int) < d.snd.snd.snd.snd.snd.fst))) (rT z10 [cI 12,cI (x:Int)]) (iR ((x:Int)+(1:Int))/\∃x',(z1 x')/\(cI ((x:Int)+(1:Int))=cI (x':Int)/\True)/\sm z5/\l.length - x' < l.length - x)))) (rT z10 [cI 0,cI (-1)])):=by
 conv=>zeta
 delta cI g0 rT sm I6 iR
 by_cases hc:64 < l.length
 .have e:zC vs ms cs fs l=(4,-1):=by unfold zC;rw[if_pos hc]
  rw[e];refine ah.2 ⟨λ_=>⟨rfl,rfl⟩,λh=>?_⟩
  simp only[eH]at h;omega
 refine ah.2 ⟨λh=>?_,λ_=>⟨⟨0,⟨by omega,λj hj=>by omega⟩,⟨rfl,trivial⟩,rfl⟩,λk hk=>ah.2 ⟨λh=>?_,λh=>?_⟩⟩⟩
 .simp only[dN]at h;omega
 .simp only[dN]at h;have hN:(k:Int).toNat=k:=by omega
  rw[hN];refine⟨by omega,λd hd=>⟨trivial,ah.2 ⟨λh2=>⟨rfl,?_⟩,λh2=>⟨trivial,ah.2 ⟨λh3=>⟨rfl,?_⟩,λh3=>ah.2 ⟨λh4=>⟨rfl,?_⟩,λh4=>⟨ay.2 (by omega),k+1,⟨by omega,λj hj i hi=>?_⟩,⟨rfl,trivial⟩,rfl,by omega⟩⟩⟩⟩⟩⟩⟩
  .have h2:uo d≠0:=by simpa using h2
   rw[zD hc hd (by rw[aom h2];exact h2) hk.2,aom h2]
  all_goals have h2:uo d=0:=by simpa using h2
  .have h3:exS vs ms cs fs d.1 d.2.2.2.2.1 d.2.2.2.2.2.1=false:=by simpa using h3
   have e:=aqc (m:=(l.length:Int)) h2 h3;rw[zD hc hd (by rw[e];simp) hk.2,e]
  all_goals have h3:exS vs ms cs fs d.1 d.2.2.2.2.1 d.2.2.2.2.2.1=true:=by simpa using h3
  all_goals have e:=aqd (m:=(l.length:Int)) h2 h3
  .rw[if_pos (by simpa using h4)]at e
   rw[zD hc hd (by rw[e];simp) hk.2,e]
  .by_cases iY:j=k
   .subst iY;rw[hd]at hi;cases hi;rw[if_neg (λq=>by
     have:((decide (d.1=4) || decide (d.1=5)) && (decide (d.2.2.2.2.2.1 < 0) || decide ((l.length:Int) < d.2.2.2.2.2.1)))=true:=by simpa using q
     rw[h4]at this;cases this)]at e
    exact e
   .exact hk.2 j (by omega) i hi
 .simp only[eH]at h;rw[afR hc λj i hj=>hk.2 j (by have:=(A8.1 hj).1;omega) i hj];exact⟨rfl,rfl⟩
theorem aaS:aU aS.gd 135 aia:=
 jW (cx:=aS) (n:=58) (cl:=[(176,an8),(179,ah8)]) au ⟨aaf,aaN,trivial⟩ Tryz.func135 λd hd=>by
  obtain⟨⟨vs,ms,cs,fs,ts,⟨⟩⟩,⟨nm,l,⟨⟩⟩,⟨⟩⟩:=d;exact aP (akV vs ms cs fs ts nm l) (afS vs ms cs fs ts nm l) (by kernel_rfl)
theorem BA:∀(i:Nat) (l:List FD) (n:Nat){x:FD},l[i]?=some x->jP n l=jP n (l.take i)++(qj (n+i) x++jP (n+i+1) (l.drop (i+1)))
 | 0,[],n,x,h=>by simp at h
 | 0,y :: l,n,x,h=>by
   simp at h;subst h;simp[jP]
 | i+1,[],n,x,h=>by simp at h
 | i+1,y :: l,n,x,h=>by
   have:=BA i l (n+1) (x:=x) (by simpa using h)
   simp only[aix,List.drop_succ_cons,jP];rw[this,Au,show n+1+i=n+(i+1) by omega]
theorem QC{n:Nat}{x:FD} (h:(qj n x)[k]?=some d):∃e,x.2.1[k]?=some e/\d=(((n:Int),(k:Int),()),e,()):=by
 unfold qj at h;rw[wJ,ads]at h;cases he:x.2.1[k]? with
 | none=>rw[he]at h;simp at h
 | some e=>rw[he]at h;simp at h;exact⟨e,rfl,h.symm⟩
theorem zF{l:List ID} (h:(zC vs ms cs fs l).1=0):l.length<=64/\∀(j:Nat) i,l[j]?=some i->vY vs ms cs fs i l.length=0:=by
 by_cases hl:64 < l.length
 .unfold zC at h;rw[if_pos hl]at h;simp at h
 refine⟨by omega,?_⟩
 cases hf:l.findIdx? (λi=>decide (vY vs ms cs fs i l.length≠0)) with
 | none=>
   rw[A75]at hf;intro j i hj;simpa using hf i (gZ hj)
 | some k=>
   unfold zC at h;rw[if_neg hl,hf]at h;rw[A52]at hf;obtain⟨hk,h1,_⟩:=hf;have e:l.getD k (0,0,0,0,0,0,0,0,())=l[k]:=by rw[Jf,kQ hk];rfl
   have h:vY vs ms cs fs (l.getD k (0,0,0,0,0,0,0,0,())) l.length=0:=h;rw[e]at h;simp[h]at h1
theorem afT{l:List ID} (hl:¬64 < l.length) (h:(zC vs ms cs fs l).1≠0):∃(k:Nat) (e:ID),l[k]?=some e/\vY vs ms cs fs e l.length≠0/\(∀j < k,∀i,l[j]?=some i->vY vs ms cs fs i l.length=0)/\zC vs ms cs fs l=(vY vs ms cs fs e l.length,(k:Int)):=by
 cases hf:l.findIdx? (λi=>decide (vY vs ms cs fs i l.length≠0)) with
 | none=>
   unfold zC at h;rw[if_neg hl,hf]at h;exact absurd rfl h
 | some k=>
   rw[A52]at hf;obtain⟨hk,h1,h2⟩:=hf;have hn:∀j < k,∀i,l[j]?=some i->vY vs ms cs fs i l.length=0:=λj hj i hi=>by
    have:=h2 j hj;rw[(A8.1 hi).2]at this;simpa using this
   have h1:vY vs ms cs fs l[k] l.length≠0:=by simpa using h1
   exact⟨k,l[k],kQ hk,h1,hn,zD hl (kQ hk) h1 hn⟩
theorem IV{x:FD} (hx:fs[k]?=some x) (j:Int) (e:ID):Kz vs ms cs fs (((k:Int),j,()),e,())=vY vs ms cs fs e x.2.1.length:=Tj (d:=(((k:Int),j,()),e,())) (by simpa using hx)
theorem QD{i:Nat} (hn:∀j < i,∀f,fs[j]?=some f->f.2.1.length<=64):dJ fs = -1\/(i:Int)<=dJ fs:=by
 unfold dJ;cases hf:fs.findIdx? (λf=>decide (64 < f.2.1.length)) with
 | none=>exact .inl rfl
 | some k=>
   refine .inr ?_;rw[A52]at hf;obtain⟨hk,h1,_⟩:=hf;show(i:Int)<=(k:Int)
   by_cases hki:k < i
   .have:=hn k hki _ (kQ hk);simp at h1;omega
   .omega
theorem aaT{i:Nat}{f:FD} (hf:fs[i]?=some f) (h:(zC vs ms cs fs f.2.1).1≠0) (hn:∀j < i,∀g,fs[j]?=some g->(zC vs ms cs fs g.2.1).1=0):
 FP vs ms cs fs=((zC vs ms cs fs f.2.1).1,(i:Int),(zC vs ms cs fs f.2.1).2):=by
 have hb:=QD (fs:=fs) (i:=i) λj hj g hg=>(zF (hn j hj g hg)).1
 have aG:(jP 0 (fs.take i)).find? (λd=>decide (d.1.1=dJ fs) || decide (Kz vs ms cs fs d≠0))=none:=by
  rw[WY];intro d hd;obtain⟨k,x,j,e,h1,h2,rfl⟩:=vZ _ _ hd;have hk:k < i:=by have:=(A8.1 h1).1;simp at this;omega
  rw[ait hk]at h1;have hz:=(zF (hn k hk x h1)).2 j e h2;rw[show(0+k:Nat)=k by omega,IV h1,hz]
  have:¬((k:Int)=dJ fs):=by omega
  simp[this]
 have hcut:=BA i fs 0 hf;have key:∀{k:Nat}{e:ID},f.2.1[k]?=some e->((i:Int)=dJ fs\/vY vs ms cs fs e f.2.1.length≠0)->(∀j < k,∀u,f.2.1[j]?=some u->(i:Int)≠dJ fs/\vY vs ms cs fs u f.2.1.length=0) ->
  (dM fs).find? (λd=>decide (d.1.1=dJ fs) || decide (Kz vs ms cs fs d≠0))=some (((i:Int),(k:Int),()),e,()):=by
  intro k e he hbad hok;unfold dM;rw[hcut,List.find?_append,aG,Option.none_or,List.find?_append,show(0+i:Nat)=i by omega]
  rw[xZ (k:=k) (IL he) (by rw[IV hf];simpa using hbad) λj hj t ht=>by
   obtain⟨u,hu,rfl⟩:=QC ht;obtain⟨a,b⟩:=hok j hj u hu;rw[IV hf,b];simp[a]]
  rfl
 by_cases hl:64 < f.2.1.length
 .have e1:dJ fs=i:=FN hf hl λj hj g hg=>(zF (hn j hj g hg)).1
  have gX:0 < f.2.1.length:=by omega
  have:=key (k:=0) (kQ gX) (.inl e1.symm) (λj hj=>by omega)
  unfold FP;rw[this];show(if(i:Int)=dJ fs then _ else _)=_
  rw[if_pos e1.symm,e1];unfold zC;rw[if_pos hl]
 .obtain⟨k,e,h1,h2,h3,h4⟩:=afT hl h;have hne:(i:Int)≠dJ fs:=by
   intro q;have:=Bz (fs:=fs);unfold dJ at q;cases hfi:fs.findIdx? (λf=>decide (64 < f.2.1.length)) with
   | none=>rw[hfi]at q;simp at q
   | some m=>
     rw[hfi]at q;rw[A52]at hfi;obtain⟨hm,a,_⟩:=hfi;have q:i=m:=by have q:(i:Int)=(m:Int):=q;omega
     subst q;rw[(A8.1 hf).2]at a;simp at a;omega
  have:=key h1 (.inr h2) (λj hj u hu=>⟨hne,h3 j hj u hu⟩)
  unfold FP;rw[this];show(if(i:Int)=dJ fs then _ else(Kz vs ms cs fs _,(i:Int),(k:Int)))=_
  rw[if_neg hne,IV hf,h4]
theorem afU(hn:∀(j:Nat) g,fs[j]?=some g->(zC vs ms cs fs g.2.1).1=0):FP vs ms cs fs=(0,-1,-1):=by
 have hl:dJ fs = -1:=Bz λj g hg=>(zF (hn j g hg)).1
 rw[QA λj d hd=>?_,if_neg (by rw[hl];simp)]
 obtain⟨k,x,m,e,h1,h2,rfl⟩:=vZ _ _ (gZ hd);rw[show(0+k:Nat)=k by omega,IV h1,hl]
 exact⟨by show¬((k:Int) = -1);omega,(zF (hn k x h1)).2 m e h2⟩
theorem IW:∀(l:List FD) (n m:Nat),(∀x∈l,x.2.1.length<=m)->(jP n l).length<=l.length * m
 | [],n,m,h=>by simp[jP]
 | x :: l,n,m,h=>by
   have:=IW l (n+1) m λy hy=>h y (by simp[hy])
   have:=h x (by simp)
   have e:(qj n x).length=x.2.1.length:=by simp[qj]
   simp only[jP,kH,sV,xw];omega
theorem IX(h:Tq vs ms cs fs ts=true):bnd ((vs,ms,cs,fs,ts,()),()):=by
 unfold Tq at h;rw[bY,dN,Q9]at h;obtain⟨⟨h1,h2,h3,h4,h5⟩,h6⟩:=h;have h6:∀x∈fs,x.2.1.length<=100:=λx hx=>by simpa using h6 x hx
 have:=IW fs 0 100 h6;refine⟨?_,?_,?_,?_,?_,λx hx=>?_,?_⟩
 .show vs.length<=_;omega
 .show ms.length<=_;omega
 .show cs.length<=_;omega
 .show fs.length<=_;omega
 .show ts.length<=_;omega
 .have:=h6 x hx;omega
 .show(jP 0 fs).length<=_;omega
theorem KA(h:(CW vs ms cs fs).1≠0):aC vs ms cs fs ts=CW vs ms cs fs:=by unfold aC;rw[if_pos h]
theorem aaU(z:(CW vs ms cs fs).1=0) (h:Ar vs ms cs fs≠0):aC vs ms cs fs ts=(Ar vs ms cs fs,-1,-1):=by unfold aC;rw[if_neg (λq=>q z),if_pos h]
theorem akW(z:(CW vs ms cs fs).1=0) (z2:Ar vs ms cs fs=0) (h:(FP vs ms cs fs).1≠0):aC vs ms cs fs ts=FP vs ms cs fs:=by unfold aC;rw[if_neg (λq=>q z),if_neg (λq=>q z2),if_pos h]
theorem akX(z:(CW vs ms cs fs).1=0) (z2:Ar vs ms cs fs=0) (z3:(FP vs ms cs fs).1=0):aC vs ms cs fs ts=(Dy fs ts,-1,-1):=by
 unfold aC;rw[if_neg (λq=>q z),if_neg (λq=>q z2),if_neg (λq=>q z3)]
 split
 .rfl
 .rename_i h;rw[Gw.1 h]
abbrev FQ:CT:={ ps:=[oW],pre:=λd=>bnd d,res:=λd=>([],.iJ [.c (.v (.int .i64 (aC d.1.1 d.1.2.1 d.1.2.2.1 d.1.2.2.2.1 d.1.2.2.2.2.1).1)),.c (.v (.int .i64 (aC d.1.1 d.1.2.1 d.1.2.2.1 d.1.2.2.2.1 d.1.2.2.2.2.1).2.1)),.c (.v (.int .i64 (aC d.1.1 d.1.2.1 d.1.2.2.1 d.1.2.2.2.1 d.1.2.2.2.2.1).2.2))]) }
abbrev aon(vs:List VD) (ms cs:List ByteArray) (fs:List FD) (ts:List SD):Nat->Option (St->jK):=λk=>match k with
 | 17=>some λ_=>.inv { α:=Nat,slots:=λk=>[(15,.c (.v (.int .i64 k)))],res:=λ_=>[],inv:=λk=>k<=vs.length/\∀j < k,∀v,vs[j]?=some v->bU v.2.1=true,meas:=λk=>vs.length - k }
 | 22=>some λ_=>.inv { α:=Nat,slots:=λk=>[(16,.c (.v (.int .i64 k)))],res:=λ_=>[],inv:=λk=>k<=fs.length/\∀j < k,∀g,fs[j]?=some g->(zC vs ms cs fs g.2.1).1=0,meas:=λk=>fs.length - k }
 | _=>none
theorem akY(vs:List VD) (ms cs:List ByteArray) (fs:List FD) (ts:List SD) (aG:FQ.pre ((vs,ms,cs,fs,ts,()),())):
 let z6:=aC vs ms cs fs ts;let z4:=[cI (z6.fst),cI (z6.snd.fst),cI (z6.snd.snd)];let z7:=gW (jw fs);let z3:=λ(x:Nat)=>(x<=vs.length/\∀(j:Nat),j < x->∀(v:ByteArray×Int×Unit),vs[j]?=some v->bU v.snd.fst=true);let z1:=[g0 (ak.blk 27 [SC.sl Hg vs,SC.sl Sh.str ms,SC.sl Sh.str cs,SC.sl Dw fs,SC.sl mO ts]),g0 (ak.row 9 Sh.str (iy vs)),g0 (ak.row 9 Sh.str (jw fs))];let z5:=λ(x:Nat)=>(x:Int)+(1:Int);let z2:=λ(x:Nat)=>(x<=fs.length/\∀(j:Nat),j < x->∀(g:ByteArray×List ID×Unit),fs[j]?=some g->(zC vs ms cs fs g.snd.fst).fst=0);(vs.length<=1000000/\fs.length<=1000000)/\(iy vs).length<=1000000/\br (!decide ((gW (iy vs)).fst=0)) (rT z4 [cI ((gW (iy vs)).fst),cI (-1),cI (-1)]) (ms.length<=1000000/\br (!decide ((gW ms).fst=0)) (rT z4 [cI ((gW ms).fst),cI (-1),cI (-1)]) (cs.length<=1000000/\br (!decide ((gW cs).fst=0)) (rT z4 [cI ((gW cs).fst),cI (-1),cI (-1)]) ((jw fs).length<=1000000/\br (!decide (z7.fst=0)) (rT z4 [cI (z7.fst),cI (if z7.fst=0 then(0:Int) else z7.snd),cI (-1)]) (br (decide (8 < (vs.length:Int)) || decide (4 < (ms.length:Int)) || decide (4 < (cs.length:Int)) || decide (8 < (fs.length:Int))) (rT z4 [cI 4,cI (-1),cI (-1)]) ((∃x,(z3 x)/\(cI 0=cI (x:Int)/\True)/\sm z1)/\∀(x:Nat),(z3 x)->br (decide ((x:Int) < (vs.length:Int))) ((0<=(x:Int)/\(x:Int) < (vs.length:Int))/\∀(d:ByteArray×(I6.pair Sh.unit).den),vs[(x:Int).toNat]?=some d->True/\br (!bU (d.snd.fst,()).fst) (rT z4 [cI 2,cI (-1),cI (-1)]) (iR (z5 x)/\∃x',(z3 x')/\(cI (z5 x)=cI (x':Int)/\True)/\sm z1/\vs.length - x' < vs.length - x)) ((∃x,(z2 x)/\(cI 0=cI (x:Int)/\True)/\sm z1)/\∀(x:Nat),(z2 x)->br (decide ((x:Int) < (fs.length:Int))) ((0<=(x:Int)/\(x:Int) < (fs.length:Int))/\∀(d:ByteArray×(lY.sl.pair Sh.unit).den),fs[(x:Int).toNat]?=some d->True/\br (!decide ((zC vs ms cs fs (d.snd.fst,()).fst).fst=0)) (rT z4 [cI ((zC vs ms cs fs (d.snd.fst,()).fst).fst),cI (x:Int),cI ((zC vs ms cs fs (d.snd.fst,()).fst).snd)]) (iR (z5 x)/\∃x',(z2 x')/\(cI (z5 x)=cI (x':Int)/\True)/\sm z1/\fs.length - x' < fs.length - x)) (True/\rT z4 [cI (Dy fs ts),cI (-1),cI (-1)]))))))):=by
 conv=>zeta
 delta cI g0 rT sm I6 iR;obtain⟨h1,h2,h3,h4,h5,h6,h7⟩:bnd ((vs,ms,cs,fs,ts,()),()):=aG;have h1:vs.length<=1000000:=h1;have h4:fs.length<=1000000:=h4;refine⟨⟨h1,h4⟩,by simpa[iy]using h1,ah.2 ⟨λa=>⟨rfl,?_⟩,λa=>⟨h2,ah.2 ⟨λb=>⟨rfl,?_⟩,λb=>⟨h3,ah.2 ⟨λc=>⟨rfl,?_⟩,λc=>⟨by simpa[jw]using h4,ah.2 ⟨λd=>⟨rfl,?_⟩,λd=>?_⟩⟩⟩⟩⟩⟩⟩⟩
 all_goals try simp only[CO,wI,dN,eH]at a
 all_goals try simp only[CO,wI,dN,eH]at b
 all_goals try simp only[CO,wI,dN,eH]at c
 all_goals try simp only[CO,wI,dN,eH]at d
 .have e:CW vs ms cs fs=((gW (iy vs)).1,-1,-1):=by unfold CW;rw[if_pos a]
  rw[KA (by rw[e];exact a),e]
 .have e:CW vs ms cs fs=((gW ms).1,-1,-1):=by unfold CW;rw[if_neg (λq=>q a),if_pos b]
  rw[KA (by rw[e];exact b),e]
 .have e:CW vs ms cs fs=((gW cs).1,-1,-1):=by unfold CW;rw[if_neg (λq=>q a),if_neg (λq=>q b),if_pos c]
  rw[KA (by rw[e];exact c),e]
 all_goals have e:CW vs ms cs fs=((gW (jw fs)).1,(gW (jw fs)).2,-1):=by unfold CW;rw[if_neg (λq=>q a),if_neg (λq=>q b),if_neg (λq=>q c)]
 .rw[KA (by rw[e];exact d),e,if_neg d]
 have z:(CW vs ms cs fs).1=0:=by rw[e];exact d
 clear e a b c d
 by_cases hc:8 < vs.length\/4 < ms.length\/4 < cs.length\/8 < fs.length
 .have e:Ar vs ms cs fs=4:=by unfold Ar;rw[if_pos hc]
  rw[aaU z (by rw[e];simp),e]
  refine ah.2 ⟨λ_=>⟨rfl,rfl⟩,λh=>?_⟩
  simp only[l7,eH]at h;omega
 refine ah.2 ⟨λh=>?_,λ_=>⟨⟨0,⟨by omega,λj hj=>by omega⟩,⟨rfl,trivial⟩,rfl⟩,λk hk=>ah.2 ⟨λh=>?_,λh=>⟨⟨0,⟨by omega,λj hj=>by omega⟩,⟨rfl,trivial⟩,rfl⟩,λm hm=>ah.2 ⟨λh8=>?_,λh8=>⟨trivial,rfl,?_⟩⟩⟩⟩⟩⟩
 .simp only[xk,dN]at h;omega
 .simp only[dN]at h;have hN:(k:Int).toNat=k:=by omega
  rw[hN];refine⟨by omega,λd hd=>⟨trivial,ah.2 ⟨λh9=>⟨rfl,?_⟩,λh9=>⟨ay.2 (by omega),k+1,⟨by omega,λj hj v hv=>?_⟩,⟨rfl,trivial⟩,rfl,by omega⟩⟩⟩⟩
  .have h9:bU d.2.1=false:=by simpa using h9
   have e:Ar vs ms cs fs=2:=by
    unfold Ar;rw[if_neg hc,if_neg];intro hh;rw[Q9]at hh;have:=hh d (gZ hd);rw[h9]at this;cases this
   rw[aaU z (by rw[e];simp),e]
  .have h9:bU d.2.1=true:=by simpa using h9
   by_cases iY:j=k
   .subst iY;rw[hd]at hv;cases hv;exact h9
   .exact hk.2 j (by omega) v hv
 all_goals
  simp only[eH]at h;have z2:Ar vs ms cs fs=0:=by
   unfold Ar;rw[if_neg hc,if_pos];rw[Q9];intro v hv;obtain⟨j,hj⟩:=Ai hv;exact hk.2 j (by have:=(A8.1 hj).1;omega) v hj
 .simp only[dN]at h8;have hN:(m:Int).toNat=m:=by omega
  rw[hN];refine⟨by omega,λd hd=>⟨trivial,ah.2 ⟨λh9=>⟨rfl,?_⟩,λh9=>⟨ay.2 (by omega),m+1,⟨by omega,λj hj v hv=>?_⟩,⟨rfl,trivial⟩,rfl,by omega⟩⟩⟩⟩
  .have h9:(zC vs ms cs fs d.2.1).1≠0:=by simpa using h9
   have e:=aaT hd h9 hm.2;rw[akW z z2 (by rw[e];exact h9),e]
  .have h9:(zC vs ms cs fs d.2.1).1=0:=by simpa using h9
   by_cases iY:j=m
   .subst iY;rw[hd]at hv;cases hv;exact h9
   .exact hm.2 j (by omega) v hv
 .simp only[eH]at h8;have e:=afU (vs:=vs) (ms:=ms) (cs:=cs) λj g hj=>hm.2 j (by have:=(A8.1 hj).1;omega) g hj
  rw[akX z z2 (by rw[e])]
theorem KC:aU aS.gd 66 FQ:=
 jW (cx:=aS) (n:=120) (cl:=[(132,aaQ),(133,QB),(134,Qu),(135,aia),(136,ah7)]) au ⟨aaR,aaP,NQ,aaS,aaM,trivial⟩ Tryz.func66 λd hd=>by
  obtain⟨⟨vs,ms,cs,fs,ts,⟨⟩⟩,⟨⟩⟩:=d;exact aP (aon vs ms cs fs ts) (akY vs ms cs fs ts hd) (by kernel_rfl)
abbrev KD:CT:={ ps:=[oW],pre:=λd=>bnd d,res:=λd=>([],vB (decide ((aC d.1.1 d.1.2.1 d.1.2.2.1 d.1.2.2.2.1 d.1.2.2.2.2.1).1=0))) }
abbrev akZ:CT:={ ps:=[.sl (.int .i64),.int .i64],pre:=λd=>d.1.length<=4611686018427387904,res:=λd=>([],vB (dO d.1 d.2.1)) }
abbrev ak0(l:List Int) (x:Int):Nat->Option (St->jK):=λk=>match k with
 | 2=>some λ_=>.inv { α:=Nat,slots:=λk=>[(5,.c (.v (.int .i64 k)))],res:=λ_=>[],inv:=λk=>k<=l.length/\∀j,j < k->∀b,l[j]?=some b->¬(b=x),meas:=λk=>l.length - k }
 | _=>none
theorem afV(l:List Int) (x:Int) (aG:akZ.pre (l,x,())):
 let z1:=λ(x_1:Nat)=>(x_1<=l.length/\∀(j:Nat),j < x_1->∀(b:Int),l[j]?=some b->¬b=x);(∃x_1,(z1 x_1)/\(cI 0=cI (x_1:Int)/\True)/\([]:List dP)=[])/\∀(x_1:Nat),(z1 x_1)->br (decide ((x_1:Int) < (l.length:Int))) ((0<=(x_1:Int)/\(x_1:Int) < (l.length:Int))/\∀(d:Int),l[(x_1:Int).toNat]?=some d->br (decide (d=x)) (qB (dO l x) true) (iR ((x_1:Int)+(1:Int))/\∃x',(x'<=l.length/\∀(j:Nat),j < x'->∀(b:Int),l[j]?=some b->¬b=x)/\(cI ((x_1:Int)+(1:Int))=cI (x':Int)/\True)/\([]:List dP)=[]/\l.length - x' < l.length - x_1)) (qB (dO l x) false):=by
 conv=>zeta
 delta dP cI qB iR;have hp:l.length<=4611686018427387904:=aG;refine⟨⟨0,⟨by omega,λj hj=>by omega⟩,⟨rfl,trivial⟩,rfl⟩,λk hk=>ah.2 ⟨λh=>?_,λh=>?_⟩⟩
 .simp only[dN]at h;refine⟨by omega,λd hd=>ah.2 ⟨λh2=>?_,λh2=>?_⟩⟩
  .simp only[dN]at h2;have hm:dO l x=true:=Ls.2 ⟨d,gZ hd,by simpa using h2⟩
   rw[hm];exact⟨rfl,rfl⟩
  .simp only[eH]at h2;have hd:l[k]?=some d:=by simpa using hd
   refine⟨ay.2 (by omega),k+1,⟨by omega,λj hj b hb=>?_⟩,⟨by simp,trivial⟩,rfl,by omega⟩
   by_cases hjx:j=k
   .subst hjx;rw[hd]at hb;cases hb;exact h2
   .exact hk.2 j (by omega) b hb
 .simp only[eH]at h;have hm:dO l x=false:=by
   unfold dO;rw[Xh];intro b hb;obtain⟨j,hj⟩:=Ai hb;have:=(A8.1 hj).1;simpa using hk.2 j (by omega) b hj
  rw[hm];exact⟨rfl,rfl⟩
theorem aaV:aU aS.gd 172 akZ:=
 jW (cx:=aS) (n:=18) (cl:=[]) au trivial Tryz.func172 λd hd=>by
  obtain⟨l,x,⟨⟩⟩:=d;exact⟨ak0 l x,cast (by kernel_rfl) (afV l x hd)⟩
theorem aaW{p:Int->Bool}:∀{l:List Int}{k:Nat},k<=l.length->(∀j,j < k->∀b,l[j]?=some b->p b=true)->(∀b,l[k]?=some b->p b=false)->(l.takeWhile p).length=k
 | [],k,h,_,_=>by simp at h;simp[h]
 | a :: l,0,_,_,h2=>by simp[UU,h2 a rfl]
 | a :: l,k+1,h,h1,h2=>by
   have h0:=h1 0 (by omega) a rfl
   simp only[UU,h0,if_true,sV];rw[aaW (by simpa using h) (λj hj b hb=>h1 (j+1) (by omega) b hb) (λb hb=>h2 b hb)]
abbrev ak1:CT:={ ps:=[.sl (.int .i64),.int .i64],pre:=λd=>d.1.length<=1000000,res:=λd=>([.row 3 (.int .i64) (d.1.take (zn d.1 d.2.1)++[d.2.1]++d.1.drop (zn d.1 d.2.1))],.one (.c (.row 0))) }
abbrev ak2(l:List Int) (x:Int):Nat->Option (St->jK):=λk=>match k with
 | 2=>some λ_=>.inv { α:=Nat,slots:=λk=>[(5,.c (.v (.int .i64 k)))],res:=λ_=>[],inv:=λk=>k<=l.length/\∀j,j < k->∀b,l[j]?=some b->b < x,meas:=λk=>l.length - k }
 | _=>none
theorem afW(l:List Int) (x:Int) (aG:ak1.pre (l,x,())):
 let z1:=λ(x_1:Nat)=>(x_1<=l.length/\∀(j:Nat),j < x_1->∀(b:Int),l[j]?=some b->b < x);let z3:=λ(x_1:Nat)=>(x_1:Int) < (l.length:Int);let z4:=λ(x_1:Nat)=>List.take (x_1:Int).toNat l;let z2:=List.take (l.length:Int).toNat l;(∃x_1,(z1 x_1)/\(cI 0=cI (x_1:Int)/\True)/\([]:List dP)=[])/\∀(x_1:Nat),(z1 x_1)->(decide (z3 x_1)=true->0<=(x_1:Int)/\(x_1:Int) < (l.length:Int))/\∀(d:Int),(decide (z3 x_1)=true->l[(x_1:Int).toNat]?=some d)->br (decide (z3 x_1) && decide (d < x)) (iR ((x_1:Int)+(1:Int))/\∃x',(x'<=l.length/\∀(j:Nat),j < x'->∀(b:Int),l[j]?=some b->b < x)/\(cI ((x_1:Int)+(1:Int))=cI (x':Int)/\True)/\([]:List dP)=[]/\l.length - x' < l.length - x_1) (((0:Int)<=(0:Int)/\0<=(x_1:Int)/\(x_1:Int)<=(l.length:Int))/\oz (0+List.length (List.drop 0 (z4 x_1))) 8/\oz (List.length (([]++List.drop 0 (z4 x_1)))+List.length ([x])) 8/\(0<=(x_1:Int)/\(x_1:Int)<=(l.length:Int)/\(l.length:Int)<=(l.length:Int))/\oz (List.length ((([]++List.drop 0 (z4 x_1))++[x]))+List.length (List.drop (x_1:Int).toNat z2)) 8/\[ak.row 3 I6 (List.take (zn l x) l++[x]++List.drop (zn l x) l)]=[ak.row 3 I6 ((([]++List.drop 0 (z4 x_1))++[x])++List.drop (x_1:Int).toNat z2)]/\bg.one (SV.c (SC.row 0))=bg.one (SV.c (SC.row 0))):=by
 conv=>zeta
 delta dP cI I6 iR;have hp:l.length<=1000000:=aG;refine⟨⟨0,⟨by omega,λj hj=>by omega⟩,⟨rfl,trivial⟩,rfl⟩,λk hk=>⟨λh=>by simp only[dN]at h;omega,λd hd=>ah.2 ⟨λh=>?_,λh=>?_⟩⟩⟩
 .simp only[bY,dN]at h;have hd:l[k]?=some d:=by simpa using hd (by simpa using h.1)
  refine⟨ay.2 (by omega),k+1,⟨by omega,λj hj b hb=>?_⟩,⟨by simp,trivial⟩,rfl,by omega⟩
  by_cases hjx:j=k
  .subst hjx;rw[hd]at hb;cases hb;exact h.2
  .exact hk.2 j (by omega) b hb
 .have hpos:zn l x=k:=by
   refine aaW hk.1 (λj hj b hb=>by simpa using hk.2 j hj b hb) λb hb=>?_
   have hkl:=(A8.1 hb).1;have hd:l[k]?=some d:=by simpa using hd (by simpa using hkl)
   rw[hd]at hb;cases hb;simp only[A72,eH]at h;rcases h with h | h
   .omega
   .simpa using h
  have e1:((k:Int)).toNat=k:=by simp
  have e2:((l.length:Int)).toNat=l.length:=by simp
  rw[hpos];simp only[e1,e2,OM,UW,UN,dZ,kH,lu,yj,sV,Lp];refine⟨by omega,by omega,by omega,by omega,by omega,?_⟩
  simp
theorem aaX:aU aS.gd 207 ak1:=
 jW (cx:=aS) (n:=36) (cl:=[]) au trivial Tryz.func207 λd hd=>by
  obtain⟨l,x,⟨⟩⟩:=d;exact⟨ak2 l x,cast (by kernel_rfl) (afW l x hd)⟩
abbrev ak3:CT:={ ps:=[.sl (.int .i64)],pre:=λd=>d.1.length<=1000000,res:=λd=>([.row 3 (.int .i64) (aY d.1)],.one (.c (.row 0))) }
abbrev ak4(l:List Int):Nat->Option (St->jK):=λk=>match k with
 | 3=>some λ_=>.inv { α:=Nat,slots:=λk=>[(4,.c (.v (.int .i64 k))),(3,.c (.row 0))],res:=λk=>[(0,.row 3 (.int .i64) (aY (l.take k)))],inv:=λk=>k<=l.length,meas:=λk=>l.length - k,ren:=[(0,1)],drop:=[5] }
 | _=>none
theorem afX(l:List Int) (aG:ak3.pre (l,())):
 let z4:=λ(x:Nat)=>aY (List.take x l);let z3:=λ(x:Nat)=>[g0 (ak.row 3 I6 (z4 x))];let z2:=λ(x:Nat)=>0<=(x:Int)/\(x:Int) < (l.length:Int);let z1:=λ(x x':Nat)=>cI ((x:Int)+(1:Int))=cI (x':Int)/\SV.c (SC.row 0)=SV.c (SC.row 0)/\True;(∃x,x<=l.length/\(cI 0=cI (x:Int)/\SV.c (SC.row 0)=SV.c (SC.row 0)/\True)/\[g0 (ak.row 3 I6 [])]=(z3 x))/\∀(x:Nat),x<=l.length->br (decide ((x:Int) < (l.length:Int))) ((z2 x)/\∀(d:Int),l[(x:Int).toNat]?=some d->(z4 x).length<=4611686018427387904/\br (!dO (z4 x) d) ((z2 x)/\∀(d:Int),l[(x:Int).toNat]?=some d->(z4 x).length<=1000000/\iR ((x:Int)+(1:Int))/\∃x',x'<=l.length/\(z1 x x')/\[g0 (ak.row 3 I6 (List.take (zn (z4 x) d) (z4 x)++[d]++List.drop (zn (z4 x) d) (z4 x)))]=(z3 x')/\l.length - x' < l.length - x) (iR ((x:Int)+(1:Int))/\∃x',x'<=l.length/\(z1 x x')/\(z3 x)=(z3 x')/\l.length - x' < l.length - x)) ([ak.row 3 I6 (aY l)]=[ak.row 3 I6 (z4 x)]/\bg.one (SV.c (SC.row 0))=bg.one (SV.c (SC.row 0))):=by
 conv=>zeta
 delta cI g0 I6 iR;have hp:l.length<=1000000:=aG;have hlen:∀k,(aY (l.take k)).length<=l.length:=λk=>pI (II _) (by simp;omega)
 refine⟨⟨0,by omega,⟨rfl,rfl,trivial⟩,rfl⟩,λk hk=>ah.2 ⟨λh=>?_,λh=>?_⟩⟩
 .simp only[dN]at h;refine⟨by omega,λd hd=>⟨by have:=hlen k;omega,ah.2 ⟨λh2=>⟨by omega,λe he=>⟨by have:=hlen k;omega,ay.2 (by omega),k+1,by omega,⟨by simp,rfl,trivial⟩,?_,by omega⟩⟩,
   λh2=>⟨ay.2 (by omega),k+1,by omega,⟨by simp,rfl,trivial⟩,?_,by omega⟩⟩⟩⟩
  .have hd:l[k]?=some d:=by simpa using hd
   have he:l[k]?=some e:=by simpa using he
   rw[hd]at he;cases he;have h2:dO (aY (l.take k)) d=false:=by simpa using h2
   rw[FI hd,h2];rfl
  .have hd:l[k]?=some d:=by simpa using hd
   have h2:dO (aY (l.take k)) d=true:=by simpa using h2
   rw[FI hd,h2];rfl
 .simp only[eH]at h;rw[xg (by omega)];exact⟨rfl,rfl⟩
theorem aaY:aU aS.gd 181 ak3:=
 jW (cx:=aS) (n:=26) (cl:=[(172,akZ),(207,ak1)]) au ⟨aaV,aaX,trivial⟩ Tryz.func181 λd hd=>by
  obtain⟨l,⟨⟩⟩:=d;exact⟨ak4 l,cast (by kernel_rfl) (afX l hd)⟩
def bD(n:Int):Int:=if n % 4294967296<=2147483647 then n % 4294967296 else n % 4294967296 - 4294967296
theorem wo(n:Int):-2147483648<=bD n/\bD n<=2147483647:=by
 unfold bD;split<;>omega
theorem FT{n:Int}:bD n=n↔-2147483648<=n/\n<=2147483647:=by
 unfold bD;constructor
 .intro h;split at h<;>omega
 .intro h;split<;>omega
def jd(f a b:Int):Int×Int:=
 if f=1 then(bD (bD a+bD b),0) else if f=2 then(bD (bD a - bD b),0) else if f=3 then(bD (bD a * bD b),0)
 else if f=4 then(bD (pU .and .i64 (bD a) (bD b)),0) else if f=5 then(bD (pU .or .i64 (bD a) (bD b)),0) else if f=6 then(bD (pU .xor .i64 (bD a) (bD b)),0)
 else if f=7 then(if bD a=bD b then 1 else 0,0) else if f=8 then(if bD a=bD b then 0 else 1,0) else if f=9 then(if bD a < bD b then 1 else 0,0)
 else if f=10 then(if bD a<=bD b then 1 else 0,0) else(0,8)
theorem QE(f a b:Int):-2147483648<=(jd f a b).1/\(jd f a b).1<=2147483647:=by
 unfold jd
 repeat' split
 all_goals first | exact wo _ | (constructor<;>omega)
def dQ:Nat->Int->Int->Int
 | 0,_,_=>-1
 | n+1,d,id=>if id < 8 then d else if 7<=id.tmod 8 then -1 else dQ n (d+1) (id.tdiv 8 - 1)
def aQ(id:Int):Int:=if id < 0 then -1 else dQ 5 0 id
theorem x9:∀(n:Nat) (d id:Int),0<=d->dQ n d id = -1\/(d<=dQ n d id/\dQ n d id < d+n)
 | 0,d,id,h=>.inl rfl
 | n+1,d,id,h=>by
   unfold dQ;split
   .right;omega
   .split
    .exact .inl rfl
    .rcases x9 n (d+1) (id.tdiv 8 - 1) (by omega) with e | e
     .exact .inl e
     .right;omega
theorem FU(id:Int):-1<=aQ id/\aQ id<=4:=by
 unfold aQ;split
 .omega
 .rcases x9 5 0 id (by omega) with e | e<;>omega
theorem zG:∀(n:Nat) (d id r:Int),dQ (n+1) d id=r->0<=d->0<=r->r < d+n->dQ n (d+1) id=r+1
 | 0,d,id,r,h,h0,h1,h2=>by
   have h:dQ 1 d id=r:=h;rcases x9 1 d id h0 with e | e<;>omega
 | n+1,d,id,r,h,h0,h1,h2=>by
   unfold dQ at h ⊢
   split at h
   .rename_i q;rw[if_pos q];omega
   .rename_i q;rw[if_neg q];split at h
    .omega
    .rename_i q2;rw[if_neg q2];exact zG n (d+1) _ r h (by omega) h1 (by omega)
def QF:Nat->Int
 | 0=>0
 | n+1=>8 * (QF n+1)
theorem IY:∀(n:Nat) (d id:Int),0<=d->0<=id->0<=dQ n d id->id < QF n
 | 0,d,id,h0,h1,h2=>by simp[dQ]at h2
 | n+1,d,id,h0,h1,h2=>by
   have hp:0<=QF n:=by
    clear h2
    induction n with
    | zero=>simp[QF]
    | succ n ih=>unfold QF;omega
   unfold dQ at h2;unfold QF;split at h2
   .omega
   .split at h2
    .omega
    .have e:id.tdiv 8=id / 8:=A94 h1;rw[e]at h2;have:=IY n (d+1) (id / 8 - 1) (by omega) (by omega) h2
     omega
theorem jX(h:0<=aQ id):0<=id/\id < 37448:=by
 unfold aQ at h;split at h
 .omega
 .have:=IY 5 0 id (by omega) (by omega) h
  simp only[QF]at this;omega
def bW(id ch:Int):Int×Bool:=if aQ id < 0\/aQ id=4\/ch < 0\/7<=ch then(0,false) else(8 * (id+1)+ch,true)
def Tt(id:Int):Int×Bool:=if aQ id < 1 then(0,false) else(id.tdiv 8 - 1,true)
def iE(id:Int):Int:=if aQ id < 0 then 0 else aQ id
theorem Ce(h0:0<=aQ id) (h4:aQ id≠4) (c0:0<=ch) (c7:ch < 7):aQ (8 * (id+1)+ch)=aQ id+1/\(8 * (id+1)+ch).tdiv 8 - 1=id:=by
 obtain⟨i0,i1⟩:=jX h0;have e1:(8 * (id+1)+ch).tdiv 8=id+1:=by rw[A94 (by omega)];omega
 have e2:(8 * (id+1)+ch).tmod 8=ch:=by rw[Int.tmod_eq_emod_of_nonneg (by omega)];omega
 have hr:=FU id;refine⟨?_,by omega⟩
 have hd:aQ (8 * (id+1)+ch)=dQ 4 1 id:=by
  unfold aQ;rw[if_neg (by omega)]
  rw[dQ,if_neg (by omega),e2,if_neg (by omega),e1,show id+1 - 1=id by omega]
  rfl
 rw[hd];have:aQ id=dQ 5 0 id:=by unfold aQ;rw[if_neg (by omega)]
 exact zG 4 0 id _ this.symm (by omega) h0 (by omega)
abbrev dS:Sh:=.pair (.int .i64) (.pair (.int .i64) (.pair (.int .i64) (.pair (.arr 8 (.int .i64)) (.pair (.int .i64) (.pair (.int .i64) (.pair (.int .i64) (.pair (.int .i64) (.pair (.int .i64) (.pair (.sl (.int .i64)) .unit)))))))))
abbrev TD:=Int×Int×Int×List Int×Int×Int×Int×Int×Int×List Int×Unit
variable {t:TD}
def je(op:Int):Bool:=decide (8<=op/\op<=22)
def ni(i:ID):Int×Bool:=if uo i≠0\/use i.1 0=false then(0,false) else(i.2.1,true)
def codeF(fs:List FD) (fn:Int):List ID:=(fs.getD fn.toNat (⟨#[]⟩,[],())).2.1
def lZ(fs:List FD) (fn pc:Int):Option ID:=(codeF fs fn)[pc.toNat]?
def atR(fs:List FD) (fn pc:Int):ID×Bool:=match lZ fs fn pc with
 | some i=>(i,true)
 | none=>((0,0,0,0,0,0,0,0,()),false)
def jm(id ch ph:Int) (hd:List Int) (i:ID):Int:=
 if ph≠0 then 0 else if i.1=18 then(if dO hd i.2.2.2.2.2.1=true then 0 else 27) else if i.1=16 then(if dO hd i.2.2.2.2.1=true then 0 else 27)
 else if i.1=21 then(if(bW id ch).2=true then 0 else 28) else 0
def dB(ms:List ByteArray) (fs:List FD) (bound:Int):TD->Prop
 | (id,fn,pc,rg,st,ch,ph,su,fa,hd,_)=>0<=aQ id/\(0<=fn/\fn < fs.length)/\(0<=pc/\pc<=(codeF fs fn).length)/\(∀k < 8,∀r,rg[k]?=some r->bU r=true) /\
   (0<=st/\st<=bound)/\(0<=ch/\ch<=7/\(aQ id=4->ch=0))/\SS hd/\(∀m∈hd,0<=m/\m < ms.length) /\
   (ph=0\/((ph=1\/ph=2)/\∃i,lZ fs fn pc=some i/\i.1=18/\dO hd i.2.2.2.2.2.1=false))
open Classical in
def iQ(ms:List ByteArray) (fs:List FD) (bound:Int) (t:TD):Bool:=decide (dB ms fs bound t)
def fQ:TD->ID->TD×Bool
 | (id,fn,pc,rg,st,ch,ph,su,fa,hd,_),(op,a,b,c,obj,n,f,_,_)=>
   if op=1 then((id,fn,pc+1,rg.set a.toNat n,st,ch,ph,su,fa,hd,()),true)
   else if op=2 then((id,fn,pc+1,rg.set a.toNat (rg.getD b.toNat 0),st,ch,ph,su,fa,hd,()),true)
   else if op=3 then((id,fn,pc+1,if(jd f (rg.getD b.toNat 0) (rg.getD c.toNat 0)).2=0 then rg.set a.toNat (jd f (rg.getD b.toNat 0) (rg.getD c.toNat 0)).1 else rg,st,ch,ph,su,fa,hd,()),true)
   else if op=4 then((id,fn,n,rg,st,ch,ph,su,fa,hd,()),true)
   else if op=5 then((id,fn,if rg.getD b.toNat 0=0 then pc+1 else n,rg,st,ch,ph,su,fa,hd,()),true)
   else if op=6/\rg.getD b.toNat 0=0 then((id,fn,pc,rg,st,ch,ph,3,26,hd,()),false)
   else if op=7 then((id,fn,pc,rg,st,ch,ph,2,0,hd,()),false)
   else((id,fn,pc+1,rg,st,ch,ph,su,fa,hd,()),true)
def KE:TD->Int->Int->TD
 | (id,fn,pc,rg,st,ch,ph,_,_,hd,_),s,f=>(id,fn,pc,rg,st,ch,ph,s,f,hd,())
def topS(fs:List FD) (bound:Int) (t:TD) (rest:ID->TD):TD:=match t with
 | (id,fn,pc,rg,st,ch,ph,su,fa,hd,_)=>match lZ fs fn pc with
   | none=>(id,fn,pc,rg,st,ch,ph,2,0,hd,())
   | some i=>if je i.1=true then
    (if jm id ch ph hd i≠0 then(id,fn,pc,rg,st,ch,ph,3,jm id ch ph hd i,hd,()) else if st=bound then(id,fn,pc,rg,st,ch,ph,4,0,hd,()) else(id,fn,pc,rg,st,ch,ph,su,fa,hd,()))
     else rest i
def eU(fs:List FD) (bound:Int):Nat->TD->TD
 | 0,t=>topS fs bound t λ_=>KE t 3 29
 | k+1,t=>topS fs bound t λi=>if(fQ t i).2=true then eU fs bound k (fQ t i).1 else(fQ t i).1
def rO(ms:List ByteArray) (fs:List FD) (bound:Int):TD->Prop
 | (id,fn,pc,rg,st,ch,ph,su,fa,hd,u)=>dB ms fs bound (id,fn,pc,rg,st,ch,ph,su,fa,hd,u) /\
   (((su=1/\st < bound\/su=4/\1<=st)/\fa=0/\∃i,lZ fs fn pc=some i/\je i.1=true/\jm id ch ph hd i=0) \/
    (su=2/\fa=0/\ph=0/\∀i,lZ fs fn pc=some i->i.1=7) \/
    (su=3/\ph=0/\∃i,lZ fs fn pc=some i/\(fa=26/\i.1=6/\rg.getD i.2.2.1.toNat 0=0\/fa=29/\je i.1=false\/fa≠26/\fa≠29/\fa≠0/\jm id ch ph hd i=fa)))
open Classical in
def ny(ms:List ByteArray) (fs:List FD) (bound:Int) (t:TD):Bool:=decide (rO ms fs bound t)
theorem kX(h:uo i=0):(0<=i.2.1/\i.2.1 < 8)/\(0<=i.2.2.1/\i.2.2.1 < 8)/\(0<=i.2.2.2.1/\i.2.2.2.1 < 8)/\(1<=i.1/\i.1<=22):=by
 unfold uo qC at h;split at h
 .simp at h
 split at h
 .simp at h
 split at h
 .simp at h
 .rename_i h1 h2 h3;simp only[V7,sJ]at h1 h3;simp only[xk,CO,A72,eH]at h1 h3;refine⟨?_,?_,?_,?_⟩<;>omega
theorem ak5(h:uo i=0) (h1:i.1=1):bU i.2.2.2.2.2.1=true:=by
 unfold uo qC at h
 repeat' split at h
 all_goals first | (simp at h;done) | skip
 rename_i q1 q2 q3 q4 q5 q6;simp[h1]at q6;unfold bU;simp;omega
theorem afY{x:FD} (hx:fs[k]?=some x){j:Nat} (hj:x.2.1[j]?=some i):(((k:Int),(j:Int),()),i,())∈dM fs:=by
 unfold dM;rw[BA k fs 0 hx];refine aiw _ (List.mem_append_left _ ?_);unfold qj;rw[Jl];refine⟨(i,j),?_,by simp⟩
 rw[A90];exact⟨j,by rw[ads,hj];simp⟩
theorem oD{fn:Int} (h:0<=fn/\fn < fs.length):∃x,fs[fn.toNat]?=some x/\codeF fs fn=x.2.1:=by
 have hl:fn.toNat < fs.length:=by omega
 refine⟨fs[fn.toNat],kQ hl,?_⟩;unfold codeF;rw[Jf,kQ hl];rfl
theorem Ci(h:(aC vs ms cs fs ts).1=0){fn:Int} (hf:0<=fn/\fn < fs.length) (hi:lZ fs fn pc=some i):vY vs ms cs fs i (codeF fs fn).length=0:=by
 obtain⟨c1,c2,c3⟩:=lQ h;obtain⟨x,hx,ex⟩:=oD hf;unfold lZ at hi;rw[ex]at hi ⊢;have:=akP c2 _ (afY hx hi)
 rwa [IV hx]at this
theorem ql(h:vY vs ms cs fs i m=0):uo i=0/\(0<=oZ vs ms cs fs i.1->0<=i.2.2.2.2.1/\i.2.2.2.2.1 < oZ vs ms cs fs i.1)/\(i.1=18->0<=i.2.2.2.2.2.1/\i.2.2.2.2.2.1 < ms.length)/\(i.1=4\/i.1=5->0<=i.2.2.2.2.2.1/\i.2.2.2.2.2.1<=m):=by
 unfold vY ciS at h;split at h
 .rename_i q;exact absurd h q
 split at h
 .cases h
 split at h
 .cases h
 split at h
 .cases h
 .rename_i q1 q2 q3 q4;refine⟨Gw.1 q1,λh0=>?_,λh0=>?_,λh0=>?_⟩
  .omega
  .omega
  .omega
theorem zH{a:Nat}{v:Int} (h:∀k < 8,∀r,rg[k]?=some r->bU r=true) (hv:bU v=true):∀k < 8,∀r,(rg.set a v)[k]?=some r->bU r=true:=by
 intro k hk r hr;rw[List.getElem?_set]at hr;split at hr
 .split at hr
  .cases hr;exact hv
  .cases hr
 .exact h k hk r hr
theorem NT{b:Int} (h:∀k < 8,∀r,rg[k]?=some r->bU r=true) (hb:0<=b/\b < 8):bU (rg.getD b.toNat 0)=true:=by
 rw[Jf];cases hq:rg[b.toNat]? with
 | none=>rfl
 | some r=>exact h _ (by omega) r hq
theorem Tv(f a b:Int):bU (jd f a b).1=true:=by
 have:=QE f a b;unfold bU;simpa using this
theorem Tz{n:Nat} (h:0<=pc) (h2:pc.toNat < n):0<=pc+1/\pc+1<=(n:Int):=by omega
theorem aib{fn:Int} (h:lZ fs fn pc=some i):pc.toNat < (codeF fs fn).length:=(A8.1 h).1
theorem aaZ{fn st ph su fa:Int}{hd:List Int}{u:Unit} (h:dB ms fs bound (id,fn,pc,rg,st,ch,ph,su,fa,hd,u)) (hi:lZ fs fn pc=some i) (hv:je i.1=false):ph=0:=by
 rcases h.2.2.2.2.2.2.2.2 with e | ⟨_,j,hj,h18,_⟩
 .exact e
 .rw[hi]at hj;cases hj;rw[h18]at hv;cases hv
theorem afZ{fn st ph su fa:Int}{hd:List Int}{u:Unit} (h:dB ms fs bound (id,fn,pc,rg,st,ch,ph,su,fa,hd,u)) (hi:lZ fs fn pc=none):ph=0:=by
 rcases h.2.2.2.2.2.2.2.2 with e | ⟨_,j,hj,h18,_⟩
 .exact e
 .rw[hi]at hj;cases hj
theorem FV(hc:(aC vs ms cs fs ts).1=0) (h:dB ms fs bound t) (hi:lZ fs t.2.1 t.2.2.1=some i) (hv:je i.1=false):dB ms fs bound (fQ t i).1:=by
 obtain⟨id,fn,pc,rg,st,ch,ph,su,fa,hd,u⟩:=t;obtain⟨op,a,b,c,obj,n,f,ord,u2⟩:=i;have hi:lZ fs fn pc=some (op,a,b,c,obj,n,f,ord,u2):=hi;have hp:=aaZ h hi hv;have gX:=aib hi;obtain⟨h1,h2,h3,h4,h5,h6,h7,h8,h9⟩:=h;have ok:=Ci hc h2 hi;obtain⟨k1,k2,k3,k4⟩:=ql ok;obtain⟨r1,r2,r3,r4⟩:=kX k1;have k4:op=4\/op=5->0<=n/\n<=((codeF fs fn).length:Int):=k4;have hpc:=Tz h3.1 gX;have key:∀(pc':Int) (WU:List Int) (su' fa':Int),(0<=pc'/\pc'<=((codeF fs fn).length:Int))->(∀k < 8,∀r,WU[k]?=some r->bU r=true)->dB ms fs bound (id,fn,pc',WU,st,ch,ph,su',fa',hd,()):=
  λpc' WU su' fa' q1 q2=>⟨h1,h2,q1,q2,h5,h6,h7,h8,.inl hp⟩
 unfold fQ;simp only;split
 .rename_i e;exact key _ _ _ _ hpc (zH h4 (ak5 k1 e))
 split
 .exact key _ _ _ _ hpc (zH h4 (NT h4 r2))
 split
 .split
  .exact key _ _ _ _ hpc (zH h4 (Tv _ _ _))
  .exact key _ _ _ _ hpc h4
 split
 .rename_i e;exact key _ _ _ _ (k4 (.inl e)) h4
 split
 .rename_i e;split
  .exact key _ _ _ _ hpc h4
  .exact key _ _ _ _ (k4 (.inr e)) h4
 split
 .exact key _ _ _ _ h3 h4
 split
 .exact key _ _ _ _ h3 h4
 .exact key _ _ _ _ hpc h4
theorem zJ(t:TD) (i:ID):(fQ t i).1.1=t.1/\(fQ t i).1.2.1=t.2.1/\(fQ t i).1.2.2.2.2.1=t.2.2.2.2.1/\(fQ t i).1.2.2.2.2.2.1=t.2.2.2.2.2.1/\(fQ t i).1.2.2.2.2.2.2.1=t.2.2.2.2.2.2.1/\(fQ t i).1.2.2.2.2.2.2.2.2.2.1=t.2.2.2.2.2.2.2.2.2.1/\((fQ t i).2=true->(fQ t i).1.2.2.2.2.2.2.2.1=t.2.2.2.2.2.2.2.1/\(fQ t i).1.2.2.2.2.2.2.2.2.1=t.2.2.2.2.2.2.2.2.1):=by
 obtain⟨id,fn,pc,rg,st,ch,ph,su,fa,hd,u⟩:=t;obtain⟨op,a,b,c,obj,n,f,ord,u2⟩:=i;unfold fQ;simp only
 repeat' split
 all_goals simp
theorem Wp(id ch ph:Int) (hd:List Int) (i:ID):jm id ch ph hd i=0\/(ph=0/\(jm id ch ph hd i=27\/jm id ch ph hd i=28)):=by
 unfold jm
 repeat' split
 all_goals first | exact .inl rfl | (right;constructor<;>first | omega | simp)
theorem top_vld(hb:1<=bound){rest:ID->TD}{fn st ph:Int}{hd:List Int}{u:Unit} (h:dB ms fs bound (id,fn,pc,rg,st,ch,ph,1,0,hd,u))
 (hr:∀i,lZ fs fn pc=some i->je i.1=false->ph=0->rO ms fs bound (rest i)):rO ms fs bound (topS fs bound (id,fn,pc,rg,st,ch,ph,1,0,hd,u) rest):=by
 unfold topS;simp only;split
 .rename_i hi;exact⟨h,.inr (.inl ⟨rfl,rfl,afZ h hi,λi q=>by rw[hi]at q;cases q⟩)⟩
 rename_i i hi;split
 .rename_i hv;have ho:=Wp id ch ph hd i;split
  .rename_i e;refine⟨h,.inr (.inr ⟨rfl,by omega,i,hi,.inr (.inr ⟨by omega,by omega,by omega,rfl⟩)⟩)⟩
  .rename_i e;have e:jm id ch ph hd i=0:=by omega
   have hst:=h.2.2.2.2.1;split
   .exact⟨h,.inl ⟨.inr ⟨rfl,by omega⟩,rfl,i,hi,hv,e⟩⟩
   .exact⟨h,.inl ⟨.inl ⟨rfl,by omega⟩,rfl,i,hi,hv,e⟩⟩
 .rename_i hv;have hv:je i.1=false:=by simpa using hv
  exact hr i hi hv (aaZ h hi hv)
theorem TA(hc:(aC vs ms cs fs ts).1=0) (hb:1<=bound):∀(k:Nat) (t:TD),dB ms fs bound t->t.2.2.2.2.2.2.2.1=1->t.2.2.2.2.2.2.2.2.1=0->rO ms fs bound (eU fs bound k t):=by
 intro k
 induction k with
 | zero=>
   rintro⟨id,fn,pc,rg,st,ch,ph,su,fa,hd,u⟩ h h1 h2;have h1:su=1:=h1;have h2:fa=0:=h2;subst h1;subst h2;rw[eU];refine top_vld hb h λi hi hv hp=>?_
   show rO ms fs bound (id,fn,pc,rg,st,ch,ph,3,29,hd,());exact⟨h,.inr (.inr ⟨rfl,hp,i,hi,.inr (.inl ⟨rfl,hv⟩)⟩)⟩
 | succ k ih=>
   rintro⟨id,fn,pc,rg,st,ch,ph,su,fa,hd,u⟩ h h1 h2;have h1:su=1:=h1;have h2:fa=0:=h2;subst h1;subst h2;rw[eU];refine top_vld hb h λi hi hv hp=>?_
   have hf:=FV hc (t:=(id,fn,pc,rg,st,ch,ph,1,0,hd,u)) h hi hv;have hk:=zJ (id,fn,pc,rg,st,ch,ph,1,0,hd,u) i;split
   .rename_i e;exact ih _ hf (hk.2.2.2.2.2.2 e).1 (hk.2.2.2.2.2.2 e).2
   .rename_i e;obtain⟨op,a,b,c,obj,n,f,ord,u2⟩:=i;unfold fQ at e ⊢;simp only at e ⊢
    by_cases n1:op=1
    .rw[if_pos n1]at e;exact absurd rfl e
    rw[if_neg n1]at e ⊢
    by_cases n2:op=2
    .rw[if_pos n2]at e;exact absurd rfl e
    rw[if_neg n2]at e ⊢
    by_cases n3:op=3
    .rw[if_pos n3]at e;exact absurd rfl e
    rw[if_neg n3]at e ⊢
    by_cases n4:op=4
    .rw[if_pos n4]at e;exact absurd rfl e
    rw[if_neg n4]at e ⊢
    by_cases n5:op=5
    .rw[if_pos n5]at e;exact absurd rfl e
    rw[if_neg n5]at e ⊢
    by_cases n6:op=6/\rg.getD b.toNat 0=0
    .rw[if_pos n6];exact⟨h,.inr (.inr ⟨rfl,hp,_,hi,.inl ⟨rfl,n6.1,n6.2⟩⟩)⟩
    rw[if_neg n6]at e ⊢
    by_cases n7:op=7
    .rw[if_pos n7];exact⟨h,.inr (.inl ⟨rfl,rfl,hp,λj hj=>by rw[hi]at hj;cases hj;exact n7⟩)⟩
    rw[if_neg n7]at e;exact absurd rfl e
theorem top_keep{rest:ID->TD} (hr:∀i,(rest i).1=t.1/\(rest i).2.1=t.2.1/\(rest i).2.2.2.2.1=t.2.2.2.2.1/\(rest i).2.2.2.2.2.2.2.2.2.1=t.2.2.2.2.2.2.2.2.2.1):
 (topS fs bound t rest).1=t.1/\(topS fs bound t rest).2.1=t.2.1/\(topS fs bound t rest).2.2.2.2.1=t.2.2.2.2.1/\(topS fs bound t rest).2.2.2.2.2.2.2.2.2.1=t.2.2.2.2.2.2.2.2.2.1:=by
 obtain⟨id,fn,pc,rg,st,ch,ph,su,fa,hd,u⟩:=t;unfold topS;simp only;split
 .exact⟨rfl,rfl,rfl,rfl⟩
 split
 .repeat' split
  all_goals exact⟨rfl,rfl,rfl,rfl⟩
 .exact hr _
theorem uU(fs:List FD) (bound:Int):∀(k:Nat) (t:TD),(eU fs bound k t).1=t.1/\(eU fs bound k t).2.1=t.2.1/\(eU fs bound k t).2.2.2.2.1=t.2.2.2.2.1/\(eU fs bound k t).2.2.2.2.2.2.2.2.2.1=t.2.2.2.2.2.2.2.2.2.1:=by
 intro k
 induction k with
 | zero=>
   intro t;rw[eU];exact top_keep λi=>⟨rfl,rfl,rfl,rfl⟩
 | succ k ih=>
   intro t;rw[eU];refine top_keep λi=>?_
   have hk:=zJ t i;have:=ih (fQ t i).1;split
   .exact⟨this.1.trans hk.1,this.2.1.trans hk.2.1,this.2.2.1.trans hk.2.2.1,this.2.2.2.trans hk.2.2.2.2.2.1⟩
   .exact⟨hk.1,hk.2.1,hk.2.2.1,hk.2.2.2.2.2.1⟩
def nM(l o:List Int) (b:Bool):List Int:=l.filter λx=>dO o x == b
def zK(l:List Int) (x:Int):List Int:=nM (aY l) [x] false
def yc(l:List Int) (x:Int):List Int:=aY (l++[x])
theorem QG(l:List Int) (x:Int):SS (zK l x):=List.Pairwise.filter _ (zo l)
theorem zL{x y:Int}:y∈zK l x↔y∈l/\y≠x:=by
 unfold zK nM;rw[Xi,zq];have:(dO [x] y == false)=true↔y≠x:=by
  rw[Az,oV,WM]
 rw[this]
theorem DC{x y:Int}:y∈yc l x↔y∈l\/y=x:=by
 unfold yc;rw[zq];simp
theorem FW{n:Int} (h:SS l):l.filter (λx=>decide (x≠n))=zK l n:=by
 refine Qq (List.Pairwise.filter _ h) (QG _ _) λx=>?_
 rw[zL,Xi];simp
def zT:TD:=(0,0,0,[0,0,0,0,0,0,0,0],0,0,0,0,0,[],())
def gu:TD->ID->Int->TD
 | (id,fn,pc,rg,st,ch,ph,su,fa,hd,_),i,result=>
   if i.1=18 then
    (if ph=0 then(id,fn,pc,if(ni i).2=true then rg.set (ni i).1.toNat result else rg,st+1,ch,1,su,fa,zK hd i.2.2.2.2.2.1,())
     else if ph=1 then(id,fn,pc,if(ni i).2=true then rg.set (ni i).1.toNat result else rg,st+1,ch,2,su,fa,hd,())
     else(id,fn,pc+1,if(ni i).2=true then rg.set (ni i).1.toNat result else rg,st+1,ch,0,su,fa,yc hd i.2.2.2.2.2.1,()))
   else(id,fn,pc+1,if(ni i).2=true then rg.set (ni i).1.toNat result else rg,st+1,if i.1=21 then ch+1 else ch,ph,su,fa,
    if i.1=15\/(i.1=17/\result≠0) then yc hd i.2.2.2.2.1 else if i.1=16 then zK hd i.2.2.2.2.1 else hd,())
theorem Wq{op:Int} (h:op=15\/op=16\/op=17):oZ vs ms cs fs op=ms.length:=by
 unfold oZ;rw[if_neg (by omega),if_pos h]
theorem BF(h:rO ms fs bound t) (h1:t.2.2.2.2.2.2.2.1=1):t.2.2.2.2.2.2.2.2.1=0/\t.2.2.2.2.1 < bound/\∃i,lZ fs t.2.1 t.2.2.1=some i/\je i.1=true/\jm t.1 t.2.2.2.2.2.1 t.2.2.2.2.2.2.1 t.2.2.2.2.2.2.2.2.2.1 i=0:=by
 obtain⟨id,fn,pc,rg,st,ch,ph,su,fa,hd,u⟩:=t;have h1:su=1:=h1;subst h1;obtain⟨hf,q | q | q⟩:=h
 .obtain⟨q1,q2,i,hi,hv,ho⟩:=q;rcases q1 with⟨_,q1⟩ | ⟨q1,_⟩
  .exact⟨q2,q1,i,hi,hv,ho⟩
  .exact absurd q1 (by decide)
 .exact absurd q.1 (by decide)
 .exact absurd q.1 (by decide)
theorem FX(hc:(aC vs ms cs fs ts).1=0) (h:rO ms fs bound t) (h1:t.2.2.2.2.2.2.2.1=1) (hi:lZ fs t.2.1 t.2.2.1=some i){result:Int} (hv:bU result=true):dB ms fs bound (gu t i result):=by
 obtain⟨f0,s0,j,hj,vj,oj⟩:=BF h h1;rw[hi]at hj;cases hj;obtain⟨id,fn,pc,rg,st,ch,ph,su,fa,hd,u⟩:=t;have hf:dB ms fs bound (id,fn,pc,rg,st,ch,ph,su,fa,hd,u):=h.1;have hi:lZ fs fn pc=some i:=hi;have s0:st < bound:=s0;have oj:jm id ch ph hd i=0:=oj;have gX:=aib hi;obtain⟨a1,a2,a3,a4,a5,a6,a7,a8,a9⟩:=hf;obtain⟨k1,k2,k3,k4⟩:=ql (Ci hc a2 hi);have hpc:=Tz a3.1 gX;have hst:0<=st+1/\st+1<=bound:=⟨Int.add_nonneg a5.1 (by decide),s0⟩
 have hrg:∀k < 8,∀r,(if(ni i).2=true then rg.set (ni i).1.toNat result else rg)[k]?=some r->bU r=true:=by
  split
  .exact zH a4 hv
  .exact a4
 have ak6:∀x,SS (zK hd x)/\∀m∈zK hd x,0<=m/\m < (ms.length:Int):=λx=>⟨QG _ _,λm hm=>a8 m (zL.1 hm).1⟩
 have hadd:∀x,0<=x/\x < (ms.length:Int)->SS (yc hd x)/\∀m∈yc hd x,0<=m/\m < (ms.length:Int):=λx hx=>⟨zo _,λm hm=>by
  rcases DC.1 hm with q | q
  .exact a8 m q
  .subst q;exact hx⟩
 unfold gu;simp only;split
 .rename_i e;split
  .rename_i e0;subst e0;refine⟨a1,a2,a3,hrg,hst,a6,(ak6 _).1,(ak6 _).2,.inr ⟨.inl rfl,i,hi,e,?_⟩⟩;rw[oV];exact λq=>(zL.1 q).2 rfl
  rename_i n0;have a10:=a9.resolve_left n0;split
  .exact⟨a1,a2,a3,hrg,hst,a6,a7,a8,.inr ⟨.inr rfl,a10.2⟩⟩
  .exact⟨a1,a2,hpc,hrg,hst,a6,(hadd _ (k3 e)).1,(hadd _ (k3 e)).2,.inl rfl⟩
 .rename_i e;have e0:ph=0:=by
   rcases a9 with q | ⟨_,j,hj,q,_⟩
   .exact q
   .rw[hi]at hj;cases hj;exact absurd q e
  subst e0;have hch:0<=(if i.1=21 then ch+1 else ch)/\(if i.1=21 then ch+1 else ch)<=7/\(aQ id=4->(if i.1=21 then ch+1 else ch)=0):=by
   split
   .rename_i e21;have:(bW id ch).2=true:=by
     unfold jm at oj;rw[if_neg (by simp),if_neg e,if_neg (by omega),if_pos e21]at oj
     by_cases q:(bW id ch).2=true
     .exact q
     .rw[if_neg q]at oj;cases oj
    unfold bW at this;split at this
    .cases this
    .rename_i q;omega
   .exact a6
  refine⟨a1,a2,hpc,hrg,hst,hch,?_,?_,.inl rfl⟩
  .split
   .exact zo _
   split
   .exact QG _ _
   .exact a7
  .split
   .rename_i q;have ho:=Wq (vs:=vs) (ms:=ms) (cs:=cs) (fs:=fs) (op:=i.1) (by omega)
    rw[ho]at k2;exact(hadd _ (k2 (by omega))).2
   split
   .exact(ak6 _).2
   .exact a8
theorem NU(t:TD) (i:ID) (r:Int):(gu t i r).1=t.1/\(gu t i r).2.1=t.2.1/\(gu t i r).2.2.2.2.1=t.2.2.2.2.1+1/\(gu t i r).2.2.2.2.2.2.2.1=t.2.2.2.2.2.2.2.1/\(gu t i r).2.2.2.2.2.2.2.2.1=t.2.2.2.2.2.2.2.2.1:=by
 obtain⟨id,fn,pc,rg,st,ch,ph,su,fa,hd,u⟩:=t;unfold gu;simp only
 repeat' split
 all_goals simp
def bQ(e bound:Int):Int:=if e≠0 then e else if bound < 1\/32 < bound then 2 else 0
theorem fG{e:Int}:bQ e bound=0↔e=0/\1<=bound/\bound<=32:=by
 unfold bQ;constructor
 .intro h;split at h
  .rename_i q;exact absurd h q
  .rename_i q;split at h
   .cases h
   .omega
 .rintro⟨h1,h2,h3⟩;rw[if_neg (by omega),if_neg (by omega)]
def newS(e:Int) (fs:List FD) (bound id fn arg:Int):TD×Int:=
 if bQ e bound≠0 then(zT,bQ e bound) else if aQ id < 0 then(zT,2) else if fn < 0\/(fs.length:Int)<=fn then(zT,11) else if bU arg=false then(zT,2)
 else(eU fs bound 256 (id,fn,0,[arg,0,0,0,0,0,0,0],0,0,0,1,0,[],()),0)
theorem FY(ms:List ByteArray){fn arg:Int} (hb:1<=bound) (h1:¬aQ id < 0) (h2:¬(fn < 0\/(fs.length:Int)<=fn)) (h3:¬bU arg=false):dB ms fs bound (id,fn,0,[arg,0,0,0,0,0,0,0],0,0,0,1,0,[],()):=by
 refine⟨by omega,by omega,by omega,λk hk r hr=>?_,by omega,⟨by omega,by omega,λ_=>rfl⟩,List.Pairwise.nil,λm hm=>(nomatch hm),.inl rfl⟩
 match k,hr with
 | 0,hr=>cases hr;simpa using h3
 | k+1,hr=>
   have:r=0:=by
    have:=gZ (show[(0:Int),0,0,0,0,0,0][k]?=some r by simpa using hr)
    simpa using this
   rw[this];rfl
open Classical in
def fO(e:Int) (ms:List ByteArray) (fs:List FD) (t:TD):ID×Bool:=
 if e=0/\t.2.2.2.2.2.2.2.1=1/\rO ms fs 32 t then atR fs t.2.1 t.2.2.1 else((0,0,0,0,0,0,0,0,()),false)
open Classical in
def kE(e:Int) (ms:List ByteArray) (fs:List FD) (bound:Int) (t:TD) (result:Int):TD×Int:=
 if bQ e bound≠0 then(zT,bQ e bound) else if¬rO ms fs bound t then(zT,1) else if t.2.2.2.2.2.2.2.1≠1 then(zT,30) else if bU result=false then(zT,2)
 else(eU fs bound 256 (gu t (atR fs t.2.1 t.2.2.1).1 result),0)
end
end Go.Proofs.YtjhenjhcbcalpaaGreatDoor
