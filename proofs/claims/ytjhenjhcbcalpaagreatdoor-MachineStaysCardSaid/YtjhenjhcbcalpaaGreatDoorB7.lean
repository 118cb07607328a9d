/- Part 7 of the proof. Conditions: the rows'. -/
import Derived.Test.YtjhenjhcbcalpaaGreatDoorB6
set_option linter.unusedSimpArgs false
set_option linter.unusedVariables false
set_option maxRecDepth 1000000
set_option maxHeartbeats 8000000
namespace Go.Proofs.YtjhenjhcbcalpaaGreatDoor
open Go Go.ni
noncomputable section
variable {i:ID}{l rg:List Int}{k:Nat}{vs:List VD}{ms cs:List ByteArray}{fs:List FD}{d:bT [nS,oP]}{ts:List SD}{m id ch pc bound:Int}
def Jq(s:ByteArray) (i:Nat):Int:=match s[i]? with | some u=>(u.toNat:Int) | none=>0
theorem KY{s:ByteArray}{i:Nat}{u:UInt8} (h:s[i]?=some u):Jq s i=u.toNat:=by simp[Jq,h]
def okB(c:Int):Bool:=uI c || decide (c=95) || decide (48<=c/\c<=57)
def dH(s:ByteArray):Bool:=decide (1<=s.size/\s.size<=16) && uI (Jq s 0) && (List.range s.size).all λi=>okB (Jq s i)
abbrev aoE:CT:={ ps:=[.str],pre:=λd=>True,res:=λd=>([],vB (dH d.1)) }
abbrev ak4(s:ByteArray):Nat->Option (St->kS):=λk=>match k with
 | 4=>some λ_=>.inv { α:=Nat,slots:=λk=>[(20,.c (.v (.int .i64 k)))],res:=λk=>[],inv:=λk=>k<=((List.range s.size)).length/\∀j < k,okB (Jq s j)=true,meas:=λk=>((List.range s.size)).length - k }
 | _=>none
theorem afV(s:ByteArray):
 let z5:=(s.size:Int) < (1:Int);let z3:=!(decide z5 || decide (16 < (s.size:Int)));let z6:=List.range s.size;let z2:=λ(x:Nat)=>(x<=z6.length/\∀(j:Nat),j < x->okB (Jq s j)=true);let z4:=λ(u u_1:UInt8)=>!uI (u.toNat:Int) && !decide ((u_1.toNat:Int)=(95:Int));let z1:=λ(u_2 u u_1:UInt8)=>!decide ((u_2.toNat:Int) < (48:Int)) && (z4 u u_1);(z3=true->(0:Int)<=(0:Int)/\0 < (s.size:Int))/\∀(u:UInt8),(z3=true->s[0]?=some u)->(z3=true->True)/\br (decide z5 || decide (16 < (s.size:Int)) || !uI (u.toNat:Int)) (qB (dH s) false) ((∃x,(z2 x)/\(cI 0=cI (x:Int)/\True)/\([]:List fD)=[])/\∀(x:Nat),(z2 x)->br (decide ((x:Int) < (s.size:Int))) ((0<=(x:Int)/\(x:Int) < (s.size:Int))/\∀(u:UInt8),s[(x:Int).toNat]?=some u->True/\((!uI (u.toNat:Int))=true->0<=(x:Int)/\(x:Int) < (s.size:Int))/\∀(u_1:UInt8),((!uI (u.toNat:Int))=true->s[(x:Int).toNat]?=some u_1)->((z4 u u_1)=true->0<=(x:Int)/\(x:Int) < (s.size:Int))/\∀(u_2:UInt8),((z4 u u_1)=true->s[(x:Int).toNat]?=some u_2)->((z1 u_2 u u_1)=true->0<=(x:Int)/\(x:Int) < (s.size:Int))/\∀(u_3:UInt8),((z1 u_2 u u_1)=true->s[(x:Int).toNat]?=some u_3)->br (!uI (u.toNat:Int) && !decide ((u_1.toNat:Int)=(95:Int)) && (decide ((u_2.toNat:Int) < (48:Int)) || decide (57 < (u_3.toNat:Int)))) (qB (dH s) false) (iR ((x:Int)+(1:Int))/\∃x',(z2 x')/\(cI ((x:Int)+(1:Int))=cI (x':Int)/\True)/\([]:List fD)=[]/\z6.length - x' < z6.length - x)) (qB (dH s) true)):=by
 conv=>zeta
 delta fD cI qB iR;have hs2:(!(decide ((s.size:Int) < (1:Int)) || decide ((16:Int) < (s.size:Int))))=true↔(1<=s.size/\s.size<=16):=by
  simp only[II,oV,gW];omega
 refine⟨λh=>by have:=hs2.1 h;omega,λu hu=>⟨λ_=>trivial,ah.2 ⟨λh=>⟨rfl,?_⟩,λh=>?_⟩⟩⟩
 .have:dH s=false:=by
   unfold dH
   by_cases hs:1<=s.size/\s.size<=16
   .have e:=KY (hu (hs2.2 hs));simp only[DJ,dW,II]at h;have h0:uI (Jq s 0)=false:=by
     rw[e];rcases h with(h | h) | h
     .omega
     .omega
     .exact h
    rw[h0];simp
   .rw[Dk hs];rfl
  rw[this]
 .simp only[oV,gW,Di]at h;obtain⟨⟨h1,h2⟩,h3⟩:=h;have hs:1<=s.size/\s.size<=16:=by omega
  have e:=KY (hu (hs2.2 hs));have hl:(List.range s.size).length=s.size:=List.length_range;rw[hl];refine⟨⟨0,⟨by omega,λj hj=>by omega⟩,⟨rfl,trivial⟩,rfl⟩,λk hk=>ah.2 ⟨λh=>?_,λh=>?_⟩⟩
  .simp only[dW]at h;have hN:(k:Int).toNat=k:=by omega
   rw[hN];refine⟨by omega,λv hv=>⟨trivial,λ_=>by omega,λv1 hv1=>⟨λ_=>by omega,λv2 hv2=>⟨λ_=>by omega,λv3 hv3=>?_⟩⟩⟩⟩
   have ev:=KY hv;have bad:okB (Jq s k)=false->dH s=false:=by
    intro hb;unfold dH;have:((List.range s.size).all λi=>okB (Jq s i))=false:=by
     rw[List.all_eq_false];exact⟨k,by simp;omega,by rw[hb];simp⟩
    rw[this];simp
   have fin:okB (Jq s k)=true->(InR IntKind.i64 ((k:Int)+1)/\∃x',(x'<=s.size/\∀(j:Nat),j < x'->okB (Jq s j)=true)/\(SV.c (SC.v (Value.int IntKind.i64 ((k:Int)+1)))=SV.c (SC.v (Value.int IntKind.i64 (x':Int)))/\True)/\([]:List (Go.ni.Gd×Go.ni.au))=[]/\s.size - x' < s.size - k):=λho=>
    ⟨ay.2 (by omega),k+1,⟨by omega,λj hj=>by
     by_cases jY:j=k
     .rw[jY];exact ho
     .exact hk.2 j (by omega)⟩,⟨rfl,trivial⟩,rfl,by omega⟩
   cases hA:uI (v.toNat:Int) with
   | true=>
     refine ah.2 ⟨λh=>by simp at h,λ_=>fin ?_⟩
     rw[ev];unfold okB;rw[hA];rfl
   | false=>
     have hv1:=hv1 (by rw[hA];rfl)
     rw[hv]at hv1;cases hv1
     by_cases h95:(v.toNat:Int)=95
     .refine ah.2 ⟨λh=>by simp[h95]at h,λ_=>fin ?_⟩
      rw[ev];unfold okB;simp[h95]
     .have hd95:decide ((v.toNat:Int)=95)=false:=Dk h95;have hv2:=hv2 (by rw[hA,hd95];rfl)
      rw[hv]at hv2;cases hv2
      by_cases h48:(v.toNat:Int) < 48
      .refine ah.2 ⟨λ_=>⟨rfl,?_⟩,λh=>by simp[h95,h48]at h⟩
       rw[bad (by rw[ev];unfold okB;rw[hA,hd95];simp;omega)]
      .have aqH:decide ((v.toNat:Int) < 48)=false:=Dk h48;have hv3:=hv3 (by rw[hA,hd95,aqH];rfl)
       rw[hv]at hv3;cases hv3
       by_cases h57:57 < (v.toNat:Int)
       .refine ah.2 ⟨λ_=>⟨rfl,?_⟩,λh=>by simp[h95,h57]at h⟩
        rw[bad (by rw[ev];unfold okB;rw[hA,hd95];simp;omega)]
       .refine ah.2 ⟨λh=>by simp[h95,h48,h57]at h,λ_=>fin ?_⟩
        rw[ev];unfold okB;rw[hA,hd95];simp;omega
  .simp only[gW]at h;have:dH s=true:=by
    unfold dH;rw[Ph hs,e,h3];simp only[Ia];rw[RG];intro i hi;simp at hi;exact hk.2 i (by omega)
   rw[this];exact⟨rfl,rfl⟩
theorem aaN:aW aT.gd 208 aoE:=
 kD (cx:=aT) (n:=47) (cl:=[(214,aiw)]) aB ⟨aaF,trivial⟩ Tryz.func208 λd hd=>by
  obtain⟨s,⟨⟩⟩:=d;exact⟨ak4 s,cast (by kernel_rfl) (afV s)⟩
def gY(l:List ByteArray):Int×Int:=match(List.range l.length).find? (λi=>!dH (l.getD i ⟨#[]⟩) || vH (l.take i) (l.getD i ⟨#[]⟩)) with
 | some i=>(if dH (l.getD i ⟨#[]⟩) then 7 else 6,i)
 | none=>(0,-1)
theorem xC{l:List ByteArray} (hk:k < l.length) (h:∀j < k,dH (l.getD j ⟨#[]⟩)=true/\vH (l.take j) (l.getD j ⟨#[]⟩)=false) (hf:dH (l.getD k ⟨#[]⟩)=false\/vH (l.take k) (l.getD k ⟨#[]⟩)=true):
 gY l=(if dH (l.getD k ⟨#[]⟩) then 7 else 6,(k:Int)):=by
 unfold gY;rw[show(List.range l.length).find? (λi=>!dH (l.getD i ⟨#[]⟩) || vH (l.take i) (l.getD i ⟨#[]⟩))=some k from List.find?_range_eq_some.2 ⟨by rcases hf with hf | hf<;>rw[hf]<;>simp,by simpa using hk,λj hj=>by obtain⟨a,b⟩:=h j hj;rw[a,b];rfl⟩]
theorem Oj{l:List ByteArray} (h:∀j < l.length,dH (l.getD j ⟨#[]⟩)=true/\vH (l.take j) (l.getD j ⟨#[]⟩)=false):gY l=(0,-1):=by
 unfold gY;rw[show(List.range l.length).find? (λi=>!dH (l.getD i ⟨#[]⟩) || vH (l.take i) (l.getD i ⟨#[]⟩))=none from Xo.2 λi hi=>by
  obtain⟨a,b⟩:=h i (by simpa using hi)
  rw[a,b];simp]
abbrev aaO:CT:={ ps:=[.sl .str],pre:=λd=>d.1.length<=1000000,res:=λd=>([],.iO [.c (.v (.int .i64 (gY d.1).1)),.c (.v (.int .i64 (gY d.1).2))]) }
abbrev ak5(l:List ByteArray):Nat->Option (St->kS):=λk=>match k with
 | 2=>some λ_=>.inv { α:=Nat,slots:=λk=>[(8,.c (.v (.int .i64 k)))],res:=λk=>[],inv:=λk=>k<=(l).length/\∀j < k,dH (l.getD j ⟨#[]⟩)=true/\vH (l.take j) (l.getD j ⟨#[]⟩)=false,meas:=λk=>(l).length - k }
 | _=>none
theorem afW(l:List ByteArray) (aH:aaO.pre (l,())):
 let z1:=λ(x:Nat)=>(x<=l.length/\∀(j:Nat),j < x->dH (l.getD j { data:=#[]:ByteArray })=true/\vH (List.take j l) (l.getD j { data:=#[]:ByteArray })=false);let z2:=[cI ((gY l).fst),cI ((gY l).snd)];(∃x,(z1 x)/\(cI 0=cI (x:Int)/\True)/\([]:List fD)=[])/\∀(x:Nat),(z1 x)->br (decide ((x:Int) < (l.length:Int))) ((0<=(x:Int)/\(x:Int) < (l.length:Int))/\∀(d:ByteArray),l[(x:Int).toNat]?=some d->True/\br (!dH d) (rT z2 [cI 6,cI (x:Int)]) (((0:Int)<=(0:Int)/\0<=(x:Int)/\(x:Int)<=(l.length:Int))/\(List.drop 0 (List.take (x:Int).toNat l)).length<=1000000/\br (vH (List.drop 0 (List.take (x:Int).toNat l)) d) (rT z2 [cI 7,cI (x:Int)]) (iR ((x:Int)+(1:Int))/\∃x',(z1 x')/\(cI ((x:Int)+(1:Int))=cI (x':Int)/\True)/\([]:List fD)=[]/\l.length - x' < l.length - x))) (rT z2 [cI 0,cI (-1)]):=by
 conv=>zeta
 delta fD cI rT iR;have hp:l.length<=1000000:=aH;refine⟨⟨0,⟨by omega,λj hj=>by omega⟩,⟨rfl,trivial⟩,rfl⟩,λk hk=>ah.2 ⟨λh=>?_,λh=>?_⟩⟩
 .simp only[dW]at h;have hN:(k:Int).toNat=k:=by omega
  rw[hN];refine⟨by omega,λd hd=>?_⟩
  have hg:l.getD k ⟨#[]⟩=d:=by rw[LQ,hd];rfl
  refine⟨trivial,ah.2 ⟨λh2=>⟨rfl,?_⟩,λh2=>⟨⟨by omega,by omega,by omega⟩,by simp;omega,ah.2 ⟨λh3=>⟨rfl,?_⟩,λh3=>⟨ay.2 (by omega),k+1,⟨by omega,λj hj=>?_⟩,⟨rfl,trivial⟩,rfl,by omega⟩⟩⟩⟩⟩
  .have h2:dH d=false:=by simpa using h2
   rw[xC (by omega) hk.2 (.inl (by rw[hg];exact h2)),hg,h2];rfl
  .have h2:dH d=true:=by simpa using h2
   have h3:vH (l.take k) d=true:=by simpa using h3
   rw[xC (by omega) hk.2 (.inr (by rw[hg];exact h3)),hg,h2];rfl
  .by_cases jY:j=k
   .subst jY;rw[hg];exact⟨by simpa using h2,by simpa using h3⟩
   .exact hk.2 j (by omega)
 .simp only[gW]at h;rw[Oj λj hj=>hk.2 j (by omega)];exact⟨rfl,rfl⟩
theorem aaP:aW aT.gd 184 aaO:=
 kD (cx:=aT) (n:=24) (cl:=[(208,aoE),(209,QV)]) aB ⟨aaN,aaM,trivial⟩ Tryz.func184 λd hd=>by
  obtain⟨l,⟨⟩⟩:=d;exact⟨ak5 l,cast (by kernel_rfl) (afW l hd)⟩
def ciS(vs:List VD) (ms cs:List ByteArray) (fs:List FD) (e op obj n m:Int):Int:=if e≠0 then e else if 0<=pR vs ms cs fs op/\(obj < 0\/pR vs ms cs fs op<=obj) then 11 else if op=18/\(n < 0\/(ms.length:Int)<=n) then 11 else if(op=4\/op=5)/\(n < 0\/m < n) then 12 else 0
abbrev qX(i:ID):Int:=pK i.1 i.2.1 i.2.2.1 i.2.2.2.1 i.2.2.2.2.1 i.2.2.2.2.2.1 i.2.2.2.2.2.2.1 i.2.2.2.2.2.2.2.1
abbrev xE(vs:List VD) (ms cs:List ByteArray) (fs:List FD) (i:ID) (m:Int):Int:=ciS vs ms cs fs (qX i) i.1 i.2.2.2.2.1 i.2.2.2.2.2.1 m
abbrev aoF:CT:={ ps:=[sS,oP,.int .i64],pre:=λd=>True,res:=λd=>([],.one (.c (.v (.int .i64 (xE d.1.1 d.1.2.1 d.1.2.2.1 d.1.2.2.2.1 d.2.1 d.2.2.1))))) }
theorem afX(vs:List VD) (ms cs:List ByteArray) (fs:List FD) (ts:List SD) (op a b c obj n fn ord m:Int):
 let z3:=pK op a b c obj n fn ord;let z2:=ciS vs ms cs fs z3 op obj n m;let z1:=qI z2 (11:Int);True/\br (!decide (pK op a b c obj n fn ord=0)) (qI z2 z3) (True/\br (decide (0<=pR vs ms cs fs op) && (decide (obj < 0) || decide (pR vs ms cs fs op<=obj))) z1 (br (decide (op=18) && (decide (n < 0) || decide ((ms.length:Int)<=n))) z1 (br ((decide (op=4) || decide (op=5)) && (decide (n < 0) || decide (m < n))) (qI z2 (12:Int)) (qI z2 (0:Int))))):=by
 conv=>zeta
 delta qI;generalize pK op a b c obj n fn ord=e;unfold ciS;generalize pR vs ms cs fs op=o;refine⟨trivial,ah.2 ⟨λh=>⟨rfl,?_⟩,λh=>⟨trivial,ah.2 ⟨λh2=>⟨rfl,?_⟩,λh2=>ah.2 ⟨λh3=>⟨rfl,?_⟩,λh3=>ah.2 ⟨λh4=>⟨rfl,?_⟩,λh4=>⟨rfl,?_⟩⟩⟩⟩⟩⟩⟩
 all_goals simp only[II,Di,A8,DJ,A98,oV,dW,gW]at *
 all_goals (congr 4;(repeat' split)<;>first | rfl | omega | (exfalso;omega))
theorem aaQ:aW aT.gd 190 aoF:=
 kD (cx:=aT) (n:=66) (cl:=[(168,akL),(211,aix)]) aB ⟨N7,aaH,trivial⟩ Tryz.func190 λd hd=>by
  obtain⟨⟨vs,ms,cs,fs,ts,⟨⟩⟩,⟨op,a,b,c,obj,n,fn,ord,⟨⟩⟩,m,⟨⟩⟩:=d;exact⟨λ_=>none,cast (by kernel_rfl) (afX vs ms cs fs ts op a b c obj n fn ord m)⟩
def DU(vs:List VD) (ms cs:List ByteArray) (fs:List FD):Int×Int×Int:=
 if(gY (iy vs)).1≠0 then((gY (iy vs)).1,-1,-1) else if(gY ms).1≠0 then((gY ms).1,-1,-1) else if(gY cs).1≠0 then((gY cs).1,-1,-1) else((gY (jA fs)).1,(gY (jA fs)).2,-1)
theorem ak6{d:List ByteArray} (hd:[iy vs,ms,cs][k]?=some d) (h:(gY d).1≠0) (hn:∀j < k,∀x,[iy vs,ms,cs][j]?=some x->(gY x).1=0):
 DU vs ms cs fs=((gY d).1,-1,-1):=by
 unfold DU
 match k,hd,hn with
 | 0,hd,hn=>simp at hd;subst hd;rw[if_pos h]
 | 1,hd,hn=>
   simp at hd;subst hd;have h0:=hn 0 (by omega) (iy vs) rfl
   rw[if_neg (by rw[h0];simp),if_pos h]
 | 2,hd,hn=>
   simp at hd;subst hd;have h0:=hn 0 (by omega) (iy vs) rfl
   have h1:=hn 1 (by omega) ms rfl
   rw[if_neg (by rw[h0];simp),if_neg (by rw[h1];simp),if_pos h]
 | k+3,hd,hn=>simp at hd
theorem aoG(hn:∀(j:Nat) x,[iy vs,ms,cs][j]?=some x->(gY x).1=0):DU vs ms cs fs=((gY (jA fs)).1,(gY (jA fs)).2,-1):=by
 unfold DU;have h0:=hn 0 (iy vs) rfl;have h1:=hn 1 ms rfl;have h2:=hn 2 cs rfl;rw[if_neg (by rw[h0];simp),if_neg (by rw[h1];simp),if_neg (by rw[h2];simp)]
abbrev ak7:CT:={ ps:=[sS],pre:=λd=>d.1.1.length<=1000000/\d.1.2.1.length<=1000000/\d.1.2.2.1.length<=1000000/\d.1.2.2.2.1.length<=1000000,res:=λd=>([],.iO [.c (.v (.int .i64 ((DU d.1.1 d.1.2.1 d.1.2.2.1 d.1.2.2.2.1).1))),.agg [.v (.int .i64 ((DU d.1.1 d.1.2.1 d.1.2.2.1 d.1.2.2.2.1).2.1)),.v (.int .i64 ((DU d.1.1 d.1.2.1 d.1.2.2.1 d.1.2.2.2.1).2.2))]]) }
abbrev ak8(vs:List VD) (ms cs:List ByteArray) (fs:List FD) (ts:List SD):Nat->Option (St->kS):=λk=>match k with
 | 2=>some λ_=>.inv { α:=Nat,slots:=λk=>[(18,.c (.v (.int .i64 k)))],res:=λk=>[],inv:=λk=>k<=([iy vs,ms,cs]).length/\∀j < k,∀x,[iy vs,ms,cs][j]?=some x->(gY x).1=0,meas:=λk=>([iy vs,ms,cs]).length - k }
 | _=>none
abbrev CP:=[v6 (-1),v6 (-1)]
theorem afY(vs:List VD) (ms cs:List ByteArray) (fs:List FD) (ts:List SD) (aH:ak7.pre ((vs,ms,cs,fs,ts,()),())):
 let z3:=[iy vs,ms,cs];let z1:=[g0 (au.blk 27 [SC.sl KW vs,SC.sl Sh.str ms,SC.sl Sh.str cs,SC.sl H8 fs,SC.sl nS ts]),g0 (au.blk 162 [v6 0,v6 0]),g0 au.gone,g0 (au.row 23 Sh.str.sl z3)];let z4:=DU vs ms cs fs;let z2:=[cI (z4.fst),SV.agg [v6 (z4.snd.fst),v6 (z4.snd.snd)]];vs.length<=1000000/\(∃x,(x<=z3.length/\∀(j:Nat),j < x->∀(x:List ByteArray),z3[j]?=some x->(gY x).fst=0)/\(cI 0=cI (x:Int)/\True)/\sm z1)/\∀(x:Nat),(x<=z3.length/\∀(j:Nat),j < x->∀(x:List ByteArray),z3[j]?=some x->(gY x).fst=0)->br (decide ((x:Int) < (z3.length:Int))) ((0<=(x:Int)/\(x:Int) < (z3.length:Int))/\(x:Int).toNat < z3.length/\∀(d:List ByteArray),z3[(x:Int).toNat]?=some d->d.length<=1000000/\br (!decide ((gY d).fst=0)) (rT z2 [cI ((gY d).fst),SV.agg CP]) (iR ((x:Int)+(1:Int))/\∃x',(x'<=z3.length/\∀(j:Nat),j < x'->∀(x:List ByteArray),z3[j]?=some x->(gY x).fst=0)/\(cI ((x:Int)+(1:Int))=cI (x':Int)/\True)/\sm z1/\z3.length - x' < z3.length - x)) (fs.length<=1000000/\(jA fs).length<=1000000/\rT z2 [cI ((gY (jA fs)).fst),SV.agg [v6 ((gY (jA fs)).snd),v6 (-1)]]):=by
 conv=>zeta
 delta CP v6 cI g0 rT sm I6 iR;obtain⟨hp1,hp2,hp3,hp4⟩:vs.length<=1000000/\ms.length<=1000000/\cs.length<=1000000/\fs.length<=1000000:=aH;refine⟨hp1,?_⟩;refine⟨⟨0,⟨by omega,λj hj=>by omega⟩,⟨rfl,trivial⟩,rfl⟩,λk hk=>ah.2 ⟨λh=>?_,λh=>?_⟩⟩
 .have h3:k < 3:=by simp at h;omega
  have h:k < [iy vs,ms,cs].length:=h3;have hN:(k:Int).toNat=k:=by omega
  rw[hN];refine⟨⟨by omega,by omega⟩,h,λd hd=>⟨?_,ah.2 ⟨λh2=>⟨rfl,?_⟩,λh2=>⟨ay.2 (by omega),k+1,⟨by omega,λj hj x hx=>?_⟩,⟨rfl,trivial⟩,rfl,by omega⟩⟩⟩⟩
  .have:d∈[iy vs,ms,cs]:=iM hd;simp only[ng,List.not_mem_nil,or_false]at this;rcases this with rfl | rfl | rfl
   .simpa[iy]using hp1
   .exact hp2
   .exact hp3
  .rw[ak6 hd (by simpa using h2) hk.2]
  .by_cases jY:j=k
   .subst jY;rw[hd]at hx;cases hx;simpa using h2
   .exact hk.2 j (by omega) x hx
 .have h:¬k < [iy vs,ms,cs].length:=by
   have:¬k < 3:=by simp at h;omega
   exact this
  refine⟨hp4,by simpa[jA]using hp4,rfl,?_⟩
  rw[aoG λj x hx=>hk.2 j (by have:=(eG.1 hx).1;omega) x hx]
theorem aaR:aW aT.gd 143 ak7:=
 kD (cx:=aT) (n:=41) (cl:=[(183,QO),(184,aaO),(185,QS)]) aB ⟨aaI,aaP,aaJ,trivial⟩ Tryz.func143 λd hd=>by
  obtain⟨⟨vs,ms,cs,fs,ts,⟨⟩⟩,⟨⟩⟩:=d;exact⟨ak8 vs ms cs fs ts,cast (by kernel_rfl) (afY vs ms cs fs ts hd)⟩
def BG(vs:List VD) (ms cs:List ByteArray) (fs:List FD):Int:=if 8 < vs.length\/4 < ms.length\/4 < cs.length\/8 < fs.length then 4 else if vs.all λv=>cO v.2.1 then 0 else 2
abbrev aoH:CT:={ ps:=[sS],pre:=λd=>True,res:=λd=>([],.iO [.c (.v (.int .i64 (BG d.1.1 d.1.2.1 d.1.2.2.1 d.1.2.2.2.1))),.agg [.v (.int .i64 (-1)),.v (.int .i64 (-1))]]) }
abbrev ak9(vs:List VD) (ms cs:List ByteArray) (fs:List FD) (ts:List SD):Nat->Option (St->kS):=λk=>match k with
 | 5=>some λ_=>.inv { α:=Nat,slots:=λk=>[(34,.c (.v (.int .i64 k)))],res:=λk=>[],inv:=λk=>k<=(vs).length/\∀j < k,∀v,vs[j]?=some v->cO v.2.1=true,meas:=λk=>(vs).length - k }
 | _=>none
abbrev kq8:=[cI 0,SV.agg [v6 (-1),v6 (-1)]]
theorem afZ(vs:List VD) (ms cs:List ByteArray) (fs:List FD) (ts:List SD):
 let z3:=[cI (BG vs ms cs fs),SV.agg CP];let z2:=λ(x:Nat)=>(x<=vs.length/\∀(j:Nat),j < x->∀(v:ByteArray×Int×Unit),vs[j]?=some v->cO v.snd.fst=true);let z1:=[g0 (au.blk 27 [SC.sl KW vs,SC.sl Sh.str ms,SC.sl Sh.str cs,SC.sl H8 fs,SC.sl nS ts]),g0 (au.blk 162 [v6 0,v6 0]),g0 (au.blk 162 CP)];br (decide (8 < (vs.length:Int)) || decide (4 < (ms.length:Int)) || decide (4 < (cs.length:Int)) || decide (8 < (fs.length:Int))) (rT z3 [cI 4,SV.agg CP]) ((∃x,(z2 x)/\(cI 0=cI (x:Int)/\True)/\sm z1)/\∀(x:Nat),(z2 x)->br (decide ((x:Int) < (vs.length:Int))) ((0<=(x:Int)/\(x:Int) < (vs.length:Int))/\∀(d:ByteArray×(I6.pair Sh.unit).den),vs[(x:Int).toNat]?=some d->True/\br (!cO (d.snd.fst,()).fst) (rT z3 [cI 2,SV.agg CP]) (iR ((x:Int)+(1:Int))/\∃x',(z2 x')/\(cI ((x:Int)+(1:Int))=cI (x':Int)/\True)/\sm z1/\vs.length - x' < vs.length - x)) (rT z3 kq8)):=by
 conv=>zeta
 delta CP kq8 v6 cI g0 rT sm I6 iR
 by_cases hc:8 < vs.length\/4 < ms.length\/4 < cs.length\/8 < fs.length
 .have e:BG vs ms cs fs=4:=by unfold BG;rw[if_pos hc]
  rw[e];refine ah.2 ⟨λ_=>⟨rfl,rfl⟩,λh=>?_⟩
  simp only[oV,gW]at h;omega
 refine ah.2 ⟨λh=>?_,λh=>⟨⟨0,⟨by omega,λj hj=>by omega⟩,⟨rfl,trivial⟩,rfl⟩,λk hk=>ah.2 ⟨λh2=>?_,λh2=>?_⟩⟩⟩
 .simp only[DJ,dW]at h;omega
 .simp only[dW]at h2;have hN:(k:Int).toNat=k:=by omega
  rw[hN];refine⟨by omega,λd hd=>⟨trivial,ah.2 ⟨λh3=>⟨rfl,?_⟩,λh3=>⟨ay.2 (by omega),k+1,⟨by omega,λj hj v hv=>?_⟩,⟨rfl,trivial⟩,rfl,by omega⟩⟩⟩⟩
  .have h3:cO d.2.1=false:=by simpa using h3
   have e:BG vs ms cs fs=2:=by
    unfold BG;rw[if_neg hc,if_neg];intro hh;rw[RG]at hh;have:=hh d (iM hd);rw[h3]at this;cases this
   rw[e]
  .have h3:cO d.2.1=true:=by simpa using h3
   by_cases jY:j=k
   .subst jY;rw[hd]at hv;cases hv;exact h3
   .exact hk.2 j (by omega) v hv
 .simp only[gW]at h2;have e:BG vs ms cs fs=0:=by
   unfold BG;rw[if_neg hc,if_pos];rw[RG];intro v hv;obtain⟨j,hj⟩:=Hu hv;exact hk.2 j (by have:=(eG.1 hj).1;omega) v hj
  rw[e];exact⟨rfl,rfl⟩
theorem aaS:aW aT.gd 144 aoH:=
 kD (cx:=aT) (n:=45) (cl:=[(186,aaG)]) aB ⟨Oh,trivial⟩ Tryz.func144 λd hd=>by
  obtain⟨⟨vs,ms,cs,fs,ts,⟨⟩⟩,⟨⟩⟩:=d;exact⟨ak9 vs ms cs fs ts,cast (by kernel_rfl) (afZ vs ms cs fs ts)⟩
def Ej(n:Nat) (t:SD):Int:=if t.1 < 0\/(n:Int)<=t.1 then 11 else if cO t.2.1 then 0 else 2
def Em(fs:List FD) (ts:List SD):Int:=if ts.length < 1\/8 < ts.length then 4 else match ts.find? (λt=>decide (Ej fs.length t≠0)) with | some t=>Ej fs.length t | none=>0
theorem yY{α:Type}{l:List α}{p:α->Bool}{d:α} (hd:l[k]?=some d) (hp:p d=true) (hn:∀j < k,∀t,l[j]?=some t->p t=false):l.find? p=some d:=by
 induction l generalizing k with
 | nil=>simp at hd
 | cons x l ih=>
   cases k with
   | zero=>simp at hd;subst hd;simp[hp]
   | succ k=>
     have h0:=hn 0 (by omega) x (by simp)
     rw[List.find?_cons,h0];exact ih (by simpa using hd) λj hj t ht=>hn (j+1) (by omega) t (by simpa using ht)
theorem TR{α:Type}{l:List α}{p:α->Bool} (hn:∀(j:Nat) t,l[j]?=some t->p t=false):l.find? p=none:=by
 rw[Xo];intro x hx;obtain⟨j,hj⟩:=Hu hx;rw[hn j x hj];simp
theorem AB{d:SD} (hc:¬(ts.length < 1\/8 < ts.length)) (hd:ts[k]?=some d) (h:Ej fs.length d≠0) (hn:∀j < k,∀t,ts[j]?=some t->Ej fs.length t=0):Em fs ts=Ej fs.length d:=by
 unfold Em;rw[if_neg hc,yY hd (by simpa using h) λj hj t ht=>by simpa using hn j hj t ht]
theorem TS(hc:¬(ts.length < 1\/8 < ts.length)) (hn:∀(j:Nat) t,ts[j]?=some t->Ej fs.length t=0):Em fs ts=0:=by
 unfold Em;rw[if_neg hc,TR λj t ht=>by simpa using hn j t ht]
abbrev aoJ:CT:={ ps:=[sS],pre:=λd=>True,res:=λd=>([],.iO [.c (.v (.int .i64 (Em d.1.2.2.2.1 d.1.2.2.2.2.1))),.agg [.v (.int .i64 (-1)),.v (.int .i64 (-1))]]) }
abbrev ala(vs:List VD) (ms cs:List ByteArray) (fs:List FD) (ts:List SD):Nat->Option (St->kS):=λk=>match k with
 | 5=>some λ_=>.inv { α:=Nat,slots:=λk=>[(22,.c (.v (.int .i64 k)))],res:=λk=>[],inv:=λk=>k<=(ts).length/\∀j < k,∀t,ts[j]?=some t->Ej fs.length t=0,meas:=λk=>(ts).length - k }
 | _=>none
theorem af0(vs:List VD) (ms cs:List ByteArray) (fs:List FD) (ts:List SD):
 let z3:=[cI (Em fs ts),SV.agg CP];let z2:=λ(x:Nat)=>(x<=ts.length/\∀(j:Nat),j < x->∀(t:Int×Int×Unit),ts[j]?=some t->Ej fs.length t=0);let z1:=[g0 (au.blk 27 [SC.sl KW vs,SC.sl Sh.str ms,SC.sl Sh.str cs,SC.sl H8 fs,SC.sl nS ts]),g0 (au.blk 162 [v6 0,v6 0]),g0 (au.blk 162 CP)];br (decide ((ts.length:Int) < (1:Int)) || decide (8 < (ts.length:Int))) (rT z3 [cI 4,SV.agg CP]) ((∃x,(z2 x)/\(cI 0=cI (x:Int)/\True)/\sm z1)/\∀(x:Nat),(z2 x)->br (decide ((x:Int) < (ts.length:Int))) ((0<=(x:Int)/\(x:Int) < (ts.length:Int))/\∀(d:Int×(I6.pair Sh.unit).den),ts[(x:Int).toNat]?=some d->br (decide (d.fst < 0) || decide ((fs.length:Int)<=d.fst)) (rT z3 [cI 11,SV.agg CP]) (True/\br (!cO (d.snd.fst,()).fst) (rT z3 [cI 2,SV.agg CP]) (iR ((x:Int)+(1:Int))/\∃x',(z2 x')/\(cI ((x:Int)+(1:Int))=cI (x':Int)/\True)/\sm z1/\ts.length - x' < ts.length - x))) (rT z3 kq8)):=by
 conv=>zeta
 delta CP kq8 v6 cI g0 rT sm I6 iR
 by_cases hc:ts.length < 1\/8 < ts.length
 .have e:Em fs ts=4:=by unfold Em;rw[if_pos hc]
  rw[e];refine ah.2 ⟨λ_=>⟨rfl,rfl⟩,λh=>?_⟩
  simp only[oV,gW]at h;omega
 refine ah.2 ⟨λh=>?_,λh=>⟨⟨0,⟨by omega,λj hj=>by omega⟩,⟨rfl,trivial⟩,rfl⟩,λk hk=>ah.2 ⟨λh2=>?_,λh2=>?_⟩⟩⟩
 .simp only[DJ,dW]at h;omega
 .simp only[dW]at h2;have hN:(k:Int).toNat=k:=by omega
  rw[hN];refine⟨by omega,λd hd=>ah.2 ⟨λh3=>⟨rfl,?_⟩,λh3=>⟨trivial,ah.2 ⟨λh4=>⟨rfl,?_⟩,λh4=>⟨ay.2 (by omega),k+1,⟨by omega,λj hj v hv=>?_⟩,⟨rfl,trivial⟩,rfl,by omega⟩⟩⟩⟩⟩
  .have h3:d.1 < 0\/(fs.length:Int)<=d.1:=by simpa using h3
   have e:Ej fs.length d=11:=by unfold Ej;rw[if_pos h3]
   rw[AB hc hd (by rw[e];simp) hk.2,e]
  .have h3:¬(d.1 < 0\/(fs.length:Int)<=d.1):=by simpa using h3
   have h4:cO d.2.1=false:=by simpa using h4
   have e:Ej fs.length d=2:=by unfold Ej;rw[if_neg h3,if_neg (by rw[h4];simp)]
   rw[AB hc hd (by rw[e];simp) hk.2,e]
  .have h3:¬(d.1 < 0\/(fs.length:Int)<=d.1):=by simpa using h3
   have h4:cO d.2.1=true:=by simpa using h4
   by_cases jY:j=k
   .subst jY;rw[hd]at hv;cases hv;unfold Ej;rw[if_neg h3,if_pos h4]
   .exact hk.2 j (by omega) v hv
 .simp only[gW]at h2;rw[TS hc λj t hj=>hk.2 j (by have:=(eG.1 hj).1;omega) t hj];exact⟨rfl,rfl⟩
theorem aaT:aW aT.gd 146 aoJ:=
 kD (cx:=aT) (n:=45) (cl:=[(186,aaG)]) aB ⟨Oh,trivial⟩ Tryz.func146 λd hd=>by
  obtain⟨⟨vs,ms,cs,fs,ts,⟨⟩⟩,⟨⟩⟩:=d;exact⟨ala vs ms cs fs ts,cast (by kernel_rfl) (af0 vs ms cs fs ts)⟩
abbrev aaU:CT:={ ps:=[H8],pre:=λd=>True,res:=λd=>([],vB (decide (64 < d.1.2.1.length))) }
theorem af2(nm:ByteArray) (l:List ID):
 qB (decide (64 < l.length)) (decide (64 < (l.length:Int))):=by
 delta qB;refine⟨rfl,?_⟩
 congr 4
 rw[LX];simp only[dW];omega
theorem aaV:aW aT.gd 188 aaU:=
 kD (cx:=aT) (n:=7) (cl:=[]) aB trivial Tryz.func188 λd hd=>by
  obtain⟨⟨nm,l,⟨⟩⟩,⟨⟩⟩:=d;exact⟨λ_=>none,cast (by kernel_rfl) (af2 nm l)⟩
def dI(fs:List FD):Int:=match fs.findIdx? (λf=>decide (64 < f.2.1.length)) with | some k=>(k:Int) | none=>-1
theorem Gw{d:FD} (hd:fs[k]?=some d) (h2:64 < d.2.1.length) (hn:∀j < k,∀f,fs[j]?=some f->f.2.1.length<=64):dI fs=k:=by
 have gZ:k < fs.length:=(eG.1 hd).1;have:fs.findIdx? (λf=>decide (64 < f.2.1.length))=some k:=by
  rw[A49];refine⟨gZ,by rw[(eG.1 hd).2];simpa using h2,λj hj=>?_⟩
  have:=hn j hj fs[j] (kR (by omega))
  simpa using this
 simp[dI,this]
theorem CQ(hn:∀(j:Nat) f,fs[j]?=some f->f.2.1.length<=64):dI fs = -1:=by
 have:fs.findIdx? (λf=>decide (64 < f.2.1.length))=none:=by
  rw[A71];intro y hy;obtain⟨j,hj⟩:=Hu hy;simpa using hn j y hj
 simp[dI,this]
abbrev KZ:CT:={ ps:=[.sl H8],pre:=λd=>d.1.length<=1000000,res:=λd=>([],.one (.c (.v (.int .i64 (dI d.1))))) }
abbrev alb(fs:List FD):Nat->Option (St->kS):=λk=>match k with
 | 2=>some λ_=>.inv { α:=Nat,slots:=λk=>[(8,.c (.v (.int .i64 k)))],res:=λk=>[],inv:=λk=>k<=(fs).length/\∀j < k,∀f,fs[j]?=some f->f.2.1.length<=64,meas:=λk=>(fs).length - k }
 | _=>none
theorem af4(fs:List FD) (aH:KZ.pre (fs,())):
 let z1:=λ(x:Nat)=>(x<=fs.length/\∀(j:Nat),j < x->∀(f:ByteArray×List ID×Unit),fs[j]?=some f->f.snd.fst.length<=64);(∃x,(z1 x)/\(cI 0=cI (x:Int)/\True)/\([]:List fD)=[])/\∀(x:Nat),(z1 x)->br (decide ((x:Int) < (fs.length:Int))) ((0<=(x:Int)/\(x:Int) < (fs.length:Int))/\∀(d:ByteArray×(oP.sl.pair Sh.unit).den),fs[(x:Int).toNat]?=some d->True/\br (decide (64 < List.length (d.snd.fst,()).fst)) (qI (dI fs) (x:Int)) (iR ((x:Int)+(1:Int))/\∃x',(z1 x')/\(cI ((x:Int)+(1:Int))=cI (x':Int)/\True)/\([]:List fD)=[]/\fs.length - x' < fs.length - x)) (qI (dI fs) (-1:Int)):=by
 conv=>zeta
 delta fD cI qI I6 iR;have hp:fs.length<=1000000:=aH;refine⟨⟨0,⟨by omega,λj hj=>by omega⟩,⟨rfl,trivial⟩,rfl⟩,λk hk=>ah.2 ⟨λh=>?_,λh=>?_⟩⟩
 .simp only[dW]at h;have hN:(k:Int).toNat=k:=by omega
  rw[hN];refine⟨by omega,λd hd=>⟨trivial,ah.2 ⟨λh2=>⟨rfl,?_⟩,λh2=>⟨ay.2 (by omega),k+1,⟨by omega,λj hj f hf=>?_⟩,⟨rfl,trivial⟩,rfl,by omega⟩⟩⟩⟩
  .have h2:64 < d.2.1.length:=by simpa using h2
   rw[Gw hd h2 hk.2]
  .have h2:¬64 < d.2.1.length:=by simpa using h2
   by_cases jY:j=k
   .subst jY;rw[hd]at hf;cases hf;omega
   .exact hk.2 j (by omega) f hf
 .simp only[gW]at h;rw[CQ λj f hf=>hk.2 j (by have:=(eG.1 hf).1;omega) f hf];exact⟨rfl,rfl⟩
theorem WS:KL Tryz.prog aT.gd 187 [.func (.func 188) #[] #[]] KZ:=
 (oJ (cx:=aT) (n:=19) (cl:=[(188,aaU)]) (il:=Xj) (hl:=hlN) (ml:=mlN) (rc:=[]) (lits:=[]) (suf:=[.func (.func 188) #[] #[]]) (by kernel_rfl) aB ⟨aaV,trivial⟩ trivial trivial trivial Tryz.func187 (by kernel_rfl) (by kernel_rfl) rfl (by kernel_rfl) (by kernel_rfl) (by simp) λd hd=>by
  obtain⟨fs,⟨⟩⟩:=d;exact⟨alb fs,cast (by kernel_rfl) (af4 fs hd)⟩)
def La(vs:List VD) (ms cs:List ByteArray) (fs:List FD) (d:bT [nS,oP]):Int:=xE vs ms cs fs d.2.1 (((fs.getD d.1.1.toNat (⟨#[]⟩,[],())).2.1.length:Nat):Int)
def Gy(vs:List VD) (ms cs:List ByteArray) (fs:List FD):Int×Int×Int:=match(dO fs).find? (λd=>decide (d.1.1=dI fs) || decide (La vs ms cs fs d≠0)) with
 | some d=>if d.1.1=dI fs then(4,dI fs,-1) else(La vs ms cs fs d,d.1.1,d.1.2.1)
 | none=>if 0<=dI fs then(4,dI fs,-1) else(0,-1,-1)
theorem TT{e:FD} (he:fs[d.1.1.toNat]?=some e):La vs ms cs fs d=xE vs ms cs fs d.2.1 (e.2.1.length:Int):=by
 unfold La;rw[LQ,he];rfl
theorem xG:∀(l:List FD) (n:Nat){d:bT [nS,oP]},d∈jU n l->∃(k:Nat) (x:FD) (j:Nat) (e:ID),l[k]?=some x/\x.2.1[j]?=some e/\d=((((n+k:Nat):Int),(j:Int),()),e,())
 | [],n,d,h=>by simp[jU]at h
 | x :: l,n,d,h=>by
   simp only[jU,DY]at h;rcases h with h | h
   .unfold qL at h;obtain⟨p,hp,rfl⟩:=Pq.1 h;have:=List.mk_mem_zipIdx_iff_getElem?.1 (show(p.1,p.2)∈x.2.1.zipIdx from hp)
    exact⟨0,x,p.2,p.1,rfl,this,rfl⟩
   .obtain⟨k,y,j,e,h1,h2,rfl⟩:=xG l (n+1) h;exact⟨k+1,y,j,e,by simpa using h1,h2,by rw[show n+1+k=n+(k+1) by omega]⟩
theorem Ol{i:Nat} (hd:(dO fs)[i]?=some d):0<=d.1.1/\d.1.1 < fs.length:=by
 obtain⟨k,x,j,e,h1,h2,rfl⟩:=xG fs 0 (iM hd);have:=(eG.1 h1).1;show 0<=((0+k:Nat):Int)/\((0+k:Nat):Int) < _;omega
theorem TU{i:Nat} (hd:(dO fs)[i]?=some d) (hb:d.1.1=dI fs\/La vs ms cs fs d≠0)
 (hn:∀j < i,∀d,(dO fs)[j]?=some d->d.1.1≠dI fs/\La vs ms cs fs d=0):Gy vs ms cs fs=if d.1.1=dI fs then(4,dI fs,-1) else(La vs ms cs fs d,d.1.1,d.1.2.1):=by
 unfold Gy;rw[yY hd (by simpa using hb) λj hj t ht=>by obtain⟨a,b⟩:=hn j hj t ht;simp[a,b]]
theorem QW(hn:∀(j:Nat) d,(dO fs)[j]?=some d->d.1.1≠dI fs/\La vs ms cs fs d=0):Gy vs ms cs fs=if 0<=dI fs then(4,dI fs,-1) else(0,-1,-1):=by
 unfold Gy;rw[TR λj t ht=>by obtain⟨a,b⟩:=hn j t ht;simp[a,b]]
abbrev alc:CT:={ ps:=[sS],pre:=λd=>d.1.2.2.2.1.length<=1000000/\∀x∈d.1.2.2.2.1,x.2.1.length<=1000000,res:=λd=>([],.iO [.c (.v (.int .i64 ((Gy d.1.1 d.1.2.1 d.1.2.2.1 d.1.2.2.2.1).1))),.agg [.v (.int .i64 ((Gy d.1.1 d.1.2.1 d.1.2.2.1 d.1.2.2.2.1).2.1)),.v (.int .i64 ((Gy d.1.1 d.1.2.1 d.1.2.2.1 d.1.2.2.2.1).2.2))]]) }
abbrev ald(vs:List VD) (ms cs:List ByteArray) (fs:List FD) (ts:List SD):Nat->Option (St->kS):=λk=>match k with
 | 5=>some λ_=>.rng { α:=Nat,res:=λ_=>[],inv:=λi n=>n=i/\∀j < n,∀d,(dO fs)[j]?=some d->d.1.1≠dI fs/\La vs ms cs fs d=0 }
 | _=>none
abbrev aoK:List (Nat×Nat×CT):=[(187,188,KZ)]
theorem af5(vs:List VD) (ms cs:List ByteArray) (fs:List FD) (ts:List SD) (aH:alc.pre ((vs,ms,cs,fs,ts,()),())):
 let z5:=[g0 (au.blk 27 [SC.sl KW vs,SC.sl Sh.str ms,SC.sl Sh.str cs,SC.sl H8 fs,SC.sl nS ts]),g0 (au.blk 38 [v6 0]),g0 (au.blk 162 [v6 0,v6 0]),g0 (au.blk 3 [v6 (dI fs)])];let z11:=Gy vs ms cs fs;let z9:=[cI (z11.fst),SV.agg [v6 (z11.snd.fst),v6 (z11.snd.snd)]];let z10:=[cI 4,SV.agg [v6 (dI fs),v6 (-1)]];let z3:=((rT z9 z10)/\rT z9 z10)/\rT z9 z10;let z8:=rT z9 kq8;let z4:=λ(d:nS.den×bT [I6.pair (I6.pair (I6.pair (I6.pair (I6.pair (I6.pair nS)))))])=>(d.snd.fst.fst,d.snd.fst.snd.fst,d.snd.fst.snd.snd.fst,d.snd.fst.snd.snd.snd.fst,d.snd.fst.snd.snd.snd.snd.fst,d.snd.fst.snd.snd.snd.snd.snd.fst,d.snd.fst.snd.snd.snd.snd.snd.snd.fst,d.snd.fst.snd.snd.snd.snd.snd.snd.snd.fst,());let z6:=λ(d:nS.den×bT [I6.pair (I6.pair (I6.pair (I6.pair (I6.pair (I6.pair nS)))))])=>(d.snd.fst.snd.snd.snd.snd.fst,d.snd.fst.snd.snd.snd.snd.snd.fst,d.snd.fst.snd.snd.snd.snd.snd.snd.fst,d.snd.fst.snd.snd.snd.snd.snd.snd.snd.fst,());let z7:=λ(d:nS.den×bT [I6.pair (I6.pair (I6.pair (I6.pair (I6.pair (I6.pair nS)))))])=>(d.snd.fst.snd.snd.snd.snd.snd.fst,d.snd.fst.snd.snd.snd.snd.snd.snd.fst,d.snd.fst.snd.snd.snd.snd.snd.snd.snd.fst,());let z2:=λ(d:nS.den×bT [I6.pair (I6.pair (I6.pair (I6.pair (I6.pair (I6.pair nS)))))])=>pK (z4 d).fst (d.snd.fst.snd.fst,d.snd.fst.snd.snd.fst,d.snd.fst.snd.snd.snd.fst,d.snd.fst.snd.snd.snd.snd.fst,d.snd.fst.snd.snd.snd.snd.snd.fst,d.snd.fst.snd.snd.snd.snd.snd.snd.fst,d.snd.fst.snd.snd.snd.snd.snd.snd.snd.fst,()).fst (d.snd.fst.snd.snd.fst,d.snd.fst.snd.snd.snd.fst,d.snd.fst.snd.snd.snd.snd.fst,d.snd.fst.snd.snd.snd.snd.snd.fst,d.snd.fst.snd.snd.snd.snd.snd.snd.fst,d.snd.fst.snd.snd.snd.snd.snd.snd.snd.fst,()).fst (d.snd.fst.snd.snd.snd.fst,d.snd.fst.snd.snd.snd.snd.fst,d.snd.fst.snd.snd.snd.snd.snd.fst,d.snd.fst.snd.snd.snd.snd.snd.snd.fst,d.snd.fst.snd.snd.snd.snd.snd.snd.snd.fst,()).fst (z6 d).fst (z7 d).fst (d.snd.fst.snd.snd.snd.snd.snd.snd.fst,d.snd.fst.snd.snd.snd.snd.snd.snd.snd.fst,()).fst (d.snd.fst.snd.snd.snd.snd.snd.snd.snd.fst,()).fst;let z1:=λ(d:nS.den×bT [I6.pair (I6.pair (I6.pair (I6.pair (I6.pair (I6.pair nS)))))]) (dL:ByteArray×(oP.sl.pair Sh.unit).den)=>[cI (ciS vs ms cs fs (z2 d) (z4 d).fst (z6 d).fst (z7 d).fst ((List.length dL.snd.fst):Int)),SV.agg [v6 d.fst.fst,v6 d.fst.snd.fst]];fs.length<=1000000/\(fs.length<=1000000/\∀(x:ByteArray×(oP.sl.pair Sh.unit).den),x∈fs->List.length x.snd.fst<=1000000)/\some Tryz.prog=some Tryz.prog/\(∃x,(x=0/\∀(j:Nat),j < x->∀(d:nS.den×bT [I6.pair (I6.pair (I6.pair (I6.pair (I6.pair (I6.pair nS)))))]),(dO fs)[j]?=some d->d.fst.fst≠dI fs/\La vs ms cs fs d=0)/\sm z5)/\(∀(i x:Nat) (d:nS.den×bT [I6.pair (I6.pair (I6.pair (I6.pair (I6.pair (I6.pair nS)))))]),(x=i/\∀(j:Nat),j < x->∀(d:nS.den×bT [I6.pair (I6.pair (I6.pair (I6.pair (I6.pair (I6.pair nS)))))]),(dO fs)[j]?=some d->d.fst.fst≠dI fs/\La vs ms cs fs d=0)->(dO fs)[i]?=some d->br (decide (d.fst.fst=dI fs)) (br (decide (0<=dI fs)) z3 z8) ((0<=d.fst.fst/\d.fst.fst < (fs.length:Int))/\∀(dL:ByteArray×(oP.sl.pair Sh.unit).den),fs[Int.toNat d.fst.fst]?=some dL->True/\br (!decide (ciS vs ms cs fs (z2 d) (z4 d).fst (z6 d).fst (z7 d).fst ((List.length dL.snd.fst):Int)=(0:Int))) ((rT z9 (z1 d dL))/\rT z9 (z1 d dL)) (∃x',(x'=i+1/\∀(j:Nat),j < x'->∀(d:nS.den×bT [I6.pair (I6.pair (I6.pair (I6.pair (I6.pair (I6.pair nS)))))]),(dO fs)[j]?=some d->d.fst.fst≠dI fs/\La vs ms cs fs d=0)/\sm z5)))/\∀(x:Nat),(x=aO (dO fs)/\∀(j:Nat),j < x->∀(d:nS.den×bT [I6.pair (I6.pair (I6.pair (I6.pair (I6.pair (I6.pair nS)))))]),(dO fs)[j]?=some d->d.fst.fst≠dI fs/\La vs ms cs fs d=0)->br (decide (0<=dI fs)) z3 z8:=by
 conv=>zeta
 delta v6 cI g0 rT sm I6;refine⟨aH.1,aH,rfl,⟨0,⟨rfl,λj hj=>by omega⟩,rfl⟩,λi x d hi hd=>?_,λx hx=>?_⟩
 .obtain⟨rfl,hi⟩:=hi;refine ah.2 ⟨λh=>?_,λh=>?_⟩
  .have h:d.1.1=dI fs:=by simpa using h
   obtain⟨hb1,hb2⟩:=Ol hd;have hl:(0:Int)<=dI fs:=by rw[<-h];exact hb1
   rw[TU hd (.inl h) hi,if_pos h];exact ah.2 ⟨λ_=>⟨⟨⟨rfl,rfl⟩,rfl,rfl⟩,rfl,rfl⟩,λhh=>absurd hl (A91 hh)⟩
  .have h:¬d.1.1=dI fs:=by simpa using h
   obtain⟨hb1,hb2⟩:=Ol hd;refine⟨⟨hb1,hb2⟩,λe he=>⟨trivial,ah.2 ⟨λh2=>?_,λh2=>⟨x+1,⟨rfl,λj hj d' hd'=>?_⟩,rfl⟩⟩⟩⟩
   .have h2:La vs ms cs fs d≠0:=by rw[TT he];simpa using h2
    rw[TU hd (.inr h2) hi,if_neg h,TT he];exact⟨⟨rfl,rfl⟩,rfl,rfl⟩
   .by_cases hji:j=x
    .subst hji;rw[hd]at hd';cases hd';exact⟨h,by rw[TT he];simpa using h2⟩
    .exact hi j (by omega) d' hd'
 .obtain⟨rfl,hx⟩:=hx;refine ah.2 ⟨λh=>?_,λh=>?_⟩
  .have h:(0:Int)<=dI fs:=by simpa using h
   rw[QW λj d hd=>hx j (by rw[bC];exact(eG.1 hd).1) d hd,if_pos h]
   exact⟨⟨⟨rfl,rfl⟩,rfl,rfl⟩,rfl,rfl⟩
  .have h:¬(0:Int)<=dI fs:=by simpa using h
   rw[QW λj d hd=>hx j (by rw[bC];exact(eG.1 hd).1) d hd,if_neg h]
   exact⟨rfl,rfl⟩
theorem aaW:aW aT.gd 145 alc:=
 (oJ (cx:=aT) (n:=39) (cl:=[(189,KX),(190,aoF)]) (il:=Xj) (hl:=aoK) (ml:=mlN) (rc:=[]) (lits:=[]) (suf:=[]) (by kernel_rfl) aB ⟨aaE,aaQ,trivial⟩ trivial ⟨WS,trivial⟩ trivial Tryz.func145 (by kernel_rfl) (by kernel_rfl) rfl (by kernel_rfl) (by kernel_rfl) (by simp) λd hd=>by
  obtain⟨⟨vs,ms,cs,fs,ts,⟨⟩⟩,⟨⟩⟩:=d;exact⟨ald vs ms cs fs ts,cast (by kernel_rfl) (af5 vs ms cs fs ts hd)⟩).met
abbrev bnd(d:bT [sS]):Prop:=d.1.1.length<=1000000/\d.1.2.1.length<=1000000/\d.1.2.2.1.length<=1000000/\d.1.2.2.2.1.length<=1000000/\d.1.2.2.2.2.1.length<=1000000/\(∀x∈d.1.2.2.2.1,x.2.1.length<=1000000)/\(dO d.1.2.2.2.1).length<=1000000
def aG(vs:List VD) (ms cs:List ByteArray) (fs:List FD) (ts:List SD):Int×Int×Int:=
 if(DU vs ms cs fs).1≠0 then DU vs ms cs fs else if BG vs ms cs fs≠0 then(BG vs ms cs fs,-1,-1) else if(Gy vs ms cs fs).1≠0 then Gy vs ms cs fs else if Em fs ts≠0 then(Em fs ts,-1,-1) else(0,-1,-1)
abbrev Jr:CT:={ ps:=[sS],pre:=λd=>bnd d,res:=λd=>([],.iO [.c (.v (.int .i64 (aG d.1.1 d.1.2.1 d.1.2.2.1 d.1.2.2.2.1 d.1.2.2.2.2.1).1)),.c (.v (.int .i64 (aG d.1.1 d.1.2.1 d.1.2.2.1 d.1.2.2.2.1 d.1.2.2.2.2.1).2.1)),.c (.v (.int .i64 (aG d.1.1 d.1.2.1 d.1.2.2.1 d.1.2.2.2.1 d.1.2.2.2.2.1).2.2))]) }
theorem ale(vs:List VD) (ms cs:List ByteArray) (fs:List FD) (ts:List SD) (aH:Jr.pre ((vs,ms,cs,fs,ts,()),())):
 let z10:=DU vs ms cs fs;let z7:=z10.fst=0;let z5:=decide z7;let z6:=decide (BG vs ms cs fs=0);let z11:=Gy vs ms cs fs;let z8:=z11.fst=0;let z9:=aG vs ms cs fs ts;let z4:=[cI (z9.fst),cI (z9.snd.fst),cI (z9.snd.snd)];let z3:=rT z4 [cI 0,cI (-1),cI (-1)];let z2:=True/\br (!decide (Em fs ts=0)) (rT z4 [cI (Em fs ts),cI (-1),cI (-1)]) z3;let z1:=(fs.length<=1000000/\∀(x:ByteArray×(oP.sl.pair Sh.unit).den),x∈fs->List.length x.snd.fst<=1000000)/\br (decide z8) z2 (br (!decide z8) (rT z4 [cI (z11.fst),cI (z11.snd.fst),cI (z11.snd.snd)]) z3);(vs.length<=1000000/\ms.length<=1000000/\cs.length<=1000000/\fs.length<=1000000)/\br z5 (True/\br z6 z1 (br z6 z2 (br (!decide (BG vs ms cs fs=0)) (rT z4 [cI (BG vs ms cs fs),cI (-1),cI (-1)]) z3))) (br z5 z1 (br z5 z2 (br (!decide z7) (rT z4 [cI (z10.fst),cI (z10.snd.fst),cI (z10.snd.snd)]) z3))):=by
 conv=>zeta
 delta cI rT I6;obtain⟨h1,h2,h3,h4,h5,h6,h7⟩:bnd ((vs,ms,cs,fs,ts,()),()):=aH;have hA:∀x∈fs,x.2.1.length<=1000000:=h6;have hB:fs.length<=1000000/\∀x∈fs,x.2.1.length<=1000000:=⟨h4,h6⟩;have hC:vs.length<=1000000/\ms.length<=1000000/\cs.length<=1000000/\fs.length<=1000000:=⟨h1,h2,h3,h4⟩;clear h1 h2 h3 h4 h5 h6 h7 hA;unfold aG;simp only[ah]
 repeat' (first | exact hB | exact hC | (refine And.intro ?_ ?_) | (intro _))
 all_goals first | trivial | rfl | (clear hB hC;simp_all;done)
theorem En:aW aT.gd 74 Jr:=
 kD (cx:=aT) (n:=40) (cl:=[(143,ak7),(144,aoH),(145,alc),(146,aoJ)]) aB ⟨aaR,aaS,aaW,aaT,trivial⟩ Tryz.func74 λd hd=>by
  obtain⟨⟨vs,ms,cs,fs,ts,⟨⟩⟩,⟨⟩⟩:=d;exact⟨λ_=>none,cast (by kernel_rfl) (ale vs ms cs fs ts hd)⟩
abbrev aaX:CT:={ ps:=[sS],pre:=λd=>bnd d,res:=λd=>([],vB (decide ((aG d.1.1 d.1.2.1 d.1.2.2.1 d.1.2.2.2.1 d.1.2.2.2.2.1).1=0))) }
theorem aaY{hi:Int}:∀(l:List Int) (lo:Int),SS l->(∀x∈l,lo<=x/\x < hi)->lo<=hi->(l.length:Int)<=hi - lo
 | [],lo,_,_,h=>by simp;omega
 | x :: l,lo,hs,hb,h=>by
   obtain⟨h1,h2⟩:=A80.1 hs;obtain⟨b1,b2⟩:=hb x (by simp)
   have:=aaY l (x+1) h2 (λy hy=>⟨by have:=h1 y hy;omega,(hb y (by simp[hy])).2⟩) (by omega)
   simp only[yE];omega
theorem aaZ{n:Nat} (hs:SS l) (hb:∀x∈l,0<=x/\x < (n:Int)):l.length<=n:=by
 have:=aaY l 0 hs hb (by omega)
 omega
theorem kP(h:(aG vs ms cs fs ts).1=0):BG vs ms cs fs=0/\(Gy vs ms cs fs).1=0/\Em fs ts=0:=by
 unfold aG at h;split at h
 .rename_i h1;exact absurd h h1
 .split at h
  .rename_i h1;exact absurd h h1
  .split at h
   .rename_i h1;exact absurd h h1
   .split at h
    .rename_i h1;exact absurd h h1
    .rename_i h1 h2 h3 h4;exact⟨by omega,by omega,by omega⟩
theorem alf(h:(Gy vs ms cs fs).1=0):∀d∈dO fs,La vs ms cs fs d=0:=by
 unfold Gy at h;split at h
 .rename_i d hd;have hp:=L8 hd;split at h
  .cases h
  .rename_i h1;simp only[DJ,dW]at hp;rcases hp with hp | hp
   .exact absurd hp h1
   .exact absurd h hp
 .rename_i hd;intro d hm;have:=Xo.1 hd d hm;simp only[DJ,dW,not_or]at this;omega
theorem aQ{α:Type 1}{Q:α->Prop}{V:Prop} (a:α) (v:V) (h:V=Q a):∃a,Q a:=⟨a,cast h v⟩
def TV(vs:List VD) (ms cs:List ByteArray) (fs:List FD) (ts:List SD):Bool:=decide (vs.length<=20/\ms.length<=20/\cs.length<=20/\fs.length<=20/\ts.length<=20) && fs.all λf=>decide (f.2.1.length<=100)
abbrev aoL:CT:={ ps:=[sS],pre:=λd=>True,res:=λd=>([],vB (TV d.1.1 d.1.2.1 d.1.2.2.1 d.1.2.2.2.1 d.1.2.2.2.2.1)) }
abbrev aoM(vs:List VD) (ms cs:List ByteArray) (fs:List FD) (ts:List SD):Nat->Option (St->kS):=λk=>match k with
 | 4=>some λ_=>.inv { α:=Nat,slots:=λk=>[(3,.c (.v (.int .i64 k)))],res:=λk=>[],inv:=λk=>k<=(fs).length/\∀j < k,∀f,fs[j]?=some f->f.2.1.length<=100,meas:=λk=>(fs).length - k }
 | _=>none
theorem alg(vs:List VD) (ms cs:List ByteArray) (fs:List FD) (ts:List SD):
 let z3:=qB (TV vs ms cs fs ts) false;let z1:=λ(x:Nat)=>(x<=fs.length/\∀(j:Nat),j < x->∀(f:ByteArray×List ID×Unit),fs[j]?=some f->f.snd.fst.length<=100);let z2:=[g0 (au.blk 27 [SC.sl KW vs,SC.sl Sh.str ms,SC.sl Sh.str cs,SC.sl H8 fs,SC.sl nS ts])];br (decide (20 < (vs.length:Int)) || decide (20 < (ms.length:Int)) || decide (20 < (cs.length:Int)) || decide (20 < (fs.length:Int)) || decide (20 < (ts.length:Int))) z3 ((∃x,(z1 x)/\(cI 0=cI (x:Int)/\True)/\sm z2)/\∀(x:Nat),(z1 x)->br (decide ((x:Int) < (fs.length:Int))) ((0<=(x:Int)/\(x:Int) < (fs.length:Int))/\∀(d:ByteArray×(oP.sl.pair Sh.unit).den),fs[(x:Int).toNat]?=some d->br (decide (100 < ((List.length d.snd.fst):Int))) z3 (iR ((x:Int)+(1:Int))/\∃x',(z1 x')/\(cI ((x:Int)+(1:Int))=cI (x':Int)/\True)/\sm z2/\fs.length - x' < fs.length - x)) (qB (TV vs ms cs fs ts) true)):=by
 conv=>zeta
 delta cI g0 qB sm I6 iR
 by_cases hc:¬(vs.length<=20/\ms.length<=20/\cs.length<=20/\fs.length<=20/\ts.length<=20)
 .have e:TV vs ms cs fs ts=false:=by unfold TV;rw[Dk hc];rfl
  rw[e];refine ah.2 ⟨λ_=>⟨rfl,rfl⟩,λh=>?_⟩
  simp only[oV,gW]at h;omega
 have hc:=Hw.1 hc;refine ah.2 ⟨λh=>?_,λ_=>?_⟩
 .simp only[DJ,dW]at h;omega
 refine⟨⟨0,⟨by omega,λj hj=>by omega⟩,⟨rfl,trivial⟩,rfl⟩,λk hk=>ah.2 ⟨λh=>?_,λh=>?_⟩⟩
 .simp only[dW]at h;have hN:(k:Int).toNat=k:=by omega
  rw[hN];refine⟨by omega,λd hd=>ah.2 ⟨λh2=>⟨rfl,?_⟩,λh2=>⟨ay.2 (by omega),k+1,⟨by omega,λj hj f hf=>?_⟩,⟨rfl,trivial⟩,rfl,by omega⟩⟩⟩
  .have h2:¬d.2.1.length<=100:=by simp only[dW]at h2;omega
   have e:TV vs ms cs fs ts=false:=by
    unfold TV;rw[show(fs.all λf=>decide (f.2.1.length<=100))=false from List.all_eq_false.2 ⟨d,iM hd,by simpa using h2⟩,Bool.and_false]
   rw[e]
  .by_cases jY:j=k
   .subst jY;rw[hd]at hf;cases hf;simp only[gW]at h2;omega
   .exact hk.2 j (by omega) f hf
 .simp only[gW]at h;have e:TV vs ms cs fs ts=true:=by
   unfold TV;rw[Ph hc,Ia,RG];intro f hf;obtain⟨j,hj⟩:=Hu hf;simpa using hk.2 j (by have:=(eG.1 hj).1;omega) f hj
  rw[e];exact⟨rfl,rfl⟩
theorem af6:aW aT.gd 10 aoL:=
 kD (cx:=aT) (n:=47) (cl:=[]) aB trivial Tryz.func10 λd hd=>by
  obtain⟨⟨vs,ms,cs,fs,ts,⟨⟩⟩,⟨⟩⟩:=d;exact aQ (aoM vs ms cs fs ts) (alg vs ms cs fs ts) (by kernel_rfl)
abbrev aiy:CT:={ ps:=[sS],pre:=λd=>True,res:=λd=>([],.one (.c (.v (.int .i64 (Em d.1.2.2.2.1 d.1.2.2.2.2.1))))) }
abbrev alh(vs:List VD) (ms cs:List ByteArray) (fs:List FD) (ts:List SD):Nat->Option (St->kS):=λk=>match k with
 | 4=>some λ_=>.inv { α:=Nat,slots:=λk=>[(3,.c (.v (.int .i64 k)))],res:=λk=>[],inv:=λk=>k<=(ts).length/\∀j < k,∀t,ts[j]?=some t->Ej fs.length t=0,meas:=λk=>(ts).length - k }
 | _=>none
theorem af7(vs:List VD) (ms cs:List ByteArray) (fs:List FD) (ts:List SD):
 let z1:=λ(x:Nat)=>(x<=ts.length/\∀(j:Nat),j < x->∀(t:Int×Int×Unit),ts[j]?=some t->Ej fs.length t=0);let z2:=[g0 (au.blk 27 [SC.sl KW vs,SC.sl Sh.str ms,SC.sl Sh.str cs,SC.sl H8 fs,SC.sl nS ts])];let z3:=λ(x:Nat)=>0<=(x:Int)/\(x:Int) < (ts.length:Int);br (decide ((ts.length:Int) < (1:Int)) || decide (8 < (ts.length:Int))) (qI (Em fs ts) (4:Int)) ((∃x,(z1 x)/\(cI 0=cI (x:Int)/\True)/\sm z2)/\∀(x:Nat),(z1 x)->br (decide ((x:Int) < (ts.length:Int))) ((z3 x)/\∀(d:Int×(I6.pair Sh.unit).den),ts[(x:Int).toNat]?=some d->((!decide (d.fst < 0))=true->0<=(x:Int)/\(x:Int) < (ts.length:Int))/\∀(dL:Int×(I6.pair Sh.unit).den),((!decide (d.fst < 0))=true->ts[(x:Int).toNat]?=some dL)->br (decide (d.fst < 0) || decide ((fs.length:Int)<=dL.fst)) (qI (Em fs ts) (11:Int)) ((z3 x)/\∀(d:Int×(I6.pair Sh.unit).den),ts[(x:Int).toNat]?=some d->True/\br (!cO (d.snd.fst,()).fst) (qI (Em fs ts) (2:Int)) (iR ((x:Int)+(1:Int))/\∃x',(z1 x')/\(cI ((x:Int)+(1:Int))=cI (x':Int)/\True)/\sm z2/\ts.length - x' < ts.length - x))) (qI (Em fs ts) (0:Int))):=by
 conv=>zeta
 delta cI g0 qI sm I6 iR
 by_cases hc:ts.length < 1\/8 < ts.length
 .have e:Em fs ts=4:=by unfold Em;rw[if_pos hc]
  rw[e];refine ah.2 ⟨λ_=>⟨rfl,rfl⟩,λh=>?_⟩
  simp only[oV,gW]at h;omega
 refine ah.2 ⟨λh=>?_,λh=>⟨⟨0,⟨by omega,λj hj=>by omega⟩,⟨rfl,trivial⟩,rfl⟩,λk hk=>ah.2 ⟨λh2=>?_,λh2=>?_⟩⟩⟩
 .simp only[DJ,dW]at h;omega
 .simp only[dW]at h2;have hN:(k:Int).toNat=k:=by omega
  rw[hN];refine⟨by omega,λd hd=>⟨λ_=>by omega,λd1 hd1=>ah.2 ⟨λh3=>⟨rfl,?_⟩,λh3=>⟨by omega,λd2 hd2=>⟨trivial,ah.2 ⟨λh4=>⟨rfl,?_⟩,λh4=>⟨ay.2 (by omega),k+1,⟨by omega,λj hj v hv=>?_⟩,⟨rfl,trivial⟩,rfl,by omega⟩⟩⟩⟩⟩⟩⟩
  .have h3:d.1 < 0\/(fs.length:Int)<=d.1:=by
    by_cases hn:d.1 < 0
    .exact .inl hn
    .have:=hd1 (by simp[hn])
     rw[hd]at this;cases this;exact by simpa using h3
   have e:Ej fs.length d=11:=by unfold Ej;rw[if_pos h3]
   rw[AB hc hd (by rw[e];simp) hk.2,e]
  all_goals
   rw[hd]at hd2;cases hd2;have h3:¬(d.1 < 0\/(fs.length:Int)<=d.1):=by
    simp only[oV,gW]at h3;have:=hd1 (by rw[Dk h3.1];rfl)
    rw[hd]at this;cases this;exact λq=>q.elim (λq=>h3.1 q) (λq=>h3.2 q)
  .have h4:cO d.2.1=false:=by simpa using h4
   have e:Ej fs.length d=2:=by unfold Ej;rw[if_neg h3,if_neg (by rw[h4];simp)]
   rw[AB hc hd (by rw[e];simp) hk.2,e]
  .have h4:cO d.2.1=true:=by simpa using h4
   by_cases jY:j=k
   .subst jY;rw[hd]at hv;cases hv;unfold Ej;rw[if_neg h3,if_pos h4]
   .exact hk.2 j (by omega) v hv
 .simp only[gW]at h2;rw[TS hc λj t hj=>hk.2 j (by have:=(eG.1 hj).1;omega) t hj];exact⟨rfl,rfl⟩
theorem aa0:aW aT.gd 136 aiy:=
 kD (cx:=aT) (n:=48) (cl:=[(134,QN)]) aB ⟨Oi,trivial⟩ Tryz.func136 λd hd=>by
  obtain⟨⟨vs,ms,cs,fs,ts,⟨⟩⟩,⟨⟩⟩:=d;exact aQ (alh vs ms cs fs ts) (af7 vs ms cs fs ts) (by kernel_rfl)
def exS(vs:List VD) (ms cs:List ByteArray) (fs:List FD) (op obj n:Int):Bool:=!decide (0<=pR vs ms cs fs op/\(obj < 0\/pR vs ms cs fs op<=obj)) && !decide (op=18/\(n < 0\/(ms.length:Int)<=n))
abbrev aiz:CT:={ ps:=[sS,oP],pre:=λd=>True,res:=λd=>([],vB (exS d.1.1 d.1.2.1 d.1.2.2.1 d.1.2.2.2.1 d.2.1.1 d.2.1.2.2.2.2.1 d.2.1.2.2.2.2.2.1)) }
theorem af8(vs:List VD) (ms cs:List ByteArray) (fs:List FD) (ts:List SD) (op a b c obj n fn ord:Int):
 let z7:=exS vs ms cs fs op obj n;let z4:=qB z7 (decide (0<=obj) && decide (obj < (vs.length:Int)));let z5:=qB z7 (decide (0<=obj) && decide (obj < (ms.length:Int)));let z6:=qB z7 (decide (0<=obj) && decide (obj < (cs.length:Int)));let z3:=br (decide (op=21)) (qB z7 (decide (0<=obj) && decide (obj < (fs.length:Int)))) (qB z7 true);let z2:=br (decide (op=18)) (br (decide (n < 0) || decide ((ms.length:Int)<=n)) (qB z7 false) z6) (br (decide (op=19)) (br (decide (op=19)) z6 z3) (br (decide (op=20)) z6 z3));let z1:=br (decide (op=15)) (br (decide (op=15)) z5 z2) (br (decide (op=16)) (br (decide (op=16)) z5 z2) (br (decide (op=17)) z5 z2));br (decide (op=8)) (br (decide (op=8)) z4 z1) (br (decide (op=9)) (br (decide (op=9)) z4 z1) (br (decide (op=10)) (br (decide (op=10)) z4 z1) (br (decide (op=11)) (br (decide (op=11)) z4 z1) (br (decide (op=12)) (br (decide (op=12)) z4 z1) (br (decide (op=14)) z4 z1))))):=by
 conv=>zeta
 delta qB;simp only[ah]
 repeat' (first | (refine And.intro ?_ ?_) | (intro _))
 all_goals first | rfl | (simp_all[exS,pR];done) | (simp_all[exS,pR];omega) | (simp_all[exS,pR];rw[LX];simp<;>omega)
theorem aa1:aW aT.gd 179 aiz:=
 kD (cx:=aT) (n:=61) (cl:=[]) aB trivial Tryz.func179 λd hd=>by
  obtain⟨⟨vs,ms,cs,fs,ts,⟨⟩⟩,⟨op,a,b,c,obj,n,fn,ord,⟨⟩⟩,⟨⟩⟩:=d;exact aQ (λ_=>none) (af8 vs ms cs fs ts op a b c obj n fn ord) (by kernel_rfl)
abbrev aiA:CT:={ ps:=[.str],pre:=λd=>True,res:=λd=>([],vB (dH d.1)) }
abbrev ali(s:ByteArray):Nat->Option (St->kS):=λk=>match k with
 | 4=>some λ_=>.inv { α:=Nat,slots:=λk=>[(3,.c (.v (.int .i64 k)))],res:=λk=>[],inv:=λk=>k<=((List.range s.size)).length/\∀j < k,(uI (Jq s j)=true\/(j≠0/\okB (Jq s j)=true)),meas:=λk=>((List.range s.size)).length - k }
 | _=>none
theorem af9(s:ByteArray):
 let z2:=List.range s.size;let z1:=λ(x:Nat)=>(x<=z2.length/\∀(j:Nat),j < x->uI (Jq s j)=true\/j≠0/\okB (Jq s j)=true);br (decide ((s.size:Int) < (1:Int)) || decide (16 < (s.size:Int))) (qB (dH s) false) ((∃x,(z1 x)/\(cI 0=cI (x:Int)/\True)/\([]:List fD)=[])/\∀(x:Nat),(z1 x)->br (decide ((x:Int) < (s.size:Int))) ((0<=(x:Int)/\(x:Int) < (s.size:Int))/\∀(u:UInt8),s[(x:Int).toNat]?=some u->br (!(decide (97<=(u.toNat:Int)) && decide ((u.toNat:Int)<=(122:Int)) || decide (65<=(u.toNat:Int)) && decide ((u.toNat:Int)<=(90:Int))) && (decide ((x:Int)=(0:Int)) || !decide ((u.toNat:Int)=(95:Int)) && (decide ((u.toNat:Int) < (48:Int)) || decide (57 < (u.toNat:Int))))) (qB (dH s) false) (iR ((x:Int)+(1:Int))/\∃x',(z1 x')/\(cI ((x:Int)+(1:Int))=cI (x':Int)/\True)/\([]:List fD)=[]/\z2.length - x' < z2.length - x)) (qB (dH s) true)):=by
 conv=>zeta
 delta fD cI qB iR;have hl:(List.range s.size).length=s.size:=List.length_range;rw[hl]
 by_cases hs:¬(1<=s.size/\s.size<=16)
 .have:dH s=false:=by unfold dH;rw[Dk hs];rfl
  rw[this];refine ah.2 ⟨λ_=>⟨rfl,rfl⟩,λh=>?_⟩
  simp only[oV,gW]at h;omega
 have hs:=Hw.1 hs;refine ah.2 ⟨λh=>?_,λ_=>⟨⟨0,⟨by omega,λj hj=>by omega⟩,⟨rfl,trivial⟩,rfl⟩,λk hk=>ah.2 ⟨λh=>?_,λh=>?_⟩⟩⟩
 .simp only[DJ,dW]at h;omega
 .simp only[dW]at h;have hN:(k:Int).toNat=k:=by omega
  rw[hN];refine⟨by omega,λu hu=>?_⟩
  have eu:=KY hu;have eL:uI (Jq s k)=(decide (97<=(u.toNat:Int)) && decide ((u.toNat:Int)<=122) || decide (65<=(u.toNat:Int)) && decide ((u.toNat:Int)<=90)):=by
   rw[eu];unfold uI;rw[LX];simp
  rw[<-eL];refine ah.2 ⟨λh2=>⟨rfl,?_⟩,λh2=>⟨ay.2 (by omega),k+1,⟨by omega,λj hj=>?_⟩,⟨rfl,trivial⟩,rfl,by omega⟩⟩
  .have:dH s=false:=by
    simp only[A8,DJ,II,dW,gW]at h2;obtain⟨a,b⟩:=h2;unfold dH;rcases b with b | b
    .have:k=0:=by omega
     subst this;rw[a];simp
    .have hb:okB (Jq s k)=false:=by
      unfold okB;rw[a,eu];simp;omega
     rw[show((List.range s.size).all λi=>okB (Jq s i))=false from List.all_eq_false.2 ⟨k,by simp;omega,by rw[hb];simp⟩,Bool.and_false]
   rw[this]
  .by_cases jY:j=k
   .subst jY;cases hA:uI (Jq s j) with
    | true=>exact .inl rfl
    | false=>
      rw[hA]at h2;refine .inr ?_;simp at h2;refine⟨by omega,?_⟩
      unfold okB;rw[eu];simp;omega
   .exact hk.2 j (by omega)
 .simp only[gW]at h;have:dH s=true:=by
   unfold dH;have h0:uI (Jq s 0)=true:=(hk.2 0 (by omega)).elim id λq=>absurd rfl q.1
   rw[Ph hs,h0];simp only[Ia];rw[RG];intro i hi;simp at hi;rcases hk.2 i (by omega) with q | q
   .unfold okB;rw[q];rfl
   .exact q.2
  rw[this];exact⟨rfl,rfl⟩
theorem aa2:aW aT.gd 178 aiA:=
 kD (cx:=aT) (n:=55) (cl:=[]) aB trivial Tryz.func178 λd hd=>by
  obtain⟨s,⟨⟩⟩:=d;exact aQ (ali s) (af9 s) (by kernel_rfl)
abbrev QX:CT:={ ps:=[.sl .str],pre:=λd=>d.1.length<=1000000,res:=λd=>([],.iO [.c (.v (.int .i64 (if(gY d.1).1=0 then 0 else(gY d.1).2))),.c (.v (.int .i64 (gY d.1).1))]) }
abbrev alj(l:List ByteArray):Nat->Option (St->kS):=λk=>match k with
 | 2=>some λ_=>.inv { α:=Nat,slots:=λk=>[(4,.c (.v (.int .i64 k)))],res:=λ_=>[],inv:=λk=>k<=l.length/\∀j < k,dH (l.getD j ⟨#[]⟩)=true/\vH (l.take j) (l.getD j ⟨#[]⟩)=false,meas:=λk=>l.length - k }
 | 7=>some λs=>.inv { α:=Nat,slots:=λk=>[(5,.c (.v (.int .i64 k)))],res:=λ_=>[],inv:=λk=>k<=(jw s 4).toNat/\∀j < k,¬l.getD j ⟨#[]⟩=l.getD ((jw s 4).toNat) ⟨#[]⟩,meas:=λk=>(jw s 4).toNat - k }
 | _=>none
theorem aga(l:List ByteArray) (aH:QX.pre (l,())):
 let z1:=λ(x:Nat)=>(x<=l.length/\∀(j:Nat),j < x->dH (l.getD j { data:=#[]:ByteArray })=true/\vH (List.take j l) (l.getD j { data:=#[]:ByteArray })=false);let z4:=λ(x:Nat)=>0<=(x:Int)/\(x:Int) < (l.length:Int);let z3:=[cI (if(gY l).fst=0 then(0:Int) else(gY l).snd),cI ((gY l).fst)];let z2:=λ(x_1 x:Nat)=>(x_1<=(x:Int).toNat/\∀(j:Nat),j < x_1->¬l.getD j { data:=#[]:ByteArray }=l.getD (x:Int).toNat { data:=#[]:ByteArray });let z5:=λ(x_1:Nat)=>(x_1:Int)+(1:Int);(∃x,(z1 x)/\(cI 0=cI (x:Int)/\True)/\([]:List fD)=[])/\∀(x:Nat),(z1 x)->br (decide ((x:Int) < (l.length:Int))) ((z4 x)/\∀(d:ByteArray),l[(x:Int).toNat]?=some d->True/\br (!dH d) (rT z3 [cI (x:Int),cI 6]) ((∃x_1,(z2 x_1 x)/\(cI 0=cI (x_1:Int)/\True)/\([]:List fD)=[])/\∀(x_1:Nat),(z2 x_1 x)->br (decide ((x_1:Int) < (x:Int))) ((z4 x_1)/\∀(dL:ByteArray),l[(x_1:Int).toNat]?=some dL->(z4 x)/\∀(Gq:ByteArray),l[(x:Int).toNat]?=some Gq->br (decide (dL=Gq)) (rT z3 [cI (x:Int),cI 7]) (iR (z5 x_1)/\∃x',(x'<=(x:Int).toNat/\∀(j:Nat),j < x'->¬l.getD j { data:=#[]:ByteArray }=l.getD (x:Int).toNat { data:=#[]:ByteArray })/\(cI (z5 x_1)=cI (x':Int)/\True)/\([]:List fD)=[]/\(x:Int).toNat - x' < (x:Int).toNat - x_1)) (iR (z5 x)/\∃x',(z1 x')/\(cI (z5 x)=cI (x':Int)/\True)/\([]:List fD)=[]/\l.length - x' < l.length - x))) (rT z3 [cI 0,cI 0]):=by
 conv=>zeta
 delta fD cI rT iR;have hp:l.length<=1000000:=aH;refine⟨⟨0,⟨by omega,λj hj=>by omega⟩,⟨rfl,trivial⟩,rfl⟩,λk hk=>ah.2 ⟨λh=>?_,λh=>?_⟩⟩
 .simp only[dW]at h;have hN:(k:Int).toNat=k:=by omega
  rw[hN];refine⟨by omega,λd hd=>?_⟩
  have hg:l.getD k ⟨#[]⟩=d:=by rw[LQ,hd];rfl
  refine⟨trivial,ah.2 ⟨λh2=>⟨rfl,?_⟩,λh2=>⟨⟨0,⟨by omega,λj hj=>by omega⟩,⟨rfl,trivial⟩,rfl⟩,λm hm=>ah.2 ⟨λh3=>?_,λh3=>⟨ay.2 (by omega),k+1,⟨by omega,λj hj=>?_⟩,⟨rfl,trivial⟩,rfl,by omega⟩⟩⟩⟩⟩
  .have h2:dH d=false:=by simpa using h2
   rw[xC (by omega) hk.2 (.inl (by rw[hg];exact h2)),hg,h2];rfl
  .simp only[dW]at h3;have hM:(m:Int).toNat=m:=by omega
   rw[hM];refine⟨by omega,λd1 hd1=>⟨by omega,λd2 hd2=>?_⟩⟩
   rw[hd]at hd2;cases hd2;have hg1:l.getD m ⟨#[]⟩=d1:=by rw[LQ,hd1];rfl
   refine ah.2 ⟨λh4=>⟨rfl,?_⟩,λh4=>⟨ay.2 (by omega),m+1,⟨by omega,λj hj=>?_⟩,⟨rfl,trivial⟩,rfl,by omega⟩⟩
   .have h3':vH (l.take k) d=true:=Xq.2 ⟨d1,iM (i:=m) (by rw[aiT (by omega)];exact hd1),h4⟩
    have h2v:dH d=true:=by simpa using h2
    rw[xC (by omega) hk.2 (.inr (by rw[hg];exact h3')),hg,h2v];rfl
   .by_cases hjm:j=m
    .subst hjm;rw[hg1,hg];simpa using h4
    .exact hm.2 j (by omega)
  .simp only[gW]at h3
   by_cases jY:j=k
   .subst jY;rw[hg];refine⟨by simpa using h2,?_⟩
    unfold vH;rw[Vg];intro y hy;obtain⟨i,hi⟩:=Hu hy;have hij:i < j:=by
     have:=(eG.1 hi).1;simp at this;omega
    rw[aiT hij]at hi;have:=hm.2 i (by omega)
    rw[hg,LQ,hi]at this;simpa using this
   .exact hk.2 j (by omega)
 .simp only[gW]at h;rw[Oj λj hj=>hk.2 j (by omega)];exact⟨rfl,rfl⟩
theorem aa3:aW aT.gd 133 QX:=
 kD (cx:=aT) (n:=34) (cl:=[(178,aiA)]) aB ⟨aa2,trivial⟩ Tryz.func133 λd hd=>by
  obtain⟨l,⟨⟩⟩:=d;exact aQ (alj l) (aga l hd) (by kernel_rfl)
abbrev aa4:CT:={ ps:=[sS],pre:=λd=>d.1.1.length<=1000000/\d.1.2.2.2.1.length<=1000000,res:=λd=>([.row 9 .str (iy d.1.1),.row 9 .str (jA d.1.2.2.2.1)],.iO [.c (.row 0),.c (.row 1)]) }
abbrev alk(vs:List VD) (ms cs:List ByteArray) (fs:List FD) (ts:List SD):Nat->Option (St->kS):=λk=>match k with
 | 3=>some λ_=>.inv { α:=Nat,slots:=λk=>[(6,.c (.v (.int .i64 k))),(4,.c (.row 1))],res:=λk=>[(1,.row 9 .str (iy (vs.take k)))],inv:=λk=>k<=vs.length,meas:=λk=>vs.length - k,nil:=[(4,9,.str)] }
 | 7=>some λ_=>.inv { α:=Nat,slots:=λk=>[(7,.c (.v (.int .i64 k))),(5,.c (.row 2))],res:=λk=>[(2,.row 9 .str (jA (fs.take k)))],inv:=λk=>k<=fs.length,meas:=λk=>fs.length - k,nil:=[(5,9,.str)] }
 | _=>none
theorem agb(vs:List VD) (ms cs:List ByteArray) (fs:List FD) (ts:List SD) (aH:aa4.pre ((vs,ms,cs,fs,ts,()),())):
 let z3:=[SC.sl KW vs,SC.sl Sh.str ms,SC.sl Sh.str cs,SC.sl H8 fs,SC.sl nS ts];let z5:=λ(x:Nat)=>iy (List.take x vs);let z2:=λ(x:Nat)=>[g0 (au.blk 27 z3),g0 (au.row 9 Sh.str (z5 x))];let z4:=λ(x:Nat)=>(x:Int)+(1:Int);let z1:=λ(x x_1:Nat)=>[g0 (au.blk 27 z3),g0 (au.row 9 Sh.str (z5 x)),g0 (au.row 9 Sh.str (jA (List.take x_1 fs)))];(∃x,x<=vs.length/\(cI 0=cI (x:Int)/\SV.c (SC.row (Nat.succ 0))=SV.c (SC.row 1)/\True)/\[g0 (au.blk 27 z3),g0 (au.row 9 Sh.str [])]=(z2 x))/\∀(x:Nat),x<=vs.length->br (decide ((x:Int) < (vs.length:Int))) ((0<=(x:Int)/\(x:Int) < (vs.length:Int))/\∀(d:ByteArray×(I6.pair Sh.unit).den),vs[(x:Int).toNat]?=some d->oH (List.length (z5 x)+List.length ([d.fst])) 16/\iR (z4 x)/\∃x',x'<=vs.length/\(cI (z4 x)=cI (x':Int)/\SV.c (SC.row 1)=SV.c (SC.row 1)/\True)/\[g0 (au.blk 27 z3),g0 (au.row 9 Sh.str (iy (List.take x vs)++[d.fst]))]=(z2 x')/\vs.length - x' < vs.length - x) ((∃x_1,x_1<=fs.length/\(cI 0=cI (x_1:Int)/\SV.c (SC.row (Nat.succ 0).succ)=SV.c (SC.row 2)/\True)/\[g0 (au.blk 27 z3),g0 (au.row 9 Sh.str (z5 x)),g0 (au.row 9 Sh.str [])]=(z1 x x_1))/\∀(x_1:Nat),x_1<=fs.length->br (decide ((x_1:Int) < (fs.length:Int))) ((0<=(x_1:Int)/\(x_1:Int) < (fs.length:Int))/\∀(d:ByteArray×(oP.sl.pair Sh.unit).den),fs[(x_1:Int).toNat]?=some d->oH (List.length (jA (List.take x_1 fs))+List.length ([d.fst])) 16/\iR (z4 x_1)/\∃x',x'<=fs.length/\(cI (z4 x_1)=cI (x':Int)/\SV.c (SC.row 2)=SV.c (SC.row 2)/\True)/\[g0 (au.blk 27 z3),g0 (au.row 9 Sh.str (z5 x)),g0 (au.row 9 Sh.str (jA (List.take x_1 fs)++[d.fst]))]=(z1 x x')/\fs.length - x' < fs.length - x_1) ([au.row 9 Sh.str (iy vs),au.row 9 Sh.str (jA fs)]=[au.row 9 Sh.str (z5 x),au.row 9 Sh.str (jA (List.take x_1 fs))]/\bg.iO [SV.c (SC.row 0),SV.c (SC.row 1)]=bg.iO [SV.c (SC.row 0),SV.c (SC.row (Nat.succ 0))])):=by
 conv=>zeta
 delta cI g0 I6 iR;obtain⟨hp1,hp2⟩:vs.length<=1000000/\fs.length<=1000000:=aH;refine⟨⟨0,by omega,⟨rfl,rfl,trivial⟩,rfl⟩,λk hk=>ah.2 ⟨λh=>?_,λh=>⟨⟨0,by omega,⟨rfl,rfl,trivial⟩,rfl⟩,λm hm=>ah.2 ⟨λh2=>?_,λh2=>?_⟩⟩⟩⟩
 .simp only[dW]at h;refine⟨by omega,λd hd=>?_⟩
  have hd:vs[k]?=some d:=by simpa using hd
  have e:iy (vs.take (k+1))=iy (vs.take k)++[d.1]:=by
   unfold iy;rw[RD,hd];simp
  refine⟨?_,ay.2 (by omega),k+1,by omega,⟨rfl,rfl,trivial⟩,?_,by omega⟩
  .have:(iy (vs.take k)).length<=1000000:=by simp[iy];omega
   exact fO.2 (by simp only[yE,Pg];omega)
  .rw[e]
 .simp only[dW]at h2;refine⟨by omega,λd hd=>?_⟩
  have hd:fs[m]?=some d:=by simpa using hd
  have e:jA (fs.take (m+1))=jA (fs.take m)++[d.1]:=by
   unfold jA;rw[RD,hd];simp
  refine⟨?_,ay.2 (by omega),m+1,by omega,⟨rfl,rfl,trivial⟩,?_,by omega⟩
  .have:(jA (fs.take m)).length<=1000000:=by simp[jA];omega
   exact fO.2 (by simp only[yE,Pg];omega)
  .rw[e]
 .simp only[gW]at h h2;rw[zi (by omega),zi (by omega)];exact⟨rfl,rfl⟩
theorem aa5:aW aT.gd 132 aa4:=
 kD (cx:=aT) (n:=42) (cl:=[]) aB trivial Tryz.func132 λd hd=>by
  obtain⟨⟨vs,ms,cs,fs,ts,⟨⟩⟩,⟨⟩⟩:=d;exact aQ (alk vs ms cs fs ts) (agb vs ms cs fs ts hd) (by kernel_rfl)
def AL(vs:List VD) (ms cs:List ByteArray) (fs:List FD) (l:List ID):Int×Int:=if 64 < l.length then(4,-1) else match l.findIdx? (λi=>decide (xE vs ms cs fs i l.length≠0)) with
 | some k=>(xE vs ms cs fs (l.getD k (0,0,0,0,0,0,0,0,())) l.length,k)
 | none=>(0,-1)
theorem AO{l:List ID}{d:ID} (hl:¬64 < l.length) (hd:l[k]?=some d) (hb:xE vs ms cs fs d l.length≠0) (hn:∀j < k,∀i,l[j]?=some i->xE vs ms cs fs i l.length=0):AL vs ms cs fs l=(xE vs ms cs fs d l.length,(k:Int)):=by
 have gZ:k < l.length:=(eG.1 hd).1;have:l.findIdx? (λi=>decide (xE vs ms cs fs i l.length≠0))=some k:=by
  rw[A49];refine⟨gZ,by rw[(eG.1 hd).2];simpa using hb,λj hj=>?_⟩
  have:=hn j hj l[j] (kR (by omega))
  simpa using this
 unfold AL;rw[if_neg hl,this];show(xE vs ms cs fs (l.getD k _) l.length,(k:Int))=_;rw[LQ,hd];rfl
theorem agc{l:List ID} (hl:¬64 < l.length) (hn:∀(j:Nat) i,l[j]?=some i->xE vs ms cs fs i l.length=0):AL vs ms cs fs l=(0,-1):=by
 have:l.findIdx? (λi=>decide (xE vs ms cs fs i l.length≠0))=none:=by
  rw[A71];intro y hy;obtain⟨j,hj⟩:=Hu hy;simpa using hn j y hj
 unfold AL;rw[if_neg hl,this]
theorem aoN{d:ID} (h:qX d≠0):xE vs ms cs fs d m=qX d:=by unfold xE ciS;rw[if_pos h]
theorem aqI{d:ID} (h:qX d=0) (h2:exS vs ms cs fs d.1 d.2.2.2.2.1 d.2.2.2.2.2.1=false):xE vs ms cs fs d m=11:=by
 unfold exS at h2;unfold xE ciS;rw[if_neg (by simpa using h)]
 split
 .rfl
 .rename_i h3;rw[Dk h3]at h2;rw[Pn,Ia,Di]at h2;rw[if_pos (RF h2)]
theorem aqJ{d:ID} (h:qX d=0) (h2:exS vs ms cs fs d.1 d.2.2.2.2.1 d.2.2.2.2.2.1=true):xE vs ms cs fs d m=if(d.1=4\/d.1=5)/\(d.2.2.2.2.2.1 < 0\/m < d.2.2.2.2.2.1) then 12 else 0:=by
 unfold exS at h2;rw[A8,II,II]at h2;unfold xE ciS;rw[if_neg (by simpa using h),if_neg (A91 h2.1),if_neg (A91 h2.2)]
abbrev aiB:CT:={ ps:=[sS,H8],pre:=λd=>True,res:=λd=>([],.iO [.c (.v (.int .i64 (AL d.1.1 d.1.2.1 d.1.2.2.1 d.1.2.2.2.1 d.2.1.2.1).1)),.c (.v (.int .i64 (AL d.1.1 d.1.2.1 d.1.2.2.1 d.1.2.2.2.1 d.2.1.2.1).2))]) }
abbrev alm(vs:List VD) (ms cs:List ByteArray) (fs:List FD) (ts:List SD) (nm:ByteArray) (l:List ID):Nat->Option (St->kS):=λk=>match k with
 | 4=>some λ_=>.inv { α:=Nat,slots:=λk=>[(6,.c (.v (.int .i64 k)))],res:=λk=>[],inv:=λk=>k<=(l).length/\∀j < k,∀i,l[j]?=some i->xE vs ms cs fs i l.length=0,meas:=λk=>(l).length - k }
 | _=>none
theorem agd(vs:List VD) (ms cs:List ByteArray) (fs:List FD) (ts:List SD) (nm:ByteArray) (l:List ID):
 let z10:=[cI ((AL vs ms cs fs l).fst),cI ((AL vs ms cs fs l).snd)];let z1:=λ(x:Nat)=>(x<=l.length/\∀(j:Nat),j < x->∀(i:Int×Int×Int×Int×Int×Int×Int×Int×Unit),l[j]?=some i->ciS vs ms cs fs (pK i.fst i.snd.fst i.snd.snd.fst i.snd.snd.snd.fst i.snd.snd.snd.snd.fst i.snd.snd.snd.snd.snd.fst i.snd.snd.snd.snd.snd.snd.fst i.snd.snd.snd.snd.snd.snd.snd.fst) i.fst i.snd.snd.snd.snd.fst i.snd.snd.snd.snd.snd.fst (l.length:Int)=(0:Int));let z5:=[g0 (au.blk 27 [SC.sl KW vs,SC.sl Sh.str ms,SC.sl Sh.str cs,SC.sl H8 fs,SC.sl nS ts]),g0 (au.blk 77 [SC.v (Value.string nm),SC.sl oP l])];let z2:=λ(d:ID)=>(d.fst,d.snd.fst,d.snd.snd.fst,d.snd.snd.snd.fst,d.snd.snd.snd.snd.fst,d.snd.snd.snd.snd.snd.fst,d.snd.snd.snd.snd.snd.snd.fst,d.snd.snd.snd.snd.snd.snd.snd.fst,());let z3:=λ(d:ID)=>(d.snd.fst,d.snd.snd.fst,d.snd.snd.snd.fst,d.snd.snd.snd.snd.fst,d.snd.snd.snd.snd.snd.fst,d.snd.snd.snd.snd.snd.snd.fst,d.snd.snd.snd.snd.snd.snd.snd.fst,());let z4:=λ(d:ID)=>(d.snd.snd.fst,d.snd.snd.snd.fst,d.snd.snd.snd.snd.fst,d.snd.snd.snd.snd.snd.fst,d.snd.snd.snd.snd.snd.snd.fst,d.snd.snd.snd.snd.snd.snd.snd.fst,());let z6:=λ(d:ID)=>(d.snd.snd.snd.fst,d.snd.snd.snd.snd.fst,d.snd.snd.snd.snd.snd.fst,d.snd.snd.snd.snd.snd.snd.fst,d.snd.snd.snd.snd.snd.snd.snd.fst,());let z7:=λ(d:ID)=>(d.snd.snd.snd.snd.fst,d.snd.snd.snd.snd.snd.fst,d.snd.snd.snd.snd.snd.snd.fst,d.snd.snd.snd.snd.snd.snd.snd.fst,());let z8:=λ(d:ID)=>(d.snd.snd.snd.snd.snd.fst,d.snd.snd.snd.snd.snd.snd.fst,d.snd.snd.snd.snd.snd.snd.snd.fst,());let z9:=λ(d:ID)=>(d.snd.snd.snd.snd.snd.snd.fst,d.snd.snd.snd.snd.snd.snd.snd.fst,());br (decide (64 < (l.length:Int))) (rT z10 [cI 4,cI (-1)]) ((∃x,(z1 x)/\(cI 0=cI (x:Int)/\True)/\sm z5)/\∀(x:Nat),(z1 x)->br (decide ((x:Int) < (l.length:Int))) ((0<=(x:Int)/\(x:Int) < (l.length:Int))/\∀(d:ID),l[(x:Int).toNat]?=some d->True/\br (!decide (pK (z2 d).fst (z3 d).fst (z4 d).fst (z6 d).fst (z7 d).fst (z8 d).fst (z9 d).fst (d.snd.snd.snd.snd.snd.snd.snd.fst,()).fst=0)) (rT z10 [cI (pK (z2 d).fst (z3 d).fst (z4 d).fst (z6 d).fst (z7 d).fst (z8 d).fst (z9 d).fst (d.snd.snd.snd.snd.snd.snd.snd.fst,()).fst),cI (x:Int)]) (True/\br (!exS vs ms cs fs (z2 d).fst (z7 d).fst (z8 d).fst) (rT z10 [cI 11,cI (x:Int)]) (br ((decide (d.fst=4) || decide (d.fst=5)) && (decide (d.snd.snd.snd.snd.snd.fst < 0) || decide ((l.length:Int) < d.snd.snd.snd.snd.snd.fst))) (rT z10 [cI 12,cI (x:Int)]) (iR ((x:Int)+(1:Int))/\∃x',(z1 x')/\(cI ((x:Int)+(1:Int))=cI (x':Int)/\True)/\sm z5/\l.length - x' < l.length - x)))) (rT z10 [cI 0,cI (-1)])):=by
 conv=>zeta
 delta cI g0 rT sm I6 iR
 by_cases hc:64 < l.length
 .have e:AL vs ms cs fs l=(4,-1):=by unfold AL;rw[if_pos hc]
  rw[e];refine ah.2 ⟨λ_=>⟨rfl,rfl⟩,λh=>?_⟩
  simp only[gW]at h;omega
 refine ah.2 ⟨λh=>?_,λ_=>⟨⟨0,⟨by omega,λj hj=>by omega⟩,⟨rfl,trivial⟩,rfl⟩,λk hk=>ah.2 ⟨λh=>?_,λh=>?_⟩⟩⟩
 .simp only[dW]at h;omega
 .simp only[dW]at h;have hN:(k:Int).toNat=k:=by omega
  rw[hN];refine⟨by omega,λd hd=>⟨trivial,ah.2 ⟨λh2=>⟨rfl,?_⟩,λh2=>⟨trivial,ah.2 ⟨λh3=>⟨rfl,?_⟩,λh3=>ah.2 ⟨λh4=>⟨rfl,?_⟩,λh4=>⟨ay.2 (by omega),k+1,⟨by omega,λj hj i hi=>?_⟩,⟨rfl,trivial⟩,rfl,by omega⟩⟩⟩⟩⟩⟩⟩
  .have h2:qX d≠0:=by simpa using h2
   rw[AO hc hd (by rw[aoN h2];exact h2) hk.2,aoN h2]
  all_goals have h2:qX d=0:=by simpa using h2
  .have h3:exS vs ms cs fs d.1 d.2.2.2.2.1 d.2.2.2.2.2.1=false:=by simpa using h3
   have e:=aqI (m:=(l.length:Int)) h2 h3;rw[AO hc hd (by rw[e];simp) hk.2,e]
  all_goals have h3:exS vs ms cs fs d.1 d.2.2.2.2.1 d.2.2.2.2.2.1=true:=by simpa using h3
  all_goals have e:=aqJ (m:=(l.length:Int)) h2 h3
  .rw[if_pos (by simpa using h4)]at e
   rw[AO hc hd (by rw[e];simp) hk.2,e]
  .by_cases jY:j=k
   .subst jY;rw[hd]at hi;cases hi;rw[if_neg (λq=>by
     have:((decide (d.1=4) || decide (d.1=5)) && (decide (d.2.2.2.2.2.1 < 0) || decide ((l.length:Int) < d.2.2.2.2.2.1)))=true:=by simpa using q
     rw[h4]at this;cases this)]at e
    exact e
   .exact hk.2 j (by omega) i hi
 .simp only[gW]at h;rw[agc hc λj i hj=>hk.2 j (by have:=(eG.1 hj).1;omega) i hj];exact⟨rfl,rfl⟩
theorem aa6:aW aT.gd 135 aiB:=
 kD (cx:=aT) (n:=58) (cl:=[(176,aoz),(179,aiz)]) aB ⟨aau,aa1,trivial⟩ Tryz.func135 λd hd=>by
  obtain⟨⟨vs,ms,cs,fs,ts,⟨⟩⟩,⟨nm,l,⟨⟩⟩,⟨⟩⟩:=d;exact aQ (alm vs ms cs fs ts nm l) (agd vs ms cs fs ts nm l) (by kernel_rfl)
theorem CU:∀(i:Nat) (l:List FD) (n:Nat){x:FD},l[i]?=some x->jU n l=jU n (l.take i)++(qL (n+i) x++jU (n+i+1) (l.drop (i+1)))
 | 0,[],n,x,h=>by simp at h
 | 0,y :: l,n,x,h=>by
   simp at h;subst h;simp[jU]
 | i+1,[],n,x,h=>by simp at h
 | i+1,y :: l,n,x,h=>by
   have:=CU i l (n+1) (x:=x) (by simpa using h)
   simp only[aiX,List.drop_succ_cons,jU];rw[this,Dj,show n+1+i=n+(i+1) by omega]
theorem QY{n:Nat}{x:FD} (h:(qL n x)[k]?=some d):∃e,x.2.1[k]?=some e/\d=(((n:Int),(k:Int),()),e,()):=by
 unfold qL at h;rw[DI,adJ]at h;cases he:x.2.1[k]? with
 | none=>rw[he]at h;simp at h
 | some e=>rw[he]at h;simp at h;exact⟨e,rfl,h.symm⟩
theorem AP{l:List ID} (h:(AL vs ms cs fs l).1=0):l.length<=64/\∀(j:Nat) i,l[j]?=some i->xE vs ms cs fs i l.length=0:=by
 by_cases hl:64 < l.length
 .unfold AL at h;rw[if_pos hl]at h;simp at h
 refine⟨by omega,?_⟩
 cases hf:l.findIdx? (λi=>decide (xE vs ms cs fs i l.length≠0)) with
 | none=>
   rw[A71]at hf;intro j i hj;simpa using hf i (iM hj)
 | some k=>
   unfold AL at h;rw[if_neg hl,hf]at h;rw[A49]at hf;obtain⟨hk,h1,_⟩:=hf;have e:l.getD k (0,0,0,0,0,0,0,0,())=l[k]:=by rw[LQ,kR hk];rfl
   have h:xE vs ms cs fs (l.getD k (0,0,0,0,0,0,0,0,())) l.length=0:=h;rw[e]at h;simp[h]at h1
theorem agf{l:List ID} (hl:¬64 < l.length) (h:(AL vs ms cs fs l).1≠0):∃(k:Nat) (e:ID),l[k]?=some e/\xE vs ms cs fs e l.length≠0/\(∀j < k,∀i,l[j]?=some i->xE vs ms cs fs i l.length=0)/\AL vs ms cs fs l=(xE vs ms cs fs e l.length,(k:Int)):=by
 cases hf:l.findIdx? (λi=>decide (xE vs ms cs fs i l.length≠0)) with
 | none=>
   unfold AL at h;rw[if_neg hl,hf]at h;exact absurd rfl h
 | some k=>
   rw[A49]at hf;obtain⟨hk,h1,h2⟩:=hf;have hn:∀j < k,∀i,l[j]?=some i->xE vs ms cs fs i l.length=0:=λj hj i hi=>by
    have:=h2 j hj;rw[(eG.1 hi).2]at this;simpa using this
   have h1:xE vs ms cs fs l[k] l.length≠0:=by simpa using h1
   exact⟨k,l[k],kR hk,h1,hn,AO hl (kR hk) h1 hn⟩
theorem Js{x:FD} (hx:fs[k]?=some x) (j:Int) (e:ID):La vs ms cs fs (((k:Int),j,()),e,())=xE vs ms cs fs e x.2.1.length:=TT (d:=(((k:Int),j,()),e,())) (by simpa using hx)
theorem QZ{i:Nat} (hn:∀j < i,∀f,fs[j]?=some f->f.2.1.length<=64):dI fs = -1\/(i:Int)<=dI fs:=by
 unfold dI;cases hf:fs.findIdx? (λf=>decide (64 < f.2.1.length)) with
 | none=>exact .inl rfl
 | some k=>
   refine .inr ?_;rw[A49]at hf;obtain⟨hk,h1,_⟩:=hf;show(i:Int)<=(k:Int)
   by_cases hki:k < i
   .have:=hn k hki _ (kR hk);simp at h1;omega
   .omega
theorem aa7{i:Nat}{f:FD} (hf:fs[i]?=some f) (h:(AL vs ms cs fs f.2.1).1≠0) (hn:∀j < i,∀g,fs[j]?=some g->(AL vs ms cs fs g.2.1).1=0):
 Gy vs ms cs fs=((AL vs ms cs fs f.2.1).1,(i:Int),(AL vs ms cs fs f.2.1).2):=by
 have hb:=QZ (fs:=fs) (i:=i) λj hj g hg=>(AP (hn j hj g hg)).1
 have aH:(jU 0 (fs.take i)).find? (λd=>decide (d.1.1=dI fs) || decide (La vs ms cs fs d≠0))=none:=by
  rw[Xo];intro d hd;obtain⟨k,x,j,e,h1,h2,rfl⟩:=xG _ _ hd;have hk:k < i:=by have:=(eG.1 h1).1;simp at this;omega
  rw[aiT hk]at h1;have hz:=(AP (hn k hk x h1)).2 j e h2;rw[show(0+k:Nat)=k by omega,Js h1,hz]
  have:¬((k:Int)=dI fs):=by omega
  simp[this]
 have hcut:=CU i fs 0 hf;have key:∀{k:Nat}{e:ID},f.2.1[k]?=some e->((i:Int)=dI fs\/xE vs ms cs fs e f.2.1.length≠0)->(∀j < k,∀u,f.2.1[j]?=some u->(i:Int)≠dI fs/\xE vs ms cs fs u f.2.1.length=0) ->
  (dO fs).find? (λd=>decide (d.1.1=dI fs) || decide (La vs ms cs fs d≠0))=some (((i:Int),(k:Int),()),e,()):=by
  intro k e he hbad hok;unfold dO;rw[hcut,List.find?_append,aH,Option.none_or,List.find?_append,show(0+i:Nat)=i by omega]
  rw[yY (k:=k) (Jp he) (by rw[Js hf];simpa using hbad) λj hj t ht=>by
   obtain⟨u,hu,rfl⟩:=QY ht;obtain⟨a,b⟩:=hok j hj u hu;rw[Js hf,b];simp[a]]
  rfl
 by_cases hl:64 < f.2.1.length
 .have e1:dI fs=i:=Gw hf hl λj hj g hg=>(AP (hn j hj g hg)).1
  have gZ:0 < f.2.1.length:=by omega
  have:=key (k:=0) (kR gZ) (.inl e1.symm) (λj hj=>by omega)
  unfold Gy;rw[this];show(if(i:Int)=dI fs then _ else _)=_
  rw[if_pos e1.symm,e1];unfold AL;rw[if_pos hl]
 .obtain⟨k,e,h1,h2,h3,h4⟩:=agf hl h;have hne:(i:Int)≠dI fs:=by
   intro q;have:=CQ (fs:=fs);unfold dI at q;cases hfi:fs.findIdx? (λf=>decide (64 < f.2.1.length)) with
   | none=>rw[hfi]at q;simp at q
   | some m=>
     rw[hfi]at q;rw[A49]at hfi;obtain⟨hm,a,_⟩:=hfi;have q:i=m:=by have q:(i:Int)=(m:Int):=q;omega
     subst q;rw[(eG.1 hf).2]at a;simp at a;omega
  have:=key h1 (.inr h2) (λj hj u hu=>⟨hne,h3 j hj u hu⟩)
  unfold Gy;rw[this];show(if(i:Int)=dI fs then _ else(La vs ms cs fs _,(i:Int),(k:Int)))=_
  rw[if_neg hne,Js hf,h4]
theorem agh(hn:∀(j:Nat) g,fs[j]?=some g->(AL vs ms cs fs g.2.1).1=0):Gy vs ms cs fs=(0,-1,-1):=by
 have hl:dI fs = -1:=CQ λj g hg=>(AP (hn j g hg)).1
 rw[QW λj d hd=>?_,if_neg (by rw[hl];simp)]
 obtain⟨k,x,m,e,h1,h2,rfl⟩:=xG _ _ (iM hd);rw[show(0+k:Nat)=k by omega,Js h1,hl]
 exact⟨by show¬((k:Int) = -1);omega,(AP (hn k x h1)).2 m e h2⟩
theorem Jt:∀(l:List FD) (n m:Nat),(∀x∈l,x.2.1.length<=m)->(jU n l).length<=l.length * m
 | [],n,m,h=>by simp[jU]
 | x :: l,n,m,h=>by
   have:=Jt l (n+1) m λy hy=>h y (by simp[hy])
   have:=h x (by simp)
   have e:(qL n x).length=x.2.1.length:=by simp[qL]
   simp only[jU,kT,yE,yF];omega
theorem Ju(h:TV vs ms cs fs ts=true):bnd ((vs,ms,cs,fs,ts,()),()):=by
 unfold TV at h;rw[A8,dW,RG]at h;obtain⟨⟨h1,h2,h3,h4,h5⟩,h6⟩:=h;have h6:∀x∈fs,x.2.1.length<=100:=λx hx=>by simpa using h6 x hx
 have:=Jt fs 0 100 h6;refine⟨?_,?_,?_,?_,?_,λx hx=>?_,?_⟩
 .show vs.length<=_;omega
 .show ms.length<=_;omega
 .show cs.length<=_;omega
 .show fs.length<=_;omega
 .show ts.length<=_;omega
 .have:=h6 x hx;omega
 .show(jU 0 fs).length<=_;omega
theorem Lc(h:(DU vs ms cs fs).1≠0):aG vs ms cs fs ts=DU vs ms cs fs:=by unfold aG;rw[if_pos h]
theorem aa8(z:(DU vs ms cs fs).1=0) (h:BG vs ms cs fs≠0):aG vs ms cs fs ts=(BG vs ms cs fs,-1,-1):=by unfold aG;rw[if_neg (λq=>q z),if_pos h]
theorem aln(z:(DU vs ms cs fs).1=0) (z2:BG vs ms cs fs=0) (h:(Gy vs ms cs fs).1≠0):aG vs ms cs fs ts=Gy vs ms cs fs:=by unfold aG;rw[if_neg (λq=>q z),if_neg (λq=>q z2),if_pos h]
theorem alo(z:(DU vs ms cs fs).1=0) (z2:BG vs ms cs fs=0) (z3:(Gy vs ms cs fs).1=0):aG vs ms cs fs ts=(Em fs ts,-1,-1):=by
 unfold aG;rw[if_neg (λq=>q z),if_neg (λq=>q z2),if_neg (λq=>q z3)]
 split
 .rfl
 .rename_i h;rw[Hw.1 h]
abbrev Q5:CT:={ ps:=[sS],pre:=λd=>bnd d,res:=λd=>([],.iO [.c (.v (.int .i64 (aG d.1.1 d.1.2.1 d.1.2.2.1 d.1.2.2.2.1 d.1.2.2.2.2.1).1)),.c (.v (.int .i64 (aG d.1.1 d.1.2.1 d.1.2.2.1 d.1.2.2.2.1 d.1.2.2.2.2.1).2.1)),.c (.v (.int .i64 (aG d.1.1 d.1.2.1 d.1.2.2.1 d.1.2.2.2.1 d.1.2.2.2.2.1).2.2))]) }
abbrev aoO(vs:List VD) (ms cs:List ByteArray) (fs:List FD) (ts:List SD):Nat->Option (St->kS):=λk=>match k with
 | 17=>some λ_=>.inv { α:=Nat,slots:=λk=>[(15,.c (.v (.int .i64 k)))],res:=λ_=>[],inv:=λk=>k<=vs.length/\∀j < k,∀v,vs[j]?=some v->cO v.2.1=true,meas:=λk=>vs.length - k }
 | 22=>some λ_=>.inv { α:=Nat,slots:=λk=>[(16,.c (.v (.int .i64 k)))],res:=λ_=>[],inv:=λk=>k<=fs.length/\∀j < k,∀g,fs[j]?=some g->(AL vs ms cs fs g.2.1).1=0,meas:=λk=>fs.length - k }
 | _=>none
theorem alp(vs:List VD) (ms cs:List ByteArray) (fs:List FD) (ts:List SD) (aH:Q5.pre ((vs,ms,cs,fs,ts,()),())):
 let z6:=aG vs ms cs fs ts;let z4:=[cI (z6.fst),cI (z6.snd.fst),cI (z6.snd.snd)];let z7:=gY (jA fs);let z3:=λ(x:Nat)=>(x<=vs.length/\∀(j:Nat),j < x->∀(v:ByteArray×Int×Unit),vs[j]?=some v->cO v.snd.fst=true);let z1:=[g0 (au.blk 27 [SC.sl KW vs,SC.sl Sh.str ms,SC.sl Sh.str cs,SC.sl H8 fs,SC.sl nS ts]),g0 (au.row 9 Sh.str (iy vs)),g0 (au.row 9 Sh.str (jA fs))];let z5:=λ(x:Nat)=>(x:Int)+(1:Int);let z2:=λ(x:Nat)=>(x<=fs.length/\∀(j:Nat),j < x->∀(g:ByteArray×List ID×Unit),fs[j]?=some g->(AL vs ms cs fs g.snd.fst).fst=0);(vs.length<=1000000/\fs.length<=1000000)/\(iy vs).length<=1000000/\br (!decide ((gY (iy vs)).fst=0)) (rT z4 [cI ((gY (iy vs)).fst),cI (-1),cI (-1)]) (ms.length<=1000000/\br (!decide ((gY ms).fst=0)) (rT z4 [cI ((gY ms).fst),cI (-1),cI (-1)]) (cs.length<=1000000/\br (!decide ((gY cs).fst=0)) (rT z4 [cI ((gY cs).fst),cI (-1),cI (-1)]) ((jA fs).length<=1000000/\br (!decide (z7.fst=0)) (rT z4 [cI (z7.fst),cI (if z7.fst=0 then(0:Int) else z7.snd),cI (-1)]) (br (decide (8 < (vs.length:Int)) || decide (4 < (ms.length:Int)) || decide (4 < (cs.length:Int)) || decide (8 < (fs.length:Int))) (rT z4 [cI 4,cI (-1),cI (-1)]) ((∃x,(z3 x)/\(cI 0=cI (x:Int)/\True)/\sm z1)/\∀(x:Nat),(z3 x)->br (decide ((x:Int) < (vs.length:Int))) ((0<=(x:Int)/\(x:Int) < (vs.length:Int))/\∀(d:ByteArray×(I6.pair Sh.unit).den),vs[(x:Int).toNat]?=some d->True/\br (!cO (d.snd.fst,()).fst) (rT z4 [cI 2,cI (-1),cI (-1)]) (iR (z5 x)/\∃x',(z3 x')/\(cI (z5 x)=cI (x':Int)/\True)/\sm z1/\vs.length - x' < vs.length - x)) ((∃x,(z2 x)/\(cI 0=cI (x:Int)/\True)/\sm z1)/\∀(x:Nat),(z2 x)->br (decide ((x:Int) < (fs.length:Int))) ((0<=(x:Int)/\(x:Int) < (fs.length:Int))/\∀(d:ByteArray×(oP.sl.pair Sh.unit).den),fs[(x:Int).toNat]?=some d->True/\br (!decide ((AL vs ms cs fs (d.snd.fst,()).fst).fst=0)) (rT z4 [cI ((AL vs ms cs fs (d.snd.fst,()).fst).fst),cI (x:Int),cI ((AL vs ms cs fs (d.snd.fst,()).fst).snd)]) (iR (z5 x)/\∃x',(z2 x')/\(cI (z5 x)=cI (x':Int)/\True)/\sm z1/\fs.length - x' < fs.length - x)) (True/\rT z4 [cI (Em fs ts),cI (-1),cI (-1)]))))))):=by
 conv=>zeta
 delta cI g0 rT sm I6 iR;obtain⟨h1,h2,h3,h4,h5,h6,h7⟩:bnd ((vs,ms,cs,fs,ts,()),()):=aH;have h1:vs.length<=1000000:=h1;have h4:fs.length<=1000000:=h4;refine⟨⟨h1,h4⟩,by simpa[iy]using h1,ah.2 ⟨λa=>⟨rfl,?_⟩,λa=>⟨h2,ah.2 ⟨λb=>⟨rfl,?_⟩,λb=>⟨h3,ah.2 ⟨λc=>⟨rfl,?_⟩,λc=>⟨by simpa[jA]using h4,ah.2 ⟨λd=>⟨rfl,?_⟩,λd=>?_⟩⟩⟩⟩⟩⟩⟩⟩
 all_goals try simp only[II,Di,dW,gW]at a
 all_goals try simp only[II,Di,dW,gW]at b
 all_goals try simp only[II,Di,dW,gW]at c
 all_goals try simp only[II,Di,dW,gW]at d
 .have e:DU vs ms cs fs=((gY (iy vs)).1,-1,-1):=by unfold DU;rw[if_pos a]
  rw[Lc (by rw[e];exact a),e]
 .have e:DU vs ms cs fs=((gY ms).1,-1,-1):=by unfold DU;rw[if_neg (λq=>q a),if_pos b]
  rw[Lc (by rw[e];exact b),e]
 .have e:DU vs ms cs fs=((gY cs).1,-1,-1):=by unfold DU;rw[if_neg (λq=>q a),if_neg (λq=>q b),if_pos c]
  rw[Lc (by rw[e];exact c),e]
 all_goals have e:DU vs ms cs fs=((gY (jA fs)).1,(gY (jA fs)).2,-1):=by unfold DU;rw[if_neg (λq=>q a),if_neg (λq=>q b),if_neg (λq=>q c)]
 .rw[Lc (by rw[e];exact d),e,if_neg d]
 have z:(DU vs ms cs fs).1=0:=by rw[e];exact d
 clear e a b c d
 by_cases hc:8 < vs.length\/4 < ms.length\/4 < cs.length\/8 < fs.length
 .have e:BG vs ms cs fs=4:=by unfold BG;rw[if_pos hc]
  rw[aa8 z (by rw[e];simp),e]
  refine ah.2 ⟨λ_=>⟨rfl,rfl⟩,λh=>?_⟩
  simp only[oV,gW]at h;omega
 refine ah.2 ⟨λh=>?_,λ_=>⟨⟨0,⟨by omega,λj hj=>by omega⟩,⟨rfl,trivial⟩,rfl⟩,λk hk=>ah.2 ⟨λh=>?_,λh=>⟨⟨0,⟨by omega,λj hj=>by omega⟩,⟨rfl,trivial⟩,rfl⟩,λm hm=>ah.2 ⟨λh8=>?_,λh8=>⟨trivial,rfl,?_⟩⟩⟩⟩⟩⟩
 .simp only[DJ,dW]at h;omega
 .simp only[dW]at h;have hN:(k:Int).toNat=k:=by omega
  rw[hN];refine⟨by omega,λd hd=>⟨trivial,ah.2 ⟨λh9=>⟨rfl,?_⟩,λh9=>⟨ay.2 (by omega),k+1,⟨by omega,λj hj v hv=>?_⟩,⟨rfl,trivial⟩,rfl,by omega⟩⟩⟩⟩
  .have h9:cO d.2.1=false:=by simpa using h9
   have e:BG vs ms cs fs=2:=by
    unfold BG;rw[if_neg hc,if_neg];intro hh;rw[RG]at hh;have:=hh d (iM hd);rw[h9]at this;cases this
   rw[aa8 z (by rw[e];simp),e]
  .have h9:cO d.2.1=true:=by simpa using h9
   by_cases jY:j=k
   .subst jY;rw[hd]at hv;cases hv;exact h9
   .exact hk.2 j (by omega) v hv
 all_goals
  simp only[gW]at h;have z2:BG vs ms cs fs=0:=by
   unfold BG;rw[if_neg hc,if_pos];rw[RG];intro v hv;obtain⟨j,hj⟩:=Hu hv;exact hk.2 j (by have:=(eG.1 hj).1;omega) v hj
 .simp only[dW]at h8;have hN:(m:Int).toNat=m:=by omega
  rw[hN];refine⟨by omega,λd hd=>⟨trivial,ah.2 ⟨λh9=>⟨rfl,?_⟩,λh9=>⟨ay.2 (by omega),m+1,⟨by omega,λj hj v hv=>?_⟩,⟨rfl,trivial⟩,rfl,by omega⟩⟩⟩⟩
  .have h9:(AL vs ms cs fs d.2.1).1≠0:=by simpa using h9
   have e:=aa7 hd h9 hm.2;rw[aln z z2 (by rw[e];exact h9),e]
  .have h9:(AL vs ms cs fs d.2.1).1=0:=by simpa using h9
   by_cases jY:j=m
   .subst jY;rw[hd]at hv;cases hv;exact h9
   .exact hm.2 j (by omega) v hv
 .simp only[gW]at h8;have e:=agh (vs:=vs) (ms:=ms) (cs:=cs) λj g hj=>hm.2 j (by have:=(eG.1 hj).1;omega) g hj
  rw[alo z z2 (by rw[e])]
theorem agi:aW aT.gd 66 Q5:=
 kD (cx:=aT) (n:=120) (cl:=[(132,aa4),(133,QX),(134,QN),(135,aiB),(136,aiy)]) aB ⟨aa5,aa3,Oi,aa6,aa0,trivial⟩ Tryz.func66 λd hd=>by
  obtain⟨⟨vs,ms,cs,fs,ts,⟨⟩⟩,⟨⟩⟩:=d;exact aQ (aoO vs ms cs fs ts) (alp vs ms cs fs ts hd) (by kernel_rfl)
def aZ(n:Int):Int:=if n % 4294967296<=2147483647 then n % 4294967296 else n % 4294967296 - 4294967296
theorem xH(n:Int):-2147483648<=aZ n/\aZ n<=2147483647:=by
 unfold aZ;split<;>omega
theorem Gz{n:Int}:aZ n=n↔-2147483648<=n/\n<=2147483647:=by
 unfold aZ;constructor
 .intro h;split at h<;>omega
 .intro h;split<;>omega
def iE(f a b:Int):Int×Int:=
 if f=1 then(aZ (aZ a+aZ b),0) else if f=2 then(aZ (aZ a - aZ b),0) else if f=3 then(aZ (aZ a * aZ b),0)
 else if f=4 then(aZ (qy .and .i64 (aZ a) (aZ b)),0) else if f=5 then(aZ (qy .or .i64 (aZ a) (aZ b)),0) else if f=6 then(aZ (qy .xor .i64 (aZ a) (aZ b)),0)
 else if f=7 then(if aZ a=aZ b then 1 else 0,0) else if f=8 then(if aZ a=aZ b then 0 else 1,0) else if f=9 then(if aZ a < aZ b then 1 else 0,0)
 else if f=10 then(if aZ a<=aZ b then 1 else 0,0) else(0,8)
theorem Q7(f a b:Int):-2147483648<=(iE f a b).1/\(iE f a b).1<=2147483647:=by
 unfold iE
 repeat' split
 all_goals first | exact xH _ | (constructor<;>omega)
def iF:Nat->Int->Int->Int
 | 0,_,_=>-1
 | n+1,d,id=>if id < 8 then d else if 7<=id.tmod 8 then -1 else iF n (d+1) (id.tdiv 8 - 1)
def bQ(id:Int):Int:=if id < 0 then -1 else iF 5 0 id
theorem yZ:∀(n:Nat) (d id:Int),0<=d->iF n d id = -1\/(d<=iF n d id/\iF n d id < d+n)
 | 0,d,id,h=>.inl rfl
 | n+1,d,id,h=>by
   unfold iF;split
   .right;omega
   .split
    .exact .inl rfl
    .rcases yZ n (d+1) (id.tdiv 8 - 1) (by omega) with e | e
     .exact .inl e
     .right;omega
theorem GH(id:Int):-1<=bQ id/\bQ id<=4:=by
 unfold bQ;split
 .omega
 .rcases yZ 5 0 id (by omega) with e | e<;>omega
theorem AQ:∀(n:Nat) (d id r:Int),iF (n+1) d id=r->0<=d->0<=r->r < d+n->iF n (d+1) id=r+1
 | 0,d,id,r,h,h0,h1,h2=>by
   have h:iF 1 d id=r:=h;rcases yZ 1 d id h0 with e | e<;>omega
 | n+1,d,id,r,h,h0,h1,h2=>by
   unfold iF at h ⊢
   split at h
   .rename_i q;rw[if_pos q];omega
   .rename_i q;rw[if_neg q];split at h
    .omega
    .rename_i q2;rw[if_neg q2];exact AQ n (d+1) _ r h (by omega) h1 (by omega)
def Q8:Nat->Int
 | 0=>0
 | n+1=>8 * (Q8 n+1)
theorem Jv:∀(n:Nat) (d id:Int),0<=d->0<=id->0<=iF n d id->id < Q8 n
 | 0,d,id,h0,h1,h2=>by simp[iF]at h2
 | n+1,d,id,h0,h1,h2=>by
   have hp:0<=Q8 n:=by
    clear h2
    induction n with
    | zero=>simp[Q8]
    | succ n ih=>unfold Q8;omega
   unfold iF at h2;unfold Q8;split at h2
   .omega
   .split at h2
    .omega
    .have e:id.tdiv 8=id / 8:=adE h1;rw[e]at h2;have:=Jv n (d+1) (id / 8 - 1) (by omega) (by omega) h2
     omega
theorem kZ(h:0<=bQ id):0<=id/\id < 37448:=by
 unfold bQ at h;split at h
 .omega
 .have:=Jv 5 0 id (by omega) (by omega) h
  simp only[Q8]at this;omega
def dJ(id ch:Int):Int×Bool:=if bQ id < 0\/bQ id=4\/ch < 0\/7<=ch then(0,false) else(8 * (id+1)+ch,true)
def TW(id:Int):Int×Bool:=if bQ id < 1 then(0,false) else(id.tdiv 8 - 1,true)
def wH(id:Int):Int:=if bQ id < 0 then 0 else bQ id
theorem Dx(h0:0<=bQ id) (h4:bQ id≠4) (c0:0<=ch) (c7:ch < 7):bQ (8 * (id+1)+ch)=bQ id+1/\(8 * (id+1)+ch).tdiv 8 - 1=id:=by
 obtain⟨i0,i1⟩:=kZ h0;have e1:(8 * (id+1)+ch).tdiv 8=id+1:=by rw[adE (by omega)];omega
 have e2:(8 * (id+1)+ch).tmod 8=ch:=by rw[Int.tmod_eq_emod_of_nonneg (by omega)];omega
 have hr:=GH id;refine⟨?_,by omega⟩
 have hd:bQ (8 * (id+1)+ch)=iF 4 1 id:=by
  unfold bQ;rw[if_neg (by omega)]
  rw[iF,if_neg (by omega),e2,if_neg (by omega),e1,show id+1 - 1=id by omega]
  rfl
 rw[hd];have:bQ id=iF 5 0 id:=by unfold bQ;rw[if_neg (by omega)]
 exact AQ 4 0 id _ this.symm (by omega) h0 (by omega)
abbrev dR:Sh:=.pair (.int .i64) (.pair (.int .i64) (.pair (.int .i64) (.pair (.arr 8 (.int .i64)) (.pair (.int .i64) (.pair (.int .i64) (.pair (.int .i64) (.pair (.int .i64) (.pair (.int .i64) (.pair (.sl (.int .i64)) .unit)))))))))
abbrev TD:=Int×Int×Int×List Int×Int×Int×Int×Int×Int×List Int×Unit
variable {t:TD}
def mO(op:Int):Bool:=decide (8<=op/\op<=22)
def nJ(i:ID):Int×Bool:=if qX i≠0\/use i.1 0=false then(0,false) else(i.2.1,true)
def codeF(fs:List FD) (fn:Int):List ID:=(fs.getD fn.toNat (⟨#[]⟩,[],())).2.1
def qh(fs:List FD) (fn pc:Int):Option ID:=(codeF fs fn)[pc.toNat]?
def atR(fs:List FD) (fn pc:Int):ID×Bool:=match qh fs fn pc with
 | some i=>(i,true)
 | none=>((0,0,0,0,0,0,0,0,()),false)
def lD(id ch ph:Int) (hd:List Int) (i:ID):Int:=
 if ph≠0 then 0 else if i.1=18 then(if dU hd i.2.2.2.2.2.1=true then 0 else 27) else if i.1=16 then(if dU hd i.2.2.2.2.1=true then 0 else 27)
 else if i.1=21 then(if(dJ id ch).2=true then 0 else 28) else 0
def dB(ms:List ByteArray) (fs:List FD) (bound:Int):TD->Prop
 | (id,fn,pc,rg,st,ch,ph,su,fa,hd,_)=>0<=bQ id/\(0<=fn/\fn < fs.length)/\(0<=pc/\pc<=(codeF fs fn).length)/\(∀k < 8,∀r,rg[k]?=some r->cO r=true) /\
   (0<=st/\st<=bound)/\(0<=ch/\ch<=7/\(bQ id=4->ch=0))/\SS hd/\(∀m∈hd,0<=m/\m < ms.length) /\
   (ph=0\/((ph=1\/ph=2)/\∃i,qh fs fn pc=some i/\i.1=18/\dU hd i.2.2.2.2.2.1=false))
open Classical in
def mY(ms:List ByteArray) (fs:List FD) (bound:Int) (t:TD):Bool:=decide (dB ms fs bound t)
def fQ:TD->ID->TD×Bool
 | (id,fn,pc,rg,st,ch,ph,su,fa,hd,_),(op,a,b,c,obj,n,f,_,_)=>
   if op=1 then((id,fn,pc+1,rg.set a.toNat n,st,ch,ph,su,fa,hd,()),true)
   else if op=2 then((id,fn,pc+1,rg.set a.toNat (rg.getD b.toNat 0),st,ch,ph,su,fa,hd,()),true)
   else if op=3 then((id,fn,pc+1,if(iE f (rg.getD b.toNat 0) (rg.getD c.toNat 0)).2=0 then rg.set a.toNat (iE f (rg.getD b.toNat 0) (rg.getD c.toNat 0)).1 else rg,st,ch,ph,su,fa,hd,()),true)
   else if op=4 then((id,fn,n,rg,st,ch,ph,su,fa,hd,()),true)
   else if op=5 then((id,fn,if rg.getD b.toNat 0=0 then pc+1 else n,rg,st,ch,ph,su,fa,hd,()),true)
   else if op=6/\rg.getD b.toNat 0=0 then((id,fn,pc,rg,st,ch,ph,3,26,hd,()),false)
   else if op=7 then((id,fn,pc,rg,st,ch,ph,2,0,hd,()),false)
   else((id,fn,pc+1,rg,st,ch,ph,su,fa,hd,()),true)
def Ld:TD->Int->Int->TD
 | (id,fn,pc,rg,st,ch,ph,_,_,hd,_),s,f=>(id,fn,pc,rg,st,ch,ph,s,f,hd,())
def topS(fs:List FD) (bound:Int) (t:TD) (rest:ID->TD):TD:=match t with
 | (id,fn,pc,rg,st,ch,ph,su,fa,hd,_)=>match qh fs fn pc with
   | none=>(id,fn,pc,rg,st,ch,ph,2,0,hd,())
   | some i=>if mO i.1=true then
    (if lD id ch ph hd i≠0 then(id,fn,pc,rg,st,ch,ph,3,lD id ch ph hd i,hd,()) else if st=bound then(id,fn,pc,rg,st,ch,ph,4,0,hd,()) else(id,fn,pc,rg,st,ch,ph,su,fa,hd,()))
     else rest i
def eF(fs:List FD) (bound:Int):Nat->TD->TD
 | 0,t=>topS fs bound t λ_=>Ld t 3 29
 | k+1,t=>topS fs bound t λi=>if(fQ t i).2=true then eF fs bound k (fQ t i).1 else(fQ t i).1
def vM(ms:List ByteArray) (fs:List FD) (bound:Int):TD->Prop
 | (id,fn,pc,rg,st,ch,ph,su,fa,hd,u)=>dB ms fs bound (id,fn,pc,rg,st,ch,ph,su,fa,hd,u) /\
   (((su=1/\st < bound\/su=4/\1<=st)/\fa=0/\∃i,qh fs fn pc=some i/\mO i.1=true/\lD id ch ph hd i=0) \/
    (su=2/\fa=0/\ph=0/\∀i,qh fs fn pc=some i->i.1=7) \/
    (su=3/\ph=0/\∃i,qh fs fn pc=some i/\(fa=26/\i.1=6/\rg.getD i.2.2.1.toNat 0=0\/fa=29/\mO i.1=false\/fa≠26/\fa≠29/\fa≠0/\lD id ch ph hd i=fa)))
open Classical in
def wI(ms:List ByteArray) (fs:List FD) (bound:Int) (t:TD):Bool:=decide (vM ms fs bound t)
theorem mP(h:qX i=0):(0<=i.2.1/\i.2.1 < 8)/\(0<=i.2.2.1/\i.2.2.1 < 8)/\(0<=i.2.2.2.1/\i.2.2.2.1 < 8)/\(1<=i.1/\i.1<=22):=by
 unfold qX pK at h;split at h
 .simp at h
 split at h
 .simp at h
 split at h
 .simp at h
 .rename_i h1 h2 h3;simp only[WI,uG]at h1 h3;simp only[DJ,II,A98,gW]at h1 h3;refine⟨?_,?_,?_,?_⟩<;>omega
theorem alq(h:qX i=0) (h1:i.1=1):cO i.2.2.2.2.2.1=true:=by
 unfold qX pK at h
 repeat' split at h
 all_goals first | (simp at h;done) | skip
 rename_i q1 q2 q3 q4 q5 q6;simp[h1]at q6;unfold cO;simp;omega
theorem agj{x:FD} (hx:fs[k]?=some x){j:Nat} (hj:x.2.1[j]?=some i):(((k:Int),(j:Int),()),i,())∈dO fs:=by
 unfold dO;rw[CU k fs 0 hx];refine aiW _ (List.mem_append_left _ ?_);unfold qL;rw[Pq];refine⟨(i,j),?_,by simp⟩
 rw[A88];exact⟨j,by rw[adJ,hj];simp⟩
theorem sU{fn:Int} (h:0<=fn/\fn < fs.length):∃x,fs[fn.toNat]?=some x/\codeF fs fn=x.2.1:=by
 have hl:fn.toNat < fs.length:=by omega
 refine⟨fs[fn.toNat],kR hl,?_⟩;unfold codeF;rw[LQ,kR hl];rfl
theorem Dy(h:(aG vs ms cs fs ts).1=0){fn:Int} (hf:0<=fn/\fn < fs.length) (hi:qh fs fn pc=some i):xE vs ms cs fs i (codeF fs fn).length=0:=by
 obtain⟨c1,c2,c3⟩:=kP h;obtain⟨x,hx,ex⟩:=sU hf;unfold qh at hi;rw[ex]at hi ⊢;have:=alf c2 _ (agj hx hi)
 rwa [Js hx]at this
theorem qM(h:xE vs ms cs fs i m=0):qX i=0/\(0<=pR vs ms cs fs i.1->0<=i.2.2.2.2.1/\i.2.2.2.2.1 < pR vs ms cs fs i.1)/\(i.1=18->0<=i.2.2.2.2.2.1/\i.2.2.2.2.2.1 < ms.length)/\(i.1=4\/i.1=5->0<=i.2.2.2.2.2.1/\i.2.2.2.2.2.1<=m):=by
 unfold xE ciS at h;split at h
 .rename_i q;exact absurd h q
 split at h
 .cases h
 split at h
 .cases h
 split at h
 .cases h
 .rename_i q1 q2 q3 q4;refine⟨Hw.1 q1,λh0=>?_,λh0=>?_,λh0=>?_⟩
  .omega
  .omega
  .omega
theorem AU{a:Nat}{v:Int} (h:∀k < 8,∀r,rg[k]?=some r->cO r=true) (hv:cO v=true):∀k < 8,∀r,(rg.set a v)[k]?=some r->cO r=true:=by
 intro k hk r hr;rw[List.getElem?_set]at hr;split at hr
 .split at hr
  .cases hr;exact hv
  .cases hr
 .exact h k hk r hr
theorem GI{b:Int} (h:∀k < 8,∀r,rg[k]?=some r->cO r=true) (hb:0<=b/\b < 8):cO (rg.getD b.toNat 0)=true:=by
 rw[LQ];cases hq:rg[b.toNat]? with
 | none=>rfl
 | some r=>exact h _ (by omega) r hq
theorem Le(f a b:Int):cO (iE f a b).1=true:=by
 have:=Q7 f a b;unfold cO;simpa using this
theorem TY{n:Nat} (h:0<=pc) (h2:pc.toNat < n):0<=pc+1/\pc+1<=(n:Int):=by omega
theorem aiC{fn:Int} (h:qh fs fn pc=some i):pc.toNat < (codeF fs fn).length:=(eG.1 h).1
theorem aa9{fn st ph su fa:Int}{hd:List Int}{u:Unit} (h:dB ms fs bound (id,fn,pc,rg,st,ch,ph,su,fa,hd,u)) (hi:qh fs fn pc=some i) (hv:mO i.1=false):ph=0:=by
 rcases h.2.2.2.2.2.2.2.2 with e | ⟨_,j,hj,h18,_⟩
 .exact e
 .rw[hi]at hj;cases hj;rw[h18]at hv;cases hv
theorem agk{fn st ph su fa:Int}{hd:List Int}{u:Unit} (h:dB ms fs bound (id,fn,pc,rg,st,ch,ph,su,fa,hd,u)) (hi:qh fs fn pc=none):ph=0:=by
 rcases h.2.2.2.2.2.2.2.2 with e | ⟨_,j,hj,h18,_⟩
 .exact e
 .rw[hi]at hj;cases hj
theorem GK(hc:(aG vs ms cs fs ts).1=0) (h:dB ms fs bound t) (hi:qh fs t.2.1 t.2.2.1=some i) (hv:mO i.1=false):dB ms fs bound (fQ t i).1:=by
 obtain⟨id,fn,pc,rg,st,ch,ph,su,fa,hd,u⟩:=t;obtain⟨op,a,b,c,obj,n,f,ord,u2⟩:=i;have hi:qh fs fn pc=some (op,a,b,c,obj,n,f,ord,u2):=hi;have hp:=aa9 h hi hv;have gZ:=aiC hi;obtain⟨h1,h2,h3,h4,h5,h6,h7,h8,h9⟩:=h;have ok:=Dy hc h2 hi;obtain⟨k1,k2,k3,k4⟩:=qM ok;obtain⟨r1,r2,r3,r4⟩:=mP k1;have k4:op=4\/op=5->0<=n/\n<=((codeF fs fn).length:Int):=k4;have hpc:=TY h3.1 gZ;have key:∀(pc':Int) (Xk:List Int) (su' fa':Int),(0<=pc'/\pc'<=((codeF fs fn).length:Int))->(∀k < 8,∀r,Xk[k]?=some r->cO r=true)->dB ms fs bound (id,fn,pc',Xk,st,ch,ph,su',fa',hd,()):=
  λpc' Xk su' fa' q1 q2=>⟨h1,h2,q1,q2,h5,h6,h7,h8,.inl hp⟩
 unfold fQ;simp only;split
 .rename_i e;exact key _ _ _ _ hpc (AU h4 (alq k1 e))
 split
 .exact key _ _ _ _ hpc (AU h4 (GI h4 r2))
 split
 .split
  .exact key _ _ _ _ hpc (AU h4 (Le _ _ _))
  .exact key _ _ _ _ hpc h4
 split
 .rename_i e;exact key _ _ _ _ (k4 (.inl e)) h4
 split
 .rename_i e;split
  .exact key _ _ _ _ hpc h4
  .exact key _ _ _ _ (k4 (.inr e)) h4
 split
 .exact key _ _ _ _ h3 h4
 split
 .exact key _ _ _ _ h3 h4
 .exact key _ _ _ _ hpc h4
theorem AV(t:TD) (i:ID):(fQ t i).1.1=t.1/\(fQ t i).1.2.1=t.2.1/\(fQ t i).1.2.2.2.2.1=t.2.2.2.2.1/\(fQ t i).1.2.2.2.2.2.1=t.2.2.2.2.2.1/\(fQ t i).1.2.2.2.2.2.2.1=t.2.2.2.2.2.2.1/\(fQ t i).1.2.2.2.2.2.2.2.2.2.1=t.2.2.2.2.2.2.2.2.2.1/\((fQ t i).2=true->(fQ t i).1.2.2.2.2.2.2.2.1=t.2.2.2.2.2.2.2.1/\(fQ t i).1.2.2.2.2.2.2.2.2.1=t.2.2.2.2.2.2.2.2.1):=by
 obtain⟨id,fn,pc,rg,st,ch,ph,su,fa,hd,u⟩:=t;obtain⟨op,a,b,c,obj,n,f,ord,u2⟩:=i;unfold fQ;simp only
 repeat' split
 all_goals simp
theorem WT(id ch ph:Int) (hd:List Int) (i:ID):lD id ch ph hd i=0\/(ph=0/\(lD id ch ph hd i=27\/lD id ch ph hd i=28)):=by
 unfold lD
 repeat' split
 all_goals first | exact .inl rfl | (right;constructor<;>first | omega | simp)
theorem top_vld(hb:1<=bound){rest:ID->TD}{fn st ph:Int}{hd:List Int}{u:Unit} (h:dB ms fs bound (id,fn,pc,rg,st,ch,ph,1,0,hd,u))
 (hr:∀i,qh fs fn pc=some i->mO i.1=false->ph=0->vM ms fs bound (rest i)):vM ms fs bound (topS fs bound (id,fn,pc,rg,st,ch,ph,1,0,hd,u) rest):=by
 unfold topS;simp only;split
 .rename_i hi;exact⟨h,.inr (.inl ⟨rfl,rfl,agk h hi,λi q=>by rw[hi]at q;cases q⟩)⟩
 rename_i i hi;split
 .rename_i hv;have ho:=WT id ch ph hd i;split
  .rename_i e;refine⟨h,.inr (.inr ⟨rfl,by omega,i,hi,.inr (.inr ⟨by omega,by omega,by omega,rfl⟩)⟩)⟩
  .rename_i e;have e:lD id ch ph hd i=0:=by omega
   have hst:=h.2.2.2.2.1;split
   .exact⟨h,.inl ⟨.inr ⟨rfl,by omega⟩,rfl,i,hi,hv,e⟩⟩
   .exact⟨h,.inl ⟨.inl ⟨rfl,by omega⟩,rfl,i,hi,hv,e⟩⟩
 .rename_i hv;have hv:mO i.1=false:=by simpa using hv
  exact hr i hi hv (aa9 h hi hv)
theorem Ua(hc:(aG vs ms cs fs ts).1=0) (hb:1<=bound):∀(k:Nat) (t:TD),dB ms fs bound t->t.2.2.2.2.2.2.2.1=1->t.2.2.2.2.2.2.2.2.1=0->vM ms fs bound (eF fs bound k t):=by
 intro k
 induction k with
 | zero=>
   rintro⟨id,fn,pc,rg,st,ch,ph,su,fa,hd,u⟩ h h1 h2;have h1:su=1:=h1;have h2:fa=0:=h2;subst h1;subst h2;rw[eF];refine top_vld hb h λi hi hv hp=>?_
   show vM ms fs bound (id,fn,pc,rg,st,ch,ph,3,29,hd,());exact⟨h,.inr (.inr ⟨rfl,hp,i,hi,.inr (.inl ⟨rfl,hv⟩)⟩)⟩
 | succ k ih=>
   rintro⟨id,fn,pc,rg,st,ch,ph,su,fa,hd,u⟩ h h1 h2;have h1:su=1:=h1;have h2:fa=0:=h2;subst h1;subst h2;rw[eF];refine top_vld hb h λi hi hv hp=>?_
   have hf:=GK hc (t:=(id,fn,pc,rg,st,ch,ph,1,0,hd,u)) h hi hv;have hk:=AV (id,fn,pc,rg,st,ch,ph,1,0,hd,u) i;split
   .rename_i e;exact ih _ hf (hk.2.2.2.2.2.2 e).1 (hk.2.2.2.2.2.2 e).2
   .rename_i e;obtain⟨op,a,b,c,obj,n,f,ord,u2⟩:=i;unfold fQ at e ⊢;simp only at e ⊢
    by_cases n1:op=1
    .rw[if_pos n1]at e;exact absurd rfl e
    rw[if_neg n1]at e ⊢
    by_cases n2:op=2
    .rw[if_pos n2]at e;exact absurd rfl e
    rw[if_neg n2]at e ⊢
    by_cases n3:op=3
    .rw[if_pos n3]at e;exact absurd rfl e
    rw[if_neg n3]at e ⊢
    by_cases n4:op=4
    .rw[if_pos n4]at e;exact absurd rfl e
    rw[if_neg n4]at e ⊢
    by_cases n5:op=5
    .rw[if_pos n5]at e;exact absurd rfl e
    rw[if_neg n5]at e ⊢
    by_cases n6:op=6/\rg.getD b.toNat 0=0
    .rw[if_pos n6];exact⟨h,.inr (.inr ⟨rfl,hp,_,hi,.inl ⟨rfl,n6.1,n6.2⟩⟩)⟩
    rw[if_neg n6]at e ⊢
    by_cases n7:op=7
    .rw[if_pos n7];exact⟨h,.inr (.inl ⟨rfl,rfl,hp,λj hj=>by rw[hi]at hj;cases hj;exact n7⟩)⟩
    rw[if_neg n7]at e;exact absurd rfl e
theorem top_keep{rest:ID->TD} (hr:∀i,(rest i).1=t.1/\(rest i).2.1=t.2.1/\(rest i).2.2.2.2.1=t.2.2.2.2.1/\(rest i).2.2.2.2.2.2.2.2.2.1=t.2.2.2.2.2.2.2.2.2.1):
 (topS fs bound t rest).1=t.1/\(topS fs bound t rest).2.1=t.2.1/\(topS fs bound t rest).2.2.2.2.1=t.2.2.2.2.1/\(topS fs bound t rest).2.2.2.2.2.2.2.2.2.1=t.2.2.2.2.2.2.2.2.2.1:=by
 obtain⟨id,fn,pc,rg,st,ch,ph,su,fa,hd,u⟩:=t;unfold topS;simp only;split
 .exact⟨rfl,rfl,rfl,rfl⟩
 split
 .repeat' split
  all_goals exact⟨rfl,rfl,rfl,rfl⟩
 .exact hr _
theorem wJ(fs:List FD) (bound:Int):∀(k:Nat) (t:TD),(eF fs bound k t).1=t.1/\(eF fs bound k t).2.1=t.2.1/\(eF fs bound k t).2.2.2.2.1=t.2.2.2.2.1/\(eF fs bound k t).2.2.2.2.2.2.2.2.2.1=t.2.2.2.2.2.2.2.2.2.1:=by
 intro k
 induction k with
 | zero=>
   intro t;rw[eF];exact top_keep λi=>⟨rfl,rfl,rfl,rfl⟩
 | succ k ih=>
   intro t;rw[eF];refine top_keep λi=>?_
   have hk:=AV t i;have:=ih (fQ t i).1;split
   .exact⟨this.1.trans hk.1,this.2.1.trans hk.2.1,this.2.2.1.trans hk.2.2.1,this.2.2.2.trans hk.2.2.2.2.2.1⟩
   .exact⟨hk.1,hk.2.1,hk.2.2.1,hk.2.2.2.2.2.1⟩
def nZ(l o:List Int) (b:Bool):List Int:=l.filter λx=>dU o x == b
def AX(l:List Int) (x:Int):List Int:=nZ (bM l) [x] false
def y5(l:List Int) (x:Int):List Int:=bM (l++[x])
theorem Q9(l:List Int) (x:Int):SS (AX l x):=List.Pairwise.filter _ (Aq l)
theorem AY{x y:Int}:y∈AX l x↔y∈l/\y≠x:=by
 unfold AX nZ;rw[Vj,Ar];have:(dU [x] y == false)=true↔y≠x:=by
  rw[zh,pO,Xg]
 rw[this]
theorem Eo{x y:Int}:y∈y5 l x↔y∈l\/y=x:=by
 unfold y5;rw[Ar];simp
theorem GL{n:Int} (h:SS l):l.filter (λx=>decide (x≠n))=AX l n:=by
 refine QK (List.Pairwise.filter _ h) (Q9 _ _) λx=>?_
 rw[AY,Vj];simp
def zT:TD:=(0,0,0,[0,0,0,0,0,0,0,0],0,0,0,0,0,[],())
def gq:TD->ID->Int->TD
 | (id,fn,pc,rg,st,ch,ph,su,fa,hd,_),i,result=>
   if i.1=18 then
    (if ph=0 then(id,fn,pc,if(nJ i).2=true then rg.set (nJ i).1.toNat result else rg,st+1,ch,1,su,fa,AX hd i.2.2.2.2.2.1,())
     else if ph=1 then(id,fn,pc,if(nJ i).2=true then rg.set (nJ i).1.toNat result else rg,st+1,ch,2,su,fa,hd,())
     else(id,fn,pc+1,if(nJ i).2=true then rg.set (nJ i).1.toNat result else rg,st+1,ch,0,su,fa,y5 hd i.2.2.2.2.2.1,()))
   else(id,fn,pc+1,if(nJ i).2=true then rg.set (nJ i).1.toNat result else rg,st+1,if i.1=21 then ch+1 else ch,ph,su,fa,
    if i.1=15\/(i.1=17/\result≠0) then y5 hd i.2.2.2.2.1 else if i.1=16 then AX hd i.2.2.2.2.1 else hd,())
theorem Jw{op:Int} (h:op=15\/op=16\/op=17):pR vs ms cs fs op=ms.length:=by
 unfold pR;rw[if_neg (by omega),if_pos h]
theorem CV(h:vM ms fs bound t) (h1:t.2.2.2.2.2.2.2.1=1):t.2.2.2.2.2.2.2.2.1=0/\t.2.2.2.2.1 < bound/\∃i,qh fs t.2.1 t.2.2.1=some i/\mO i.1=true/\lD t.1 t.2.2.2.2.2.1 t.2.2.2.2.2.2.1 t.2.2.2.2.2.2.2.2.2.1 i=0:=by
 obtain⟨id,fn,pc,rg,st,ch,ph,su,fa,hd,u⟩:=t;have h1:su=1:=h1;subst h1;obtain⟨hf,q | q | q⟩:=h
 .obtain⟨q1,q2,i,hi,hv,ho⟩:=q;rcases q1 with⟨_,q1⟩ | ⟨q1,_⟩
  .exact⟨q2,q1,i,hi,hv,ho⟩
  .exact absurd q1 (by decide)
 .exact absurd q.1 (by decide)
 .exact absurd q.1 (by decide)
theorem GN(hc:(aG vs ms cs fs ts).1=0) (h:vM ms fs bound t) (h1:t.2.2.2.2.2.2.2.1=1) (hi:qh fs t.2.1 t.2.2.1=some i){result:Int} (hv:cO result=true):dB ms fs bound (gq t i result):=by
 obtain⟨f0,s0,j,hj,vj,oj⟩:=CV h h1;rw[hi]at hj;cases hj;obtain⟨id,fn,pc,rg,st,ch,ph,su,fa,hd,u⟩:=t;have hf:dB ms fs bound (id,fn,pc,rg,st,ch,ph,su,fa,hd,u):=h.1;have hi:qh fs fn pc=some i:=hi;have s0:st < bound:=s0;have oj:lD id ch ph hd i=0:=oj;have gZ:=aiC hi;obtain⟨a1,a2,a3,a4,a5,a6,a7,a8,a9⟩:=hf;obtain⟨k1,k2,k3,k4⟩:=qM (Dy hc a2 hi);have hpc:=TY a3.1 gZ;have hst:0<=st+1/\st+1<=bound:=⟨Int.add_nonneg a5.1 (by decide),s0⟩
 have hrg:∀k < 8,∀r,(if(nJ i).2=true then rg.set (nJ i).1.toNat result else rg)[k]?=some r->cO r=true:=by
  split
  .exact AU a4 hv
  .exact a4
 have alr:∀x,SS (AX hd x)/\∀m∈AX hd x,0<=m/\m < (ms.length:Int):=λx=>⟨Q9 _ _,λm hm=>a8 m (AY.1 hm).1⟩
 have hadd:∀x,0<=x/\x < (ms.length:Int)->SS (y5 hd x)/\∀m∈y5 hd x,0<=m/\m < (ms.length:Int):=λx hx=>⟨Aq _,λm hm=>by
  rcases Eo.1 hm with q | q
  .exact a8 m q
  .subst q;exact hx⟩
 unfold gq;simp only;split
 .rename_i e;split
  .rename_i e0;subst e0;refine⟨a1,a2,a3,hrg,hst,a6,(alr _).1,(alr _).2,.inr ⟨.inl rfl,i,hi,e,?_⟩⟩;rw[pO];exact λq=>(AY.1 q).2 rfl
  rename_i n0;have a10:=a9.resolve_left n0;split
  .exact⟨a1,a2,a3,hrg,hst,a6,a7,a8,.inr ⟨.inr rfl,a10.2⟩⟩
  .exact⟨a1,a2,hpc,hrg,hst,a6,(hadd _ (k3 e)).1,(hadd _ (k3 e)).2,.inl rfl⟩
 .rename_i e;have e0:ph=0:=by
   rcases a9 with q | ⟨_,j,hj,q,_⟩
   .exact q
   .rw[hi]at hj;cases hj;exact absurd q e
  subst e0;have hch:0<=(if i.1=21 then ch+1 else ch)/\(if i.1=21 then ch+1 else ch)<=7/\(bQ id=4->(if i.1=21 then ch+1 else ch)=0):=by
   split
   .rename_i e21;have:(dJ id ch).2=true:=by
     unfold lD at oj;rw[if_neg (by simp),if_neg e,if_neg (by omega),if_pos e21]at oj
     by_cases q:(dJ id ch).2=true
     .exact q
     .rw[if_neg q]at oj;cases oj
    unfold dJ at this;split at this
    .cases this
    .rename_i q;omega
   .exact a6
  refine⟨a1,a2,hpc,hrg,hst,hch,?_,?_,.inl rfl⟩
  .split
   .exact Aq _
   split
   .exact Q9 _ _
   .exact a7
  .split
   .rename_i q;have ho:=Jw (vs:=vs) (ms:=ms) (cs:=cs) (fs:=fs) (op:=i.1) (by omega)
    rw[ho]at k2;exact(hadd _ (k2 (by omega))).2
   split
   .exact(alr _).2
   .exact a8
theorem Om(t:TD) (i:ID) (r:Int):(gq t i r).1=t.1/\(gq t i r).2.1=t.2.1/\(gq t i r).2.2.2.2.1=t.2.2.2.2.1+1/\(gq t i r).2.2.2.2.2.2.2.1=t.2.2.2.2.2.2.2.1/\(gq t i r).2.2.2.2.2.2.2.2.1=t.2.2.2.2.2.2.2.2.1:=by
 obtain⟨id,fn,pc,rg,st,ch,ph,su,fa,hd,u⟩:=t;unfold gq;simp only
 repeat' split
 all_goals simp
def dG(e bound:Int):Int:=if e≠0 then e else if bound < 1\/32 < bound then 2 else 0
theorem fE{e:Int}:dG e bound=0↔e=0/\1<=bound/\bound<=32:=by
 unfold dG;constructor
 .intro h;split at h
  .rename_i q;exact absurd h q
  .rename_i q;split at h
   .cases h
   .omega
 .rintro⟨h1,h2,h3⟩;rw[if_neg (by omega),if_neg (by omega)]
def newS(e:Int) (fs:List FD) (bound id fn arg:Int):TD×Int:=
 if dG e bound≠0 then(zT,dG e bound) else if bQ id < 0 then(zT,2) else if fn < 0\/(fs.length:Int)<=fn then(zT,11) else if cO arg=false then(zT,2)
 else(eF fs bound 256 (id,fn,0,[arg,0,0,0,0,0,0,0],0,0,0,1,0,[],()),0)
theorem GR(ms:List ByteArray){fn arg:Int} (hb:1<=bound) (h1:¬bQ id < 0) (h2:¬(fn < 0\/(fs.length:Int)<=fn)) (h3:¬cO arg=false):dB ms fs bound (id,fn,0,[arg,0,0,0,0,0,0,0],0,0,0,1,0,[],()):=by
 refine⟨by omega,by omega,by omega,λk hk r hr=>?_,by omega,⟨by omega,by omega,λ_=>rfl⟩,List.Pairwise.nil,λm hm=>(nomatch hm),.inl rfl⟩
 match k,hr with
 | 0,hr=>cases hr;simpa using h3
 | k+1,hr=>
   have:r=0:=by
    have:=iM (show[(0:Int),0,0,0,0,0,0][k]?=some r by simpa using hr)
    simpa using this
   rw[this];rfl
open Classical in
def dZ(e:Int) (ms:List ByteArray) (fs:List FD) (t:TD):ID×Bool:=
 if e=0/\t.2.2.2.2.2.2.2.1=1/\vM ms fs 32 t then atR fs t.2.1 t.2.2.1 else((0,0,0,0,0,0,0,0,()),false)
open Classical in
def kG(e:Int) (ms:List ByteArray) (fs:List FD) (bound:Int) (t:TD) (result:Int):TD×Int:=
 if dG e bound≠0 then(zT,dG e bound) else if¬vM ms fs bound t then(zT,1) else if t.2.2.2.2.2.2.2.1≠1 then(zT,30) else if cO result=false then(zT,2)
 else(eF fs bound 256 (gq t (atR fs t.2.1 t.2.2.1).1 result),0)
end
end Go.Proofs.YtjhenjhcbcalpaaGreatDoor
