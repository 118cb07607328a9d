/- Part 7 of the proof. Conditions: the rows'. -/
import Derived.Test.YtjhenjhcbcalpaaGreatDoorB6
set_option linter.unusedSimpArgs false
set_option linter.unusedVariables false
set_option maxRecDepth 1000000
set_option maxHeartbeats 8000000
namespace Go.Proofs.YtjhenjhcbcalpaaGreatDoor
open Go Go.lH
noncomputable section
variable {i:ID}{l rg:List Int}{k:Nat}{vs:List VD}{ms cs:List ByteArray}{fs:List FD}{ts:List SD}{id ch pc bound:Int}
def Yx(s:ByteArray) (i:Nat):Int:=match s[i]? with | some u=>(u.toNat:Int) | none=>0
theorem Oq{s:ByteArray}{i:Nat}{u:UInt8} (h:s[i]?=some u):Yx s i=u.toNat:=by simp[Yx,h]
def okB(c:Int):Bool:=zL c || decide (c=95) || decide (48<=c/\c<=57)
def gq(s:ByteArray):Bool:=decide (1<=s.size/\s.size<=16) && zL (Yx s 0) && (List.range s.size).all λi=>okB (Yx s i)
abbrev akM:CT:={ ps:=[.str],pre:=λd=>True,res:=λd=>([],vB (gq d.1)) }
abbrev ahK(s:ByteArray):Nat->Option (St->kD):=λk=>match k with
 | 4=>some λ_=>.inv { α:=Nat,slots:=λk=>[(20,.c (.v (.int .i64 k)))],res:=λk=>[],inv:=λk=>k<=((List.range s.size)).length/\∀j < k,okB (Yx s j)=true,meas:=λk=>((List.range s.size)).length - k }
 | _=>none
theorem ac5(s:ByteArray):
 let z5:=(s.size:Int) < (1:Int);let z3:=!(decide z5 || decide (16 < (s.size:Int)));let z6:=List.range s.size;let z2:=λ(x:Nat)=>(x<=z6.length/\∀(j:Nat),j < x->okB (Yx s j)=true);let z4:=λ(u u_1:UInt8)=>!zL (u.toNat:Int) && !decide ((u_1.toNat:Int)=(95:Int));let z1:=λ(u_2 u u_1:UInt8)=>!decide ((u_2.toNat:Int) < (48:Int)) && (z4 u u_1);(z3=true->(0:Int)<=(0:Int)/\0 < (s.size:Int))/\∀(u:UInt8),(z3=true->s[0]?=some u)->(z3=true->True)/\br (decide z5 || decide (16 < (s.size:Int)) || !zL (u.toNat:Int)) (qB (gq s) false) ((∃x,(z2 x)/\(cI 0=cI (x:Int)/\True)/\([]:List fV)=[])/\∀(x:Nat),(z2 x)->br (decide ((x:Int) < (s.size:Int))) ((0<=(x:Int)/\(x:Int) < (s.size:Int))/\∀(u:UInt8),s[(x:Int).toNat]?=some u->True/\((!zL (u.toNat:Int))=true->0<=(x:Int)/\(x:Int) < (s.size:Int))/\∀(u_1:UInt8),((!zL (u.toNat:Int))=true->s[(x:Int).toNat]?=some u_1)->((z4 u u_1)=true->0<=(x:Int)/\(x:Int) < (s.size:Int))/\∀(u_2:UInt8),((z4 u u_1)=true->s[(x:Int).toNat]?=some u_2)->((z1 u_2 u u_1)=true->0<=(x:Int)/\(x:Int) < (s.size:Int))/\∀(u_3:UInt8),((z1 u_2 u u_1)=true->s[(x:Int).toNat]?=some u_3)->br (!zL (u.toNat:Int) && !decide ((u_1.toNat:Int)=(95:Int)) && (decide ((u_2.toNat:Int) < (48:Int)) || decide (57 < (u_3.toNat:Int)))) (qB (gq s) false) (iR ((x:Int)+(1:Int))/\∃x',(z2 x')/\(cI ((x:Int)+(1:Int))=cI (x':Int)/\True)/\([]:List fV)=[]/\z6.length - x' < z6.length - x)) (qB (gq s) true)):=by
 conv=>zeta
 delta fV cI qB iR;have hs2:(!(decide ((s.size:Int) < (1:Int)) || decide ((16:Int) < (s.size:Int))))=true↔(1<=s.size/\s.size<=16):=by
  simp only[UF,rM,iH];omega
 refine⟨λh=>by have:=hs2.1 h;omega,λu hu=>⟨λ_=>trivial,ah.2 ⟨λh=>⟨rfl,?_⟩,λh=>?_⟩⟩⟩
 .have:gq s=false:=by
   unfold gq
   by_cases hs:1<=s.size/\s.size<=16
   .have e:=Oq (hu (hs2.2 hs));simp only[Fb,eH,UF]at h;have h0:zL (Yx s 0)=false:=by
     rw[e];rcases h with(h | h) | h
     .omega
     .omega
     .exact h
    rw[h0];simp
   .rw[UJ hs];rfl
  rw[this]
 .simp only[rM,iH,BJ]at h;obtain⟨⟨h1,h2⟩,h3⟩:=h;have hs:1<=s.size/\s.size<=16:=by omega
  have e:=Oq (hu (hs2.2 hs));have hl:(List.range s.size).length=s.size:=List.length_range;rw[hl];refine⟨⟨0,⟨by omega,λj hj=>by omega⟩,⟨rfl,trivial⟩,rfl⟩,λk hk=>ah.2 ⟨λh=>?_,λh=>?_⟩⟩
  .simp only[eH]at h;have hN:(k:Int).toNat=k:=by omega
   rw[hN];refine⟨by omega,λv hv=>⟨trivial,λ_=>by omega,λv1 hv1=>⟨λ_=>by omega,λv2 hv2=>⟨λ_=>by omega,λv3 hv3=>?_⟩⟩⟩⟩
   have ev:=Oq hv;have bad:okB (Yx s k)=false->gq s=false:=by
    intro hb;unfold gq;have:((List.range s.size).all λi=>okB (Yx s i))=false:=by
     rw[List.all_eq_false];exact⟨k,by simp;omega,by rw[hb];simp⟩
    rw[this];simp
   have fin:okB (Yx s k)=true->(InR IntKind.i64 ((k:Int)+1)/\∃x',(x'<=s.size/\∀(j:Nat),j < x'->okB (Yx s j)=true)/\(SV.c (SC.v (Value.int IntKind.i64 ((k:Int)+1)))=SV.c (SC.v (Value.int IntKind.i64 (x':Int)))/\True)/\([]:List (Go.lH.Gd×Go.lH.ak))=[]/\s.size - x' < s.size - k):=λho=>
    ⟨aC.2 (by omega),k+1,⟨by omega,λj hj=>by
     by_cases jh:j=k
     .rw[jh];exact ho
     .exact hk.2 j (by omega)⟩,⟨rfl,trivial⟩,rfl,by omega⟩
   cases hA:zL (v.toNat:Int) with
   | true=>
     refine ah.2 ⟨λh=>by simp at h,λ_=>fin ?_⟩
     rw[ev];unfold okB;rw[hA];rfl
   | false=>
     have hv1:=hv1 (by rw[hA];rfl)
     rw[hv]at hv1;cases hv1
     by_cases h95:(v.toNat:Int)=95
     .refine ah.2 ⟨λh=>by simp[h95]at h,λ_=>fin ?_⟩
      rw[ev];unfold okB;simp[h95]
     .have hd95:decide ((v.toNat:Int)=95)=false:=UJ h95;have hv2:=hv2 (by rw[hA,hd95];rfl)
      rw[hv]at hv2;cases hv2
      by_cases h48:(v.toNat:Int) < 48
      .refine ah.2 ⟨λ_=>⟨rfl,?_⟩,λh=>by simp[h95,h48]at h⟩
       rw[bad (by rw[ev];unfold okB;rw[hA,hd95];simp;omega)]
      .have amB:decide ((v.toNat:Int) < 48)=false:=UJ h48;have hv3:=hv3 (by rw[hA,hd95,amB];rfl)
       rw[hv]at hv3;cases hv3
       by_cases h57:57 < (v.toNat:Int)
       .refine ah.2 ⟨λ_=>⟨rfl,?_⟩,λh=>by simp[h95,h57]at h⟩
        rw[bad (by rw[ev];unfold okB;rw[hA,hd95];simp;omega)]
       .refine ah.2 ⟨λh=>by simp[h95,h48,h57]at h,λ_=>fin ?_⟩
        rw[ev];unfold okB;rw[hA,hd95];simp;omega
  .simp only[iH]at h;have:gq s=true:=by
    unfold gq;rw[Jg hs,e,h3];simp only[OZ];rw[UH];intro i hi;simp at hi;exact hk.2 i (by omega)
   rw[this];exact⟨rfl,rfl⟩
theorem Yy:aY aV.gd 208 akM:=
 pz (cx:=aV) (n:=47) (cl:=[(214,afh)]) aB ⟨Yo,trivial⟩ Tryz.func208 λd hd=>by
  obtain⟨s,⟨⟩⟩:=d;exact⟨ahK s,cast (by kernel_rfl) (ac5 s)⟩
def ku(l:List ByteArray):Int×Int:=match(List.range l.length).find? (λi=>!gq (l.getD i ⟨#[]⟩) || yR (l.take i) (l.getD i ⟨#[]⟩)) with
 | some i=>(if gq (l.getD i ⟨#[]⟩) then 7 else 6,i)
 | none=>(0,-1)
theorem Gh{l:List ByteArray} (hk:k < l.length) (h:∀j < k,gq (l.getD j ⟨#[]⟩)=true/\yR (l.take j) (l.getD j ⟨#[]⟩)=false) (hf:gq (l.getD k ⟨#[]⟩)=false\/yR (l.take k) (l.getD k ⟨#[]⟩)=true):
 ku l=(if gq (l.getD k ⟨#[]⟩) then 7 else 6,(k:Int)):=by
 unfold ku;rw[show(List.range l.length).find? (λi=>!gq (l.getD i ⟨#[]⟩) || yR (l.take i) (l.getD i ⟨#[]⟩))=some k from List.find?_range_eq_some.2 ⟨by rcases hf with hf | hf<;>rw[hf]<;>simp,by simpa using hk,λj hj=>by obtain⟨a,b⟩:=h j hj;rw[a,b];rfl⟩]
theorem Yz{l:List ByteArray} (h:∀j < l.length,gq (l.getD j ⟨#[]⟩)=true/\yR (l.take j) (l.getD j ⟨#[]⟩)=false):ku l=(0,-1):=by
 unfold ku;rw[show(List.range l.length).find? (λi=>!gq (l.getD i ⟨#[]⟩) || yR (l.take i) (l.getD i ⟨#[]⟩))=none from A94.2 λi hi=>by
  obtain⟨a,b⟩:=h i (by simpa using hi)
  rw[a,b];simp]
abbrev YA:CT:={ ps:=[.sl .str],pre:=λd=>d.1.length<=1000000,res:=λd=>([],.iO [.c (.v (.int .i64 (ku d.1).1)),.c (.v (.int .i64 (ku d.1).2))]) }
abbrev ahL(l:List ByteArray):Nat->Option (St->kD):=λk=>match k with
 | 2=>some λ_=>.inv { α:=Nat,slots:=λk=>[(8,.c (.v (.int .i64 k)))],res:=λk=>[],inv:=λk=>k<=(l).length/\∀j < k,gq (l.getD j ⟨#[]⟩)=true/\yR (l.take j) (l.getD j ⟨#[]⟩)=false,meas:=λk=>(l).length - k }
 | _=>none
theorem ac6(l:List ByteArray) (aF:YA.pre (l,())):
 let z1:=λ(x:Nat)=>(x<=l.length/\∀(j:Nat),j < x->gq (l.getD j { data:=#[]:ByteArray })=true/\yR (List.take j l) (l.getD j { data:=#[]:ByteArray })=false);let z2:=[cI ((ku l).fst),cI ((ku l).snd)];(∃x,(z1 x)/\(cI 0=cI (x:Int)/\True)/\([]:List fV)=[])/\∀(x:Nat),(z1 x)->br (decide ((x:Int) < (l.length:Int))) ((0<=(x:Int)/\(x:Int) < (l.length:Int))/\∀(d:ByteArray),l[(x:Int).toNat]?=some d->True/\br (!gq d) (rT z2 [cI 6,cI (x:Int)]) (((0:Int)<=(0:Int)/\0<=(x:Int)/\(x:Int)<=(l.length:Int))/\(List.drop 0 (List.take (x:Int).toNat l)).length<=1000000/\br (yR (List.drop 0 (List.take (x:Int).toNat l)) d) (rT z2 [cI 7,cI (x:Int)]) (iR ((x:Int)+(1:Int))/\∃x',(z1 x')/\(cI ((x:Int)+(1:Int))=cI (x':Int)/\True)/\([]:List fV)=[]/\l.length - x' < l.length - x))) (rT z2 [cI 0,cI (-1)]):=by
 conv=>zeta
 delta fV cI rT iR;have hp:l.length<=1000000:=aF;refine⟨⟨0,⟨by omega,λj hj=>by omega⟩,⟨rfl,trivial⟩,rfl⟩,λk hk=>ah.2 ⟨λh=>?_,λh=>?_⟩⟩
 .simp only[eH]at h;have hN:(k:Int).toNat=k:=by omega
  rw[hN];refine⟨by omega,λd hd=>?_⟩
  have hg:l.getD k ⟨#[]⟩=d:=by rw[A63,hd];rfl
  refine⟨trivial,ah.2 ⟨λh2=>⟨rfl,?_⟩,λh2=>⟨⟨by omega,by omega,by omega⟩,by simp;omega,ah.2 ⟨λh3=>⟨rfl,?_⟩,λh3=>⟨aC.2 (by omega),k+1,⟨by omega,λj hj=>?_⟩,⟨rfl,trivial⟩,rfl,by omega⟩⟩⟩⟩⟩
  .have h2:gq d=false:=by simpa using h2
   rw[Gh (by omega) hk.2 (.inl (by rw[hg];exact h2)),hg,h2];rfl
  .have h2:gq d=true:=by simpa using h2
   have h3:yR (l.take k) d=true:=by simpa using h3
   rw[Gh (by omega) hk.2 (.inr (by rw[hg];exact h3)),hg,h2];rfl
  .by_cases jh:j=k
   .subst jh;rw[hg];exact⟨by simpa using h2,by simpa using h3⟩
   .exact hk.2 j (by omega)
 .simp only[iH]at h;rw[Yz λj hj=>hk.2 j (by omega)];exact⟨rfl,rfl⟩
theorem YB:aY aV.gd 184 YA:=
 pz (cx:=aV) (n:=24) (cl:=[(208,akM),(209,Oo)]) aB ⟨Yy,Yw,trivial⟩ Tryz.func184 λd hd=>by
  obtain⟨l,⟨⟩⟩:=d;exact⟨ahL l,cast (by kernel_rfl) (ac6 l hd)⟩
def ciS(vs:List VD) (ms cs:List ByteArray) (fs:List FD) (e op obj n m:Int):Int:=if e≠0 then e else if 0<=sG vs ms cs fs op/\(obj < 0\/sG vs ms cs fs op<=obj) then 11 else if op=18/\(n < 0\/(ms.length:Int)<=n) then 11 else if(op=4\/op=5)/\(n < 0\/m < n) then 12 else 0
abbrev AB(i:ID):Int:=wU i.1 i.2.1 i.2.2.1 i.2.2.2.1 i.2.2.2.2.1 i.2.2.2.2.2.1 i.2.2.2.2.2.2.1 i.2.2.2.2.2.2.2.1
abbrev ciI(vs:List VD) (ms cs:List ByteArray) (fs:List FD) (i:ID) (m:Int):Int:=ciS vs ms cs fs (AB i) i.1 i.2.2.2.2.1 i.2.2.2.2.2.1 m
abbrev akN:CT:={ ps:=[vF,oV,.int .i64],pre:=λd=>True,res:=λd=>([],.one (.c (.v (.int .i64 (ciI d.1.1 d.1.2.1 d.1.2.2.1 d.1.2.2.2.1 d.2.1 d.2.2.1))))) }
theorem ac7(vs:List VD) (ms cs:List ByteArray) (fs:List FD) (ts:List SD) (op a b c obj n fn ord m:Int):
 let z3:=wU op a b c obj n fn ord;let z2:=ciS vs ms cs fs z3 op obj n m;let z1:=qI z2 (11:Int);True/\br (!decide (wU op a b c obj n fn ord=0)) (qI z2 z3) (True/\br (decide (0<=sG vs ms cs fs op) && (decide (obj < 0) || decide (sG vs ms cs fs op<=obj))) z1 (br (decide (op=18) && (decide (n < 0) || decide ((ms.length:Int)<=n))) z1 (br ((decide (op=4) || decide (op=5)) && (decide (n < 0) || decide (m < n))) (qI z2 (12:Int)) (qI z2 (0:Int))))):=by
 conv=>zeta
 delta qI;generalize wU op a b c obj n fn ord=e;unfold ciS;generalize sG vs ms cs fs op=o;refine⟨trivial,ah.2 ⟨λh=>⟨rfl,?_⟩,λh=>⟨trivial,ah.2 ⟨λh2=>⟨rfl,?_⟩,λh2=>ah.2 ⟨λh3=>⟨rfl,?_⟩,λh3=>ah.2 ⟨λh4=>⟨rfl,?_⟩,λh4=>⟨rfl,?_⟩⟩⟩⟩⟩⟩⟩
 all_goals simp only[UF,BJ,A8,Fb,Rt,rM,eH,iH]at *
 all_goals (congr 4;(repeat' split)<;>first | rfl | omega | (exfalso;omega))
theorem YC:aY aV.gd 190 akN:=
 pz (cx:=aV) (n:=66) (cl:=[(168,ahr),(211,afi)]) aB ⟨KC,Yq,trivial⟩ Tryz.func190 λd hd=>by
  obtain⟨⟨vs,ms,cs,fs,ts,⟨⟩⟩,⟨op,a,b,c,obj,n,fn,ord,⟨⟩⟩,m,⟨⟩⟩:=d;exact⟨λ_=>none,cast (by kernel_rfl) (ac7 vs ms cs fs ts op a b c obj n fn ord m)⟩
def YD(vs:List VD) (ms cs:List ByteArray) (fs:List FD):Int×Int×Int:=
 if(ku (kW vs)).1≠0 then((ku (kW vs)).1,-1,-1) else if(ku ms).1≠0 then((ku ms).1,-1,-1) else if(ku cs).1≠0 then((ku cs).1,-1,-1) else((ku (qF fs)).1,(ku (qF fs)).2,-1)
theorem ahN{d:List ByteArray} (hd:[kW vs,ms,cs][k]?=some d) (h:(ku d).1≠0) (hn:∀j < k,∀x,[kW vs,ms,cs][j]?=some x->(ku x).1=0):
 YD vs ms cs fs=((ku d).1,-1,-1):=by
 unfold YD
 match k,hd,hn with
 | 0,hd,hn=>simp at hd;subst hd;rw[if_pos h]
 | 1,hd,hn=>
   simp at hd;subst hd;have h0:=hn 0 (by omega) (kW vs) rfl
   rw[if_neg (by rw[h0];simp),if_pos h]
 | 2,hd,hn=>
   simp at hd;subst hd;have h0:=hn 0 (by omega) (kW vs) rfl
   have h1:=hn 1 (by omega) ms rfl
   rw[if_neg (by rw[h0];simp),if_neg (by rw[h1];simp),if_pos h]
 | k+3,hd,hn=>simp at hd
theorem akO(hn:∀(j:Nat) x,[kW vs,ms,cs][j]?=some x->(ku x).1=0):YD vs ms cs fs=((ku (qF fs)).1,(ku (qF fs)).2,-1):=by
 unfold YD;have h0:=hn 0 (kW vs) rfl;have h1:=hn 1 ms rfl;have h2:=hn 2 cs rfl;rw[if_neg (by rw[h0];simp),if_neg (by rw[h1];simp),if_neg (by rw[h2];simp)]
abbrev ahO:CT:={ ps:=[vF],pre:=λd=>d.1.1.length<=1000000/\d.1.2.1.length<=1000000/\d.1.2.2.1.length<=1000000/\d.1.2.2.2.1.length<=1000000,res:=λd=>([],.iO [.c (.v (.int .i64 ((YD d.1.1 d.1.2.1 d.1.2.2.1 d.1.2.2.2.1).1))),.agg [.v (.int .i64 ((YD d.1.1 d.1.2.1 d.1.2.2.1 d.1.2.2.2.1).2.1)),.v (.int .i64 ((YD d.1.1 d.1.2.1 d.1.2.2.1 d.1.2.2.2.1).2.2))]]) }
abbrev ahP(vs:List VD) (ms cs:List ByteArray) (fs:List FD) (ts:List SD):Nat->Option (St->kD):=λk=>match k with
 | 2=>some λ_=>.inv { α:=Nat,slots:=λk=>[(18,.c (.v (.int .i64 k)))],res:=λk=>[],inv:=λk=>k<=([kW vs,ms,cs]).length/\∀j < k,∀x,[kW vs,ms,cs][j]?=some x->(ku x).1=0,meas:=λk=>([kW vs,ms,cs]).length - k }
 | _=>none
abbrev zN:=[v6 (-1),v6 (-1)]
theorem ac8(vs:List VD) (ms cs:List ByteArray) (fs:List FD) (ts:List SD) (aF:ahO.pre ((vs,ms,cs,fs,ts,()),())):
 let z3:=[kW vs,ms,cs];let z1:=[g0 (ak.blk 27 [SC.sl Qk vs,SC.sl Sh.str ms,SC.sl Sh.str cs,SC.sl LU fs,SC.sl ji ts]),g0 (ak.blk 162 [v6 0,v6 0]),g0 ak.gone,g0 (ak.row 23 Sh.str.sl z3)];let z4:=YD vs ms cs fs;let z2:=[cI (z4.fst),SV.agg [v6 (z4.snd.fst),v6 (z4.snd.snd)]];vs.length<=1000000/\(∃x,(x<=z3.length/\∀(j:Nat),j < x->∀(x:List ByteArray),z3[j]?=some x->(ku x).fst=0)/\(cI 0=cI (x:Int)/\True)/\sm z1)/\∀(x:Nat),(x<=z3.length/\∀(j:Nat),j < x->∀(x:List ByteArray),z3[j]?=some x->(ku x).fst=0)->br (decide ((x:Int) < (z3.length:Int))) ((0<=(x:Int)/\(x:Int) < (z3.length:Int))/\(x:Int).toNat < z3.length/\∀(d:List ByteArray),z3[(x:Int).toNat]?=some d->d.length<=1000000/\br (!decide ((ku d).fst=0)) (rT z2 [cI ((ku d).fst),SV.agg zN]) (iR ((x:Int)+(1:Int))/\∃x',(x'<=z3.length/\∀(j:Nat),j < x'->∀(x:List ByteArray),z3[j]?=some x->(ku x).fst=0)/\(cI ((x:Int)+(1:Int))=cI (x':Int)/\True)/\sm z1/\z3.length - x' < z3.length - x)) (fs.length<=1000000/\(qF fs).length<=1000000/\rT z2 [cI ((ku (qF fs)).fst),SV.agg [v6 ((ku (qF fs)).snd),v6 (-1)]]):=by
 conv=>zeta
 delta zN v6 cI g0 rT sm I6 iR;obtain⟨hp1,hp2,hp3,hp4⟩:vs.length<=1000000/\ms.length<=1000000/\cs.length<=1000000/\fs.length<=1000000:=aF;refine⟨hp1,?_⟩;refine⟨⟨0,⟨by omega,λj hj=>by omega⟩,⟨rfl,trivial⟩,rfl⟩,λk hk=>ah.2 ⟨λh=>?_,λh=>?_⟩⟩
 .have h3:k < 3:=by simp at h;omega
  have h:k < [kW vs,ms,cs].length:=h3;have hN:(k:Int).toNat=k:=by omega
  rw[hN];refine⟨⟨by omega,by omega⟩,h,λd hd=>⟨?_,ah.2 ⟨λh2=>⟨rfl,?_⟩,λh2=>⟨aC.2 (by omega),k+1,⟨by omega,λj hj x hx=>?_⟩,⟨rfl,trivial⟩,rfl,by omega⟩⟩⟩⟩
  .have:d∈[kW vs,ms,cs]:=iJ hd;simp only[mF,List.not_mem_nil,or_false]at this;rcases this with rfl | rfl | rfl
   .simpa[kW]using hp1
   .exact hp2
   .exact hp3
  .rw[ahN hd (by simpa using h2) hk.2]
  .by_cases jh:j=k
   .subst jh;rw[hd]at hx;cases hx;simpa using h2
   .exact hk.2 j (by omega) x hx
 .have h:¬k < [kW vs,ms,cs].length:=by
   have:¬k < 3:=by simp at h;omega
   exact this
  refine⟨hp4,by simpa[qF]using hp4,rfl,?_⟩
  rw[akO λj x hx=>hk.2 j (by have:=(fH.1 hx).1;omega) x hx]
theorem YE:aY aV.gd 143 ahO:=
 pz (cx:=aV) (n:=41) (cl:=[(183,Oi),(184,YA),(185,Oj)]) aB ⟨Yr,YB,Yt,trivial⟩ Tryz.func143 λd hd=>by
  obtain⟨⟨vs,ms,cs,fs,ts,⟨⟩⟩,⟨⟩⟩:=d;exact⟨ahP vs ms cs fs ts,cast (by kernel_rfl) (ac8 vs ms cs fs ts hd)⟩
def Jc(vs:List VD) (ms cs:List ByteArray) (fs:List FD):Int:=if 8 < vs.length\/4 < ms.length\/4 < cs.length\/8 < fs.length then 4 else if vs.all λv=>dK v.2.1 then 0 else 2
abbrev akP:CT:={ ps:=[vF],pre:=λd=>True,res:=λd=>([],.iO [.c (.v (.int .i64 (Jc d.1.1 d.1.2.1 d.1.2.2.1 d.1.2.2.2.1))),.agg [.v (.int .i64 (-1)),.v (.int .i64 (-1))]]) }
abbrev ahQ(vs:List VD) (ms cs:List ByteArray) (fs:List FD) (ts:List SD):Nat->Option (St->kD):=λk=>match k with
 | 5=>some λ_=>.inv { α:=Nat,slots:=λk=>[(34,.c (.v (.int .i64 k)))],res:=λk=>[],inv:=λk=>k<=(vs).length/\∀j < k,∀v,vs[j]?=some v->dK v.2.1=true,meas:=λk=>(vs).length - k }
 | _=>none
abbrev YF:=[cI 0,SV.agg [v6 (-1),v6 (-1)]]
theorem ac9(vs:List VD) (ms cs:List ByteArray) (fs:List FD) (ts:List SD):
 let z3:=[cI (Jc vs ms cs fs),SV.agg zN];let z2:=λ(x:Nat)=>(x<=vs.length/\∀(j:Nat),j < x->∀(v:ByteArray×Int×Unit),vs[j]?=some v->dK v.snd.fst=true);let z1:=[g0 (ak.blk 27 [SC.sl Qk vs,SC.sl Sh.str ms,SC.sl Sh.str cs,SC.sl LU fs,SC.sl ji ts]),g0 (ak.blk 162 [v6 0,v6 0]),g0 (ak.blk 162 zN)];br (decide (8 < (vs.length:Int)) || decide (4 < (ms.length:Int)) || decide (4 < (cs.length:Int)) || decide (8 < (fs.length:Int))) (rT z3 [cI 4,SV.agg zN]) ((∃x,(z2 x)/\(cI 0=cI (x:Int)/\True)/\sm z1)/\∀(x:Nat),(z2 x)->br (decide ((x:Int) < (vs.length:Int))) ((0<=(x:Int)/\(x:Int) < (vs.length:Int))/\∀(d:ByteArray×(I6.pair Sh.unit).den),vs[(x:Int).toNat]?=some d->True/\br (!dK (d.snd.fst,()).fst) (rT z3 [cI 2,SV.agg zN]) (iR ((x:Int)+(1:Int))/\∃x',(z2 x')/\(cI ((x:Int)+(1:Int))=cI (x':Int)/\True)/\sm z1/\vs.length - x' < vs.length - x)) (rT z3 YF)):=by
 conv=>zeta
 delta zN YF v6 cI g0 rT sm I6 iR
 by_cases hc:8 < vs.length\/4 < ms.length\/4 < cs.length\/8 < fs.length
 .have e:Jc vs ms cs fs=4:=by unfold Jc;rw[if_pos hc]
  rw[e];refine ah.2 ⟨λ_=>⟨rfl,rfl⟩,λh=>?_⟩
  simp only[rM,iH]at h;omega
 refine ah.2 ⟨λh=>?_,λh=>⟨⟨0,⟨by omega,λj hj=>by omega⟩,⟨rfl,trivial⟩,rfl⟩,λk hk=>ah.2 ⟨λh2=>?_,λh2=>?_⟩⟩⟩
 .simp only[Fb,eH]at h;omega
 .simp only[eH]at h2;have hN:(k:Int).toNat=k:=by omega
  rw[hN];refine⟨by omega,λd hd=>⟨trivial,ah.2 ⟨λh3=>⟨rfl,?_⟩,λh3=>⟨aC.2 (by omega),k+1,⟨by omega,λj hj v hv=>?_⟩,⟨rfl,trivial⟩,rfl,by omega⟩⟩⟩⟩
  .have h3:dK d.2.1=false:=by simpa using h3
   have e:Jc vs ms cs fs=2:=by
    unfold Jc;rw[if_neg hc,if_neg];intro hh;rw[UH]at hh;have:=hh d (iJ hd);rw[h3]at this;cases this
   rw[e]
  .have h3:dK d.2.1=true:=by simpa using h3
   by_cases jh:j=k
   .subst jh;rw[hd]at hv;cases hv;exact h3
   .exact hk.2 j (by omega) v hv
 .simp only[iH]at h2;have e:Jc vs ms cs fs=0:=by
   unfold Jc;rw[if_neg hc,if_pos];rw[UH];intro v hv;obtain⟨j,hj⟩:=LK hv;exact hk.2 j (by have:=(fH.1 hj).1;omega) v hj
  rw[e];exact⟨rfl,rfl⟩
theorem YG:aY aV.gd 144 akP:=
 pz (cx:=aV) (n:=45) (cl:=[(186,Yp)]) aB ⟨KL,trivial⟩ Tryz.func144 λd hd=>by
  obtain⟨⟨vs,ms,cs,fs,ts,⟨⟩⟩,⟨⟩⟩:=d;exact⟨ahQ vs ms cs fs ts,cast (by kernel_rfl) (ac9 vs ms cs fs ts)⟩
def KN(n:Nat) (t:SD):Int:=if t.1 < 0\/(n:Int)<=t.1 then 11 else if dK t.2.1 then 0 else 2
def Ot(fs:List FD) (ts:List SD):Int:=if ts.length < 1\/8 < ts.length then 4 else match ts.find? (λt=>decide (KN fs.length t≠0)) with | some t=>KN fs.length t | none=>0
theorem DX{α:Type}{l:List α}{p:α->Bool}{d:α} (hd:l[k]?=some d) (hp:p d=true) (hn:∀j < k,∀t,l[j]?=some t->p t=false):l.find? p=some d:=by
 induction l generalizing k with
 | nil=>simp at hd
 | cons x l ih=>
   cases k with
   | zero=>simp at hd;subst hd;simp[hp]
   | succ k=>
     have h0:=hn 0 (by omega) x (by simp)
     rw[List.find?_cons,h0];exact ih (by simpa using hd) λj hj t ht=>hn (j+1) (by omega) t (by simpa using ht)
theorem Ql{α:Type}{l:List α}{p:α->Bool} (hn:∀(j:Nat) t,l[j]?=some t->p t=false):l.find? p=none:=by
 rw[A94];intro x hx;obtain⟨j,hj⟩:=LK hx;rw[hn j x hj];simp
theorem KO{d:SD} (hc:¬(ts.length < 1\/8 < ts.length)) (hd:ts[k]?=some d) (h:KN fs.length d≠0) (hn:∀j < k,∀t,ts[j]?=some t->KN fs.length t=0):Ot fs ts=KN fs.length d:=by
 unfold Ot;rw[if_neg hc,DX hd (by simpa using h) λj hj t ht=>by simpa using hn j hj t ht]
theorem ada(hc:¬(ts.length < 1\/8 < ts.length)) (hn:∀(j:Nat) t,ts[j]?=some t->KN fs.length t=0):Ot fs ts=0:=by
 unfold Ot;rw[if_neg hc,Ql λj t ht=>by simpa using hn j t ht]
abbrev akQ:CT:={ ps:=[vF],pre:=λd=>True,res:=λd=>([],.iO [.c (.v (.int .i64 (Ot d.1.2.2.2.1 d.1.2.2.2.2.1))),.agg [.v (.int .i64 (-1)),.v (.int .i64 (-1))]]) }
abbrev ahR(vs:List VD) (ms cs:List ByteArray) (fs:List FD) (ts:List SD):Nat->Option (St->kD):=λk=>match k with
 | 5=>some λ_=>.inv { α:=Nat,slots:=λk=>[(22,.c (.v (.int .i64 k)))],res:=λk=>[],inv:=λk=>k<=(ts).length/\∀j < k,∀t,ts[j]?=some t->KN fs.length t=0,meas:=λk=>(ts).length - k }
 | _=>none
theorem adb(vs:List VD) (ms cs:List ByteArray) (fs:List FD) (ts:List SD):
 let z3:=[cI (Ot fs ts),SV.agg zN];let z2:=λ(x:Nat)=>(x<=ts.length/\∀(j:Nat),j < x->∀(t:Int×Int×Unit),ts[j]?=some t->KN fs.length t=0);let z1:=[g0 (ak.blk 27 [SC.sl Qk vs,SC.sl Sh.str ms,SC.sl Sh.str cs,SC.sl LU fs,SC.sl ji ts]),g0 (ak.blk 162 [v6 0,v6 0]),g0 (ak.blk 162 zN)];br (decide ((ts.length:Int) < (1:Int)) || decide (8 < (ts.length:Int))) (rT z3 [cI 4,SV.agg zN]) ((∃x,(z2 x)/\(cI 0=cI (x:Int)/\True)/\sm z1)/\∀(x:Nat),(z2 x)->br (decide ((x:Int) < (ts.length:Int))) ((0<=(x:Int)/\(x:Int) < (ts.length:Int))/\∀(d:Int×(I6.pair Sh.unit).den),ts[(x:Int).toNat]?=some d->br (decide (d.fst < 0) || decide ((fs.length:Int)<=d.fst)) (rT z3 [cI 11,SV.agg zN]) (True/\br (!dK (d.snd.fst,()).fst) (rT z3 [cI 2,SV.agg zN]) (iR ((x:Int)+(1:Int))/\∃x',(z2 x')/\(cI ((x:Int)+(1:Int))=cI (x':Int)/\True)/\sm z1/\ts.length - x' < ts.length - x))) (rT z3 YF)):=by
 conv=>zeta
 delta zN YF v6 cI g0 rT sm I6 iR
 by_cases hc:ts.length < 1\/8 < ts.length
 .have e:Ot fs ts=4:=by unfold Ot;rw[if_pos hc]
  rw[e];refine ah.2 ⟨λ_=>⟨rfl,rfl⟩,λh=>?_⟩
  simp only[rM,iH]at h;omega
 refine ah.2 ⟨λh=>?_,λh=>⟨⟨0,⟨by omega,λj hj=>by omega⟩,⟨rfl,trivial⟩,rfl⟩,λk hk=>ah.2 ⟨λh2=>?_,λh2=>?_⟩⟩⟩
 .simp only[Fb,eH]at h;omega
 .simp only[eH]at h2;have hN:(k:Int).toNat=k:=by omega
  rw[hN];refine⟨by omega,λd hd=>ah.2 ⟨λh3=>⟨rfl,?_⟩,λh3=>⟨trivial,ah.2 ⟨λh4=>⟨rfl,?_⟩,λh4=>⟨aC.2 (by omega),k+1,⟨by omega,λj hj v hv=>?_⟩,⟨rfl,trivial⟩,rfl,by omega⟩⟩⟩⟩⟩
  .have h3:d.1 < 0\/(fs.length:Int)<=d.1:=by simpa using h3
   have e:KN fs.length d=11:=by unfold KN;rw[if_pos h3]
   rw[KO hc hd (by rw[e];simp) hk.2,e]
  .have h3:¬(d.1 < 0\/(fs.length:Int)<=d.1):=by simpa using h3
   have h4:dK d.2.1=false:=by simpa using h4
   have e:KN fs.length d=2:=by unfold KN;rw[if_neg h3,if_neg (by rw[h4];simp)]
   rw[KO hc hd (by rw[e];simp) hk.2,e]
  .have h3:¬(d.1 < 0\/(fs.length:Int)<=d.1):=by simpa using h3
   have h4:dK d.2.1=true:=by simpa using h4
   by_cases jh:j=k
   .subst jh;rw[hd]at hv;cases hv;unfold KN;rw[if_neg h3,if_pos h4]
   .exact hk.2 j (by omega) v hv
 .simp only[iH]at h2;rw[ada hc λj t hj=>hk.2 j (by have:=(fH.1 hj).1;omega) t hj];exact⟨rfl,rfl⟩
theorem YH:aY aV.gd 146 akQ:=
 pz (cx:=aV) (n:=45) (cl:=[(186,Yp)]) aB ⟨KL,trivial⟩ Tryz.func146 λd hd=>by
  obtain⟨⟨vs,ms,cs,fs,ts,⟨⟩⟩,⟨⟩⟩:=d;exact⟨ahR vs ms cs fs ts,cast (by kernel_rfl) (adb vs ms cs fs ts)⟩
abbrev YJ:CT:={ ps:=[LU],pre:=λd=>True,res:=λd=>([],vB (decide (64 < d.1.2.1.length))) }
theorem ade(nm:ByteArray) (l:List ID):
 qB (decide (64 < l.length)) (decide (64 < (l.length:Int))):=by
 delta qB;refine⟨rfl,?_⟩
 congr 4
 rw[OX];simp only[eH];omega
theorem YK:aY aV.gd 188 YJ:=
 pz (cx:=aV) (n:=7) (cl:=[]) aB trivial Tryz.func188 λd hd=>by
  obtain⟨⟨nm,l,⟨⟩⟩,⟨⟩⟩:=d;exact⟨λ_=>none,cast (by kernel_rfl) (ade nm l)⟩
def eF(fs:List FD):Int:=match fs.findIdx? (λf=>decide (64 < f.2.1.length)) with | some k=>(k:Int) | none=>-1
theorem Ou{d:FD} (hd:fs[k]?=some d) (h2:64 < d.2.1.length) (hn:∀j < k,∀f,fs[j]?=some f->f.2.1.length<=64):eF fs=k:=by
 have iV:k < fs.length:=(fH.1 hd).1;have:fs.findIdx? (λf=>decide (64 < f.2.1.length))=some k:=by
  rw[A84];refine⟨iV,by rw[(fH.1 hd).2];simpa using h2,λj hj=>?_⟩
  have:=hn j hj fs[j] (lY (by omega))
  simpa using this
 simp[eF,this]
theorem Uc(hn:∀(j:Nat) f,fs[j]?=some f->f.2.1.length<=64):eF fs = -1:=by
 have:fs.findIdx? (λf=>decide (64 < f.2.1.length))=none:=by
  rw[A92];intro y hy;obtain⟨j,hj⟩:=LK hy;simpa using hn j y hj
 simp[eF,this]
abbrev Iz:CT:={ ps:=[.sl LU],pre:=λd=>d.1.length<=1000000,res:=λd=>([],.one (.c (.v (.int .i64 (eF d.1))))) }
abbrev ahS(fs:List FD):Nat->Option (St->kD):=λk=>match k with
 | 2=>some λ_=>.inv { α:=Nat,slots:=λk=>[(8,.c (.v (.int .i64 k)))],res:=λk=>[],inv:=λk=>k<=(fs).length/\∀j < k,∀f,fs[j]?=some f->f.2.1.length<=64,meas:=λk=>(fs).length - k }
 | _=>none
theorem adf(fs:List FD) (aF:Iz.pre (fs,())):
 let z1:=λ(x:Nat)=>(x<=fs.length/\∀(j:Nat),j < x->∀(f:ByteArray×List ID×Unit),fs[j]?=some f->f.snd.fst.length<=64);(∃x,(z1 x)/\(cI 0=cI (x:Int)/\True)/\([]:List fV)=[])/\∀(x:Nat),(z1 x)->br (decide ((x:Int) < (fs.length:Int))) ((0<=(x:Int)/\(x:Int) < (fs.length:Int))/\∀(d:ByteArray×(oV.sl.pair Sh.unit).den),fs[(x:Int).toNat]?=some d->True/\br (decide (64 < List.length (d.snd.fst,()).fst)) (qI (eF fs) (x:Int)) (iR ((x:Int)+(1:Int))/\∃x',(z1 x')/\(cI ((x:Int)+(1:Int))=cI (x':Int)/\True)/\([]:List fV)=[]/\fs.length - x' < fs.length - x)) (qI (eF fs) (-1:Int)):=by
 conv=>zeta
 delta fV cI qI I6 iR;have hp:fs.length<=1000000:=aF;refine⟨⟨0,⟨by omega,λj hj=>by omega⟩,⟨rfl,trivial⟩,rfl⟩,λk hk=>ah.2 ⟨λh=>?_,λh=>?_⟩⟩
 .simp only[eH]at h;have hN:(k:Int).toNat=k:=by omega
  rw[hN];refine⟨by omega,λd hd=>⟨trivial,ah.2 ⟨λh2=>⟨rfl,?_⟩,λh2=>⟨aC.2 (by omega),k+1,⟨by omega,λj hj f hf=>?_⟩,⟨rfl,trivial⟩,rfl,by omega⟩⟩⟩⟩
  .have h2:64 < d.2.1.length:=by simpa using h2
   rw[Ou hd h2 hk.2]
  .have h2:¬64 < d.2.1.length:=by simpa using h2
   by_cases jh:j=k
   .subst jh;rw[hd]at hf;cases hf;omega
   .exact hk.2 j (by omega) f hf
 .simp only[iH]at h;rw[Uc λj f hf=>hk.2 j (by have:=(fH.1 hf).1;omega) f hf];exact⟨rfl,rfl⟩
theorem Ud:Ik Tryz.prog aV.gd 187 [.func (.func 188) #[] #[]] Iz:=
 (ng (cx:=aV) (n:=19) (cl:=[(188,YJ)]) (il:=Yh) (hl:=hlN) (ml:=mlN) (rc:=[]) (lits:=[]) (suf:=[.func (.func 188) #[] #[]]) (by kernel_rfl) aB ⟨YK,trivial⟩ trivial trivial trivial Tryz.func187 (by kernel_rfl) (by kernel_rfl) rfl (by kernel_rfl) (by kernel_rfl) (by simp) λd hd=>by
  obtain⟨fs,⟨⟩⟩:=d;exact⟨ahS fs,cast (by kernel_rfl) (adf fs hd)⟩)
def LV(vs:List VD) (ms cs:List ByteArray) (fs:List FD) (d:bK [ji,oV]):Int:=ciI vs ms cs fs d.2.1 (((fs.getD d.1.1.toNat (⟨#[]⟩,[],())).2.1.length:Nat):Int)
def LW(vs:List VD) (ms cs:List ByteArray) (fs:List FD):Int×Int×Int:=match(dL fs).find? (λd=>decide (d.1.1=eF fs) || decide (LV vs ms cs fs d≠0)) with
 | some d=>if d.1.1=eF fs then(4,eF fs,-1) else(LV vs ms cs fs d,d.1.1,d.1.2.1)
 | none=>if 0<=eF fs then(4,eF fs,-1) else(0,-1,-1)
theorem Qm{d:bK [ji,oV]}{e:FD} (he:fs[d.1.1.toNat]?=some e):LV vs ms cs fs d=ciI vs ms cs fs d.2.1 (e.2.1.length:Int):=by
 unfold LV;rw[A63,he];rfl
theorem Gi:∀(l:List FD) (n:Nat){d:bK [ji,oV]},d∈lg n l->∃(k:Nat) (x:FD) (j:Nat) (e:ID),l[k]?=some x/\x.2.1[j]?=some e/\d=((((n+k:Nat):Int),(j:Int),()),e,())
 | [],n,d,h=>by simp[lg]at h
 | x :: l,n,d,h=>by
   simp only[lg,Et]at h;rcases h with h | h
   .unfold vV at h;obtain⟨p,hp,rfl⟩:=List.mem_map.1 h;have:=List.mk_mem_zipIdx_iff_getElem?.1 (show(p.1,p.2)∈x.2.1.zipIdx from hp)
    exact⟨0,x,p.2,p.1,rfl,this,rfl⟩
   .obtain⟨k,y,j,e,h1,h2,rfl⟩:=Gi l (n+1) h;exact⟨k+1,y,j,e,by simpa using h1,h2,by rw[show n+1+k=n+(k+1) by omega]⟩
theorem KP{i:Nat}{d:bK [ji,oV]} (hd:(dL fs)[i]?=some d):0<=d.1.1/\d.1.1 < fs.length:=by
 obtain⟨k,x,j,e,h1,h2,rfl⟩:=Gi fs 0 (iJ hd);have:=(fH.1 h1).1;show 0<=((0+k:Nat):Int)/\((0+k:Nat):Int) < _;omega
theorem Qn{i:Nat}{d:bK [ji,oV]} (hd:(dL fs)[i]?=some d) (hb:d.1.1=eF fs\/LV vs ms cs fs d≠0)
 (hn:∀j < i,∀d,(dL fs)[j]?=some d->d.1.1≠eF fs/\LV vs ms cs fs d=0):LW vs ms cs fs=if d.1.1=eF fs then(4,eF fs,-1) else(LV vs ms cs fs d,d.1.1,d.1.2.1):=by
 unfold LW;rw[DX hd (by simpa using hb) λj hj t ht=>by obtain⟨a,b⟩:=hn j hj t ht;simp[a,b]]
theorem YL(hn:∀(j:Nat) d,(dL fs)[j]?=some d->d.1.1≠eF fs/\LV vs ms cs fs d=0):LW vs ms cs fs=if 0<=eF fs then(4,eF fs,-1) else(0,-1,-1):=by
 unfold LW;rw[Ql λj t ht=>by obtain⟨a,b⟩:=hn j t ht;simp[a,b]]
abbrev ahT:CT:={ ps:=[vF],pre:=λd=>d.1.2.2.2.1.length<=1000000/\∀x∈d.1.2.2.2.1,x.2.1.length<=1000000,res:=λd=>([],.iO [.c (.v (.int .i64 ((LW d.1.1 d.1.2.1 d.1.2.2.1 d.1.2.2.2.1).1))),.agg [.v (.int .i64 ((LW d.1.1 d.1.2.1 d.1.2.2.1 d.1.2.2.2.1).2.1)),.v (.int .i64 ((LW d.1.1 d.1.2.1 d.1.2.2.1 d.1.2.2.2.1).2.2))]]) }
abbrev ahU(vs:List VD) (ms cs:List ByteArray) (fs:List FD) (ts:List SD):Nat->Option (St->kD):=λk=>match k with
 | 5=>some λ_=>.rng { α:=Nat,res:=λ_=>[],inv:=λi n=>n=i/\∀j < n,∀d,(dL fs)[j]?=some d->d.1.1≠eF fs/\LV vs ms cs fs d=0 }
 | _=>none
abbrev akR:List (Nat×Nat×CT):=[(187,188,Iz)]
theorem adg(vs:List VD) (ms cs:List ByteArray) (fs:List FD) (ts:List SD) (aF:ahT.pre ((vs,ms,cs,fs,ts,()),())):
 let z5:=[g0 (ak.blk 27 [SC.sl Qk vs,SC.sl Sh.str ms,SC.sl Sh.str cs,SC.sl LU fs,SC.sl ji ts]),g0 (ak.blk 38 [v6 0]),g0 (ak.blk 162 [v6 0,v6 0]),g0 (ak.blk 3 [v6 (eF fs)])];let z11:=LW vs ms cs fs;let z9:=[cI (z11.fst),SV.agg [v6 (z11.snd.fst),v6 (z11.snd.snd)]];let z10:=[cI 4,SV.agg [v6 (eF fs),v6 (-1)]];let z3:=((rT z9 z10)/\rT z9 z10)/\rT z9 z10;let z8:=rT z9 YF;let z4:=λ(d:ji.den×bK [I6.pair (I6.pair (I6.pair (I6.pair (I6.pair (I6.pair ji)))))])=>(d.snd.fst.fst,d.snd.fst.snd.fst,d.snd.fst.snd.snd.fst,d.snd.fst.snd.snd.snd.fst,d.snd.fst.snd.snd.snd.snd.fst,d.snd.fst.snd.snd.snd.snd.snd.fst,d.snd.fst.snd.snd.snd.snd.snd.snd.fst,d.snd.fst.snd.snd.snd.snd.snd.snd.snd.fst,());let z6:=λ(d:ji.den×bK [I6.pair (I6.pair (I6.pair (I6.pair (I6.pair (I6.pair ji)))))])=>(d.snd.fst.snd.snd.snd.snd.fst,d.snd.fst.snd.snd.snd.snd.snd.fst,d.snd.fst.snd.snd.snd.snd.snd.snd.fst,d.snd.fst.snd.snd.snd.snd.snd.snd.snd.fst,());let z7:=λ(d:ji.den×bK [I6.pair (I6.pair (I6.pair (I6.pair (I6.pair (I6.pair ji)))))])=>(d.snd.fst.snd.snd.snd.snd.snd.fst,d.snd.fst.snd.snd.snd.snd.snd.snd.fst,d.snd.fst.snd.snd.snd.snd.snd.snd.snd.fst,());let z2:=λ(d:ji.den×bK [I6.pair (I6.pair (I6.pair (I6.pair (I6.pair (I6.pair ji)))))])=>wU (z4 d).fst (d.snd.fst.snd.fst,d.snd.fst.snd.snd.fst,d.snd.fst.snd.snd.snd.fst,d.snd.fst.snd.snd.snd.snd.fst,d.snd.fst.snd.snd.snd.snd.snd.fst,d.snd.fst.snd.snd.snd.snd.snd.snd.fst,d.snd.fst.snd.snd.snd.snd.snd.snd.snd.fst,()).fst (d.snd.fst.snd.snd.fst,d.snd.fst.snd.snd.snd.fst,d.snd.fst.snd.snd.snd.snd.fst,d.snd.fst.snd.snd.snd.snd.snd.fst,d.snd.fst.snd.snd.snd.snd.snd.snd.fst,d.snd.fst.snd.snd.snd.snd.snd.snd.snd.fst,()).fst (d.snd.fst.snd.snd.snd.fst,d.snd.fst.snd.snd.snd.snd.fst,d.snd.fst.snd.snd.snd.snd.snd.fst,d.snd.fst.snd.snd.snd.snd.snd.snd.fst,d.snd.fst.snd.snd.snd.snd.snd.snd.snd.fst,()).fst (z6 d).fst (z7 d).fst (d.snd.fst.snd.snd.snd.snd.snd.snd.fst,d.snd.fst.snd.snd.snd.snd.snd.snd.snd.fst,()).fst (d.snd.fst.snd.snd.snd.snd.snd.snd.snd.fst,()).fst;let z1:=λ(d:ji.den×bK [I6.pair (I6.pair (I6.pair (I6.pair (I6.pair (I6.pair ji)))))]) (dR:ByteArray×(oV.sl.pair Sh.unit).den)=>[cI (ciS vs ms cs fs (z2 d) (z4 d).fst (z6 d).fst (z7 d).fst ((List.length dR.snd.fst):Int)),SV.agg [v6 d.fst.fst,v6 d.fst.snd.fst]];fs.length<=1000000/\(fs.length<=1000000/\∀(x:ByteArray×(oV.sl.pair Sh.unit).den),x∈fs->List.length x.snd.fst<=1000000)/\some Tryz.prog=some Tryz.prog/\(∃x,(x=0/\∀(j:Nat),j < x->∀(d:ji.den×bK [I6.pair (I6.pair (I6.pair (I6.pair (I6.pair (I6.pair ji)))))]),(dL fs)[j]?=some d->d.fst.fst≠eF fs/\LV vs ms cs fs d=0)/\sm z5)/\(∀(i x:Nat) (d:ji.den×bK [I6.pair (I6.pair (I6.pair (I6.pair (I6.pair (I6.pair ji)))))]),(x=i/\∀(j:Nat),j < x->∀(d:ji.den×bK [I6.pair (I6.pair (I6.pair (I6.pair (I6.pair (I6.pair ji)))))]),(dL fs)[j]?=some d->d.fst.fst≠eF fs/\LV vs ms cs fs d=0)->(dL fs)[i]?=some d->br (decide (d.fst.fst=eF fs)) (br (decide (0<=eF fs)) z3 z8) ((0<=d.fst.fst/\d.fst.fst < (fs.length:Int))/\∀(dR:ByteArray×(oV.sl.pair Sh.unit).den),fs[Int.toNat d.fst.fst]?=some dR->True/\br (!decide (ciS vs ms cs fs (z2 d) (z4 d).fst (z6 d).fst (z7 d).fst ((List.length dR.snd.fst):Int)=(0:Int))) ((rT z9 (z1 d dR))/\rT z9 (z1 d dR)) (∃x',(x'=i+1/\∀(j:Nat),j < x'->∀(d:ji.den×bK [I6.pair (I6.pair (I6.pair (I6.pair (I6.pair (I6.pair ji)))))]),(dL fs)[j]?=some d->d.fst.fst≠eF fs/\LV vs ms cs fs d=0)/\sm z5)))/\∀(x:Nat),(x=aN (dL fs)/\∀(j:Nat),j < x->∀(d:ji.den×bK [I6.pair (I6.pair (I6.pair (I6.pair (I6.pair (I6.pair ji)))))]),(dL fs)[j]?=some d->d.fst.fst≠eF fs/\LV vs ms cs fs d=0)->br (decide (0<=eF fs)) z3 z8:=by
 conv=>zeta
 delta v6 cI g0 rT sm I6;refine⟨aF.1,aF,rfl,⟨0,⟨rfl,λj hj=>by omega⟩,rfl⟩,λi x d hi hd=>?_,λx hx=>?_⟩
 .obtain⟨rfl,hi⟩:=hi;refine ah.2 ⟨λh=>?_,λh=>?_⟩
  .have h:d.1.1=eF fs:=by simpa using h
   obtain⟨hb1,hb2⟩:=KP hd;have hl:(0:Int)<=eF fs:=by rw[<-h];exact hb1
   rw[Qn hd (.inl h) hi,if_pos h];exact ah.2 ⟨λ_=>⟨⟨⟨rfl,rfl⟩,rfl,rfl⟩,rfl,rfl⟩,λhh=>absurd hl (aaO hh)⟩
  .have h:¬d.1.1=eF fs:=by simpa using h
   obtain⟨hb1,hb2⟩:=KP hd;refine⟨⟨hb1,hb2⟩,λe he=>⟨trivial,ah.2 ⟨λh2=>?_,λh2=>⟨x+1,⟨rfl,λj hj d' hd'=>?_⟩,rfl⟩⟩⟩⟩
   .have h2:LV vs ms cs fs d≠0:=by rw[Qm he];simpa using h2
    rw[Qn hd (.inr h2) hi,if_neg h,Qm he];exact⟨⟨rfl,rfl⟩,rfl,rfl⟩
   .by_cases hji:j=x
    .subst hji;rw[hd]at hd';cases hd';exact⟨h,by rw[Qm he];simpa using h2⟩
    .exact hi j (by omega) d' hd'
 .obtain⟨rfl,hx⟩:=hx;refine ah.2 ⟨λh=>?_,λh=>?_⟩
  .have h:(0:Int)<=eF fs:=by simpa using h
   rw[YL λj d hd=>hx j (by rw[aZ];exact(fH.1 hd).1) d hd,if_pos h]
   exact⟨⟨⟨rfl,rfl⟩,rfl,rfl⟩,rfl,rfl⟩
  .have h:¬(0:Int)<=eF fs:=by simpa using h
   rw[YL λj d hd=>hx j (by rw[aZ];exact(fH.1 hd).1) d hd,if_neg h]
   exact⟨rfl,rfl⟩
theorem YM:aY aV.gd 145 ahT:=
 (ng (cx:=aV) (n:=39) (cl:=[(189,Iy),(190,akN)]) (il:=Yh) (hl:=akR) (ml:=mlN) (rc:=[]) (lits:=[]) (suf:=[]) (by kernel_rfl) aB ⟨Yn,YC,trivial⟩ trivial ⟨Ud,trivial⟩ trivial Tryz.func145 (by kernel_rfl) (by kernel_rfl) rfl (by kernel_rfl) (by kernel_rfl) (by simp) λd hd=>by
  obtain⟨⟨vs,ms,cs,fs,ts,⟨⟩⟩,⟨⟩⟩:=d;exact⟨ahU vs ms cs fs ts,cast (by kernel_rfl) (adg vs ms cs fs ts hd)⟩).met
abbrev bnd(d:bK [vF]):Prop:=d.1.1.length<=1000000/\d.1.2.1.length<=1000000/\d.1.2.2.1.length<=1000000/\d.1.2.2.2.1.length<=1000000/\d.1.2.2.2.2.1.length<=1000000/\(∀x∈d.1.2.2.2.1,x.2.1.length<=1000000)/\(dL d.1.2.2.2.1).length<=1000000
def aG(vs:List VD) (ms cs:List ByteArray) (fs:List FD) (ts:List SD):Int×Int×Int:=
 if(YD vs ms cs fs).1≠0 then YD vs ms cs fs else if Jc vs ms cs fs≠0 then(Jc vs ms cs fs,-1,-1) else if(LW vs ms cs fs).1≠0 then LW vs ms cs fs else if Ot fs ts≠0 then(Ot fs ts,-1,-1) else(0,-1,-1)
abbrev Gj:CT:={ ps:=[vF],pre:=λd=>bnd d,res:=λd=>([],.iO [.c (.v (.int .i64 (aG d.1.1 d.1.2.1 d.1.2.2.1 d.1.2.2.2.1 d.1.2.2.2.2.1).1)),.c (.v (.int .i64 (aG d.1.1 d.1.2.1 d.1.2.2.1 d.1.2.2.2.1 d.1.2.2.2.2.1).2.1)),.c (.v (.int .i64 (aG d.1.1 d.1.2.1 d.1.2.2.1 d.1.2.2.2.1 d.1.2.2.2.2.1).2.2))]) }
theorem ahV(vs:List VD) (ms cs:List ByteArray) (fs:List FD) (ts:List SD) (aF:Gj.pre ((vs,ms,cs,fs,ts,()),())):
 let z10:=YD vs ms cs fs;let z7:=z10.fst=0;let z5:=decide z7;let z6:=decide (Jc vs ms cs fs=0);let z11:=LW vs ms cs fs;let z8:=z11.fst=0;let z9:=aG vs ms cs fs ts;let z4:=[cI (z9.fst),cI (z9.snd.fst),cI (z9.snd.snd)];let z3:=rT z4 [cI 0,cI (-1),cI (-1)];let z2:=True/\br (!decide (Ot fs ts=0)) (rT z4 [cI (Ot fs ts),cI (-1),cI (-1)]) z3;let z1:=(fs.length<=1000000/\∀(x:ByteArray×(oV.sl.pair Sh.unit).den),x∈fs->List.length x.snd.fst<=1000000)/\br (decide z8) z2 (br (!decide z8) (rT z4 [cI (z11.fst),cI (z11.snd.fst),cI (z11.snd.snd)]) z3);(vs.length<=1000000/\ms.length<=1000000/\cs.length<=1000000/\fs.length<=1000000)/\br z5 (True/\br z6 z1 (br z6 z2 (br (!decide (Jc vs ms cs fs=0)) (rT z4 [cI (Jc vs ms cs fs),cI (-1),cI (-1)]) z3))) (br z5 z1 (br z5 z2 (br (!decide z7) (rT z4 [cI (z10.fst),cI (z10.snd.fst),cI (z10.snd.snd)]) z3))):=by
 conv=>zeta
 delta cI rT I6;obtain⟨h1,h2,h3,h4,h5,h6,h7⟩:bnd ((vs,ms,cs,fs,ts,()),()):=aF;have hA:∀x∈fs,x.2.1.length<=1000000:=h6;have hB:fs.length<=1000000/\∀x∈fs,x.2.1.length<=1000000:=⟨h4,h6⟩;have hC:vs.length<=1000000/\ms.length<=1000000/\cs.length<=1000000/\fs.length<=1000000:=⟨h1,h2,h3,h4⟩;clear h1 h2 h3 h4 h5 h6 h7 hA;unfold aG;simp only[ah]
 repeat' (first | exact hB | exact hC | (refine And.intro ?_ ?_) | (intro _))
 all_goals first | trivial | rfl | (clear hB hC;simp_all;done)
theorem Bv:aY aV.gd 74 Gj:=
 pz (cx:=aV) (n:=40) (cl:=[(143,ahO),(144,akP),(145,ahT),(146,akQ)]) aB ⟨YE,YG,YM,YH,trivial⟩ Tryz.func74 λd hd=>by
  obtain⟨⟨vs,ms,cs,fs,ts,⟨⟩⟩,⟨⟩⟩:=d;exact⟨λ_=>none,cast (by kernel_rfl) (ahV vs ms cs fs ts hd)⟩
abbrev YN:CT:={ ps:=[vF],pre:=λd=>bnd d,res:=λd=>([],vB (decide ((aG d.1.1 d.1.2.1 d.1.2.2.1 d.1.2.2.2.1 d.1.2.2.2.2.1).1=0))) }
theorem YO{hi:Int}:∀(l:List Int) (lo:Int),SS l->(∀x∈l,lo<=x/\x < hi)->lo<=hi->(l.length:Int)<=hi - lo
 | [],lo,_,_,h=>by simp;omega
 | x :: l,lo,hs,hb,h=>by
   obtain⟨h1,h2⟩:=A85.1 hs;obtain⟨b1,b2⟩:=hb x (by simp)
   have:=YO l (x+1) h2 (λy hy=>⟨by have:=h1 y hy;omega,(hb y (by simp[hy])).2⟩) (by omega)
   simp only[y9];omega
theorem YP{n:Nat} (hs:SS l) (hb:∀x∈l,0<=x/\x < (n:Int)):l.length<=n:=by
 have:=YO l 0 hs hb (by omega)
 omega
theorem nV(h:(aG vs ms cs fs ts).1=0):Jc vs ms cs fs=0/\(LW vs ms cs fs).1=0/\Ot fs ts=0:=by
 unfold aG at h;split at h
 .rename_i h1;exact absurd h h1
 .split at h
  .rename_i h1;exact absurd h h1
  .split at h
   .rename_i h1;exact absurd h h1
   .split at h
    .rename_i h1;exact absurd h h1
    .rename_i h1 h2 h3 h4;exact⟨by omega,by omega,by omega⟩
theorem ahW(h:(LW vs ms cs fs).1=0):∀d∈dL fs,LV vs ms cs fs d=0:=by
 unfold LW at h;split at h
 .rename_i d hd;have hp:=UR hd;split at h
  .cases h
  .rename_i h1;simp only[Fb,eH]at hp;rcases hp with hp | hp
   .exact absurd hp h1
   .exact absurd h hp
 .rename_i hd;intro d hm;have:=A94.1 hd d hm;simp only[Fb,eH,not_or]at this;omega
theorem aT{α:Type 1}{Q:α->Prop}{V:Prop} (a:α) (v:V) (h:V=Q a):∃a,Q a:=⟨a,cast h v⟩
theorem Gl:∀(i:Nat) (l:List FD) (n:Nat){x:FD},l[i]?=some x->lg n l=lg n (l.take i)++(vV (n+i) x++lg (n+i+1) (l.drop (i+1)))
 | 0,[],n,x,h=>by simp at h
 | 0,y :: l,n,x,h=>by
   simp at h;subst h;simp[lg]
 | i+1,[],n,x,h=>by simp at h
 | i+1,y :: l,n,x,h=>by
   have:=Gl i l (n+1) (x:=x) (by simpa using h)
   simp only[afA,List.drop_succ_cons,lg];rw[this,zY,show n+1+i=n+(i+1) by omega]
theorem akS{x:FD} (hx:fs[k]?=some x) (j:Int) (e:ID):LV vs ms cs fs (((k:Int),j,()),e,())=ciI vs ms cs fs e x.2.1.length:=Qm (d:=(((k:Int),j,()),e,())) (by simpa using hx)
def aX(n:Int):Int:=if n % 4294967296<=2147483647 then n % 4294967296 else n % 4294967296 - 4294967296
theorem uZ(n:Int):-2147483648<=aX n/\aX n<=2147483647:=by
 unfold aX;split<;>omega
theorem DY{n:Int}:aX n=n↔-2147483648<=n/\n<=2147483647:=by
 unfold aX;constructor
 .intro h;split at h<;>omega
 .intro h;split<;>omega
def iF(f a b:Int):Int×Int:=
 if f=1 then(aX (aX a+aX b),0) else if f=2 then(aX (aX a - aX b),0) else if f=3 then(aX (aX a * aX b),0)
 else if f=4 then(aX (oK .and .i64 (aX a) (aX b)),0) else if f=5 then(aX (oK .or .i64 (aX a) (aX b)),0) else if f=6 then(aX (oK .xor .i64 (aX a) (aX b)),0)
 else if f=7 then(if aX a=aX b then 1 else 0,0) else if f=8 then(if aX a=aX b then 0 else 1,0) else if f=9 then(if aX a < aX b then 1 else 0,0)
 else if f=10 then(if aX a<=aX b then 1 else 0,0) else(0,8)
theorem Ov(f a b:Int):-2147483648<=(iF f a b).1/\(iF f a b).1<=2147483647:=by
 unfold iF
 repeat' split
 all_goals first | exact uZ _ | (constructor<;>omega)
def gU:Nat->Int->Int->Int
 | 0,_,_=>-1
 | n+1,d,id=>if id < 8 then d else if 7<=id.tmod 8 then -1 else gU n (d+1) (id.tdiv 8 - 1)
def bM(id:Int):Int:=if id < 0 then -1 else gU 5 0 id
theorem wV:∀(n:Nat) (d id:Int),0<=d->gU n d id = -1\/(d<=gU n d id/\gU n d id < d+n)
 | 0,d,id,h=>.inl rfl
 | n+1,d,id,h=>by
   unfold gU;split
   .right;omega
   .split
    .exact .inl rfl
    .rcases wV n (d+1) (id.tdiv 8 - 1) (by omega) with e | e
     .exact .inl e
     .right;omega
theorem DZ(id:Int):-1<=bM id/\bM id<=4:=by
 unfold bM;split
 .omega
 .rcases wV 5 0 id (by omega) with e | e<;>omega
theorem yS:∀(n:Nat) (d id r:Int),gU (n+1) d id=r->0<=d->0<=r->r < d+n->gU n (d+1) id=r+1
 | 0,d,id,r,h,h0,h1,h2=>by
   have h:gU 1 d id=r:=h;rcases wV 1 d id h0 with e | e<;>omega
 | n+1,d,id,r,h,h0,h1,h2=>by
   unfold gU at h ⊢
   split at h
   .rename_i q;rw[if_pos q];omega
   .rename_i q;rw[if_neg q];split at h
    .omega
    .rename_i q2;rw[if_neg q2];exact yS n (d+1) _ r h (by omega) h1 (by omega)
def Ox:Nat->Int
 | 0=>0
 | n+1=>8 * (Ox n+1)
theorem Gm:∀(n:Nat) (d id:Int),0<=d->0<=id->0<=gU n d id->id < Ox n
 | 0,d,id,h0,h1,h2=>by simp[gU]at h2
 | n+1,d,id,h0,h1,h2=>by
   have hp:0<=Ox n:=by
    clear h2
    induction n with
    | zero=>simp[Ox]
    | succ n ih=>unfold Ox;omega
   unfold gU at h2;unfold Ox;split at h2
   .omega
   .split at h2
    .omega
    .have e:id.tdiv 8=id / 8:=aaG h1;rw[e]at h2;have:=Gm n (d+1) (id / 8 - 1) (by omega) (by omega) h2
     omega
theorem qG(h:0<=bM id):0<=id/\id < 37448:=by
 unfold bM at h;split at h
 .omega
 .have:=Gm 5 0 id (by omega) (by omega) h
  simp only[Ox]at this;omega
def dG(id ch:Int):Int×Bool:=if bM id < 0\/bM id=4\/ch < 0\/7<=ch then(0,false) else(8 * (id+1)+ch,true)
def Qo(id:Int):Int×Bool:=if bM id < 1 then(0,false) else(id.tdiv 8 - 1,true)
def uj(id:Int):Int:=if bM id < 0 then 0 else bM id
theorem Ak(h0:0<=bM id) (h4:bM id≠4) (c0:0<=ch) (c7:ch < 7):bM (8 * (id+1)+ch)=bM id+1/\(8 * (id+1)+ch).tdiv 8 - 1=id:=by
 obtain⟨i0,i1⟩:=qG h0;have e1:(8 * (id+1)+ch).tdiv 8=id+1:=by rw[aaG (by omega)];omega
 have e2:(8 * (id+1)+ch).tmod 8=ch:=by rw[Int.tmod_eq_emod_of_nonneg (by omega)];omega
 have hr:=DZ id;refine⟨?_,by omega⟩
 have hd:bM (8 * (id+1)+ch)=gU 4 1 id:=by
  unfold bM;rw[if_neg (by omega)]
  rw[gU,if_neg (by omega),e2,if_neg (by omega),e1,show id+1 - 1=id by omega]
  rfl
 rw[hd];have:bM id=gU 5 0 id:=by unfold bM;rw[if_neg (by omega)]
 exact yS 4 0 id _ this.symm (by omega) h0 (by omega)
abbrev bQ:Sh:=.pair (.int .i64) (.pair (.int .i64) (.pair (.int .i64) (.pair (.arr 8 (.int .i64)) (.pair (.int .i64) (.pair (.int .i64) (.pair (.int .i64) (.pair (.int .i64) (.pair (.int .i64) (.pair (.sl (.int .i64)) .unit)))))))))
abbrev TD:=Int×Int×Int×List Int×Int×Int×Int×Int×Int×List Int×Unit
variable {t:TD}
def ni(op:Int):Bool:=decide (8<=op/\op<=22)
def lV(i:ID):Int×Bool:=if AB i≠0\/use i.1 0=false then(0,false) else(i.2.1,true)
def codeF(fs:List FD) (fn:Int):List ID:=(fs.getD fn.toNat (⟨#[]⟩,[],())).2.1
def sH(fs:List FD) (fn pc:Int):Option ID:=(codeF fs fn)[pc.toNat]?
def atR(fs:List FD) (fn pc:Int):ID×Bool:=match sH fs fn pc with
 | some i=>(i,true)
 | none=>((0,0,0,0,0,0,0,0,()),false)
def kX(id ch ph:Int) (hd:List Int) (i:ID):Int:=
 if ph≠0 then 0 else if i.1=18 then(if gQ hd i.2.2.2.2.2.1=true then 0 else 27) else if i.1=16 then(if gQ hd i.2.2.2.2.1=true then 0 else 27)
 else if i.1=21 then(if(dG id ch).2=true then 0 else 28) else 0
def dB(ms:List ByteArray) (fs:List FD) (bound:Int):TD->Prop
 | (id,fn,pc,rg,st,ch,ph,su,fa,hd,_)=>0<=bM id/\(0<=fn/\fn < fs.length)/\(0<=pc/\pc<=(codeF fs fn).length)/\(∀k < 8,∀r,rg[k]?=some r->dK r=true) /\
   (0<=st/\st<=bound)/\(0<=ch/\ch<=7/\(bM id=4->ch=0))/\SS hd/\(∀m∈hd,0<=m/\m < ms.length) /\
   (ph=0\/((ph=1\/ph=2)/\∃i,sH fs fn pc=some i/\i.1=18/\gQ hd i.2.2.2.2.2.1=false))
open Classical in
def lI(ms:List ByteArray) (fs:List FD) (bound:Int) (t:TD):Bool:=decide (dB ms fs bound t)
def fE:TD->ID->TD×Bool
 | (id,fn,pc,rg,st,ch,ph,su,fa,hd,_),(op,a,b,c,obj,n,f,_,_)=>
   if op=1 then((id,fn,pc+1,rg.set a.toNat n,st,ch,ph,su,fa,hd,()),true)
   else if op=2 then((id,fn,pc+1,rg.set a.toNat (rg.getD b.toNat 0),st,ch,ph,su,fa,hd,()),true)
   else if op=3 then((id,fn,pc+1,if(iF f (rg.getD b.toNat 0) (rg.getD c.toNat 0)).2=0 then rg.set a.toNat (iF f (rg.getD b.toNat 0) (rg.getD c.toNat 0)).1 else rg,st,ch,ph,su,fa,hd,()),true)
   else if op=4 then((id,fn,n,rg,st,ch,ph,su,fa,hd,()),true)
   else if op=5 then((id,fn,if rg.getD b.toNat 0=0 then pc+1 else n,rg,st,ch,ph,su,fa,hd,()),true)
   else if op=6/\rg.getD b.toNat 0=0 then((id,fn,pc,rg,st,ch,ph,3,26,hd,()),false)
   else if op=7 then((id,fn,pc,rg,st,ch,ph,2,0,hd,()),false)
   else((id,fn,pc+1,rg,st,ch,ph,su,fa,hd,()),true)
def IB:TD->Int->Int->TD
 | (id,fn,pc,rg,st,ch,ph,_,_,hd,_),s,f=>(id,fn,pc,rg,st,ch,ph,s,f,hd,())
def topS(fs:List FD) (bound:Int) (t:TD) (rest:ID->TD):TD:=match t with
 | (id,fn,pc,rg,st,ch,ph,su,fa,hd,_)=>match sH fs fn pc with
   | none=>(id,fn,pc,rg,st,ch,ph,2,0,hd,())
   | some i=>if ni i.1=true then
    (if kX id ch ph hd i≠0 then(id,fn,pc,rg,st,ch,ph,3,kX id ch ph hd i,hd,()) else if st=bound then(id,fn,pc,rg,st,ch,ph,4,0,hd,()) else(id,fn,pc,rg,st,ch,ph,su,fa,hd,()))
     else rest i
def fJ(fs:List FD) (bound:Int):Nat->TD->TD
 | 0,t=>topS fs bound t λ_=>IB t 3 29
 | k+1,t=>topS fs bound t λi=>if(fE t i).2=true then fJ fs bound k (fE t i).1 else(fE t i).1
def xq(ms:List ByteArray) (fs:List FD) (bound:Int):TD->Prop
 | (id,fn,pc,rg,st,ch,ph,su,fa,hd,u)=>dB ms fs bound (id,fn,pc,rg,st,ch,ph,su,fa,hd,u) /\
   (((su=1/\st < bound\/su=4/\1<=st)/\fa=0/\∃i,sH fs fn pc=some i/\ni i.1=true/\kX id ch ph hd i=0) \/
    (su=2/\fa=0/\ph=0/\∀i,sH fs fn pc=some i->i.1=7) \/
    (su=3/\ph=0/\∃i,sH fs fn pc=some i/\(fa=26/\i.1=6/\rg.getD i.2.2.1.toNat 0=0\/fa=29/\ni i.1=false\/fa≠26/\fa≠29/\fa≠0/\kX id ch ph hd i=fa)))
open Classical in
def uo(ms:List ByteArray) (fs:List FD) (bound:Int) (t:TD):Bool:=decide (xq ms fs bound t)
theorem lD(h:AB i=0):(0<=i.2.1/\i.2.1 < 8)/\(0<=i.2.2.1/\i.2.2.1 < 8)/\(0<=i.2.2.2.1/\i.2.2.2.1 < 8)/\(1<=i.1/\i.1<=22):=by
 unfold AB wU at h;split at h
 .simp at h
 split at h
 .simp at h
 split at h
 .simp at h
 .rename_i h1 h2 h3;simp only[Ya,uf]at h1 h3;simp only[Fb,UF,Rt,iH]at h1 h3;refine⟨?_,?_,?_,?_⟩<;>omega
theorem ahX(h:AB i=0) (h1:i.1=1):dK i.2.2.2.2.2.1=true:=by
 unfold AB wU at h
 repeat' split at h
 all_goals first | (simp at h;done) | skip
 rename_i q1 q2 q3 q4 q5 q6;simp[h1]at q6;unfold dK;simp;omega
theorem adh{x:FD} (hx:fs[k]?=some x){j:Nat} (hj:x.2.1[j]?=some i):(((k:Int),(j:Int),()),i,())∈dL fs:=by
 unfold dL;rw[Gl k fs 0 hx];refine afy _ (List.mem_append_left _ ?_);unfold vV;rw[List.mem_map];refine⟨(i,j),?_,by simp⟩
 rw[UM];exact⟨j,by rw[afz,hj];simp⟩
theorem qH{fn:Int} (h:0<=fn/\fn < fs.length):∃x,fs[fn.toNat]?=some x/\codeF fs fn=x.2.1:=by
 have hl:fn.toNat < fs.length:=by omega
 refine⟨fs[fn.toNat],lY hl,?_⟩;unfold codeF;rw[A63,lY hl];rfl
theorem D5(h:(aG vs ms cs fs ts).1=0){fn:Int} (hf:0<=fn/\fn < fs.length) (hi:sH fs fn pc=some i):ciI vs ms cs fs i (codeF fs fn).length=0:=by
 obtain⟨c1,c2,c3⟩:=nV h;obtain⟨x,hx,ex⟩:=qH hf;unfold sH at hi;rw[ex]at hi ⊢;have:=ahW c2 _ (adh hx hi)
 rwa [akS hx]at this
theorem rF{m:Int} (h:ciI vs ms cs fs i m=0):AB i=0/\(0<=sG vs ms cs fs i.1->0<=i.2.2.2.2.1/\i.2.2.2.2.1 < sG vs ms cs fs i.1)/\(i.1=18->0<=i.2.2.2.2.2.1/\i.2.2.2.2.2.1 < ms.length)/\(i.1=4\/i.1=5->0<=i.2.2.2.2.2.1/\i.2.2.2.2.2.1<=m):=by
 unfold ciI ciS at h;split at h
 .rename_i q;exact absurd h q
 split at h
 .cases h
 split at h
 .cases h
 split at h
 .cases h
 .rename_i q1 q2 q3 q4;refine⟨L9.1 q1,λh0=>?_,λh0=>?_,λh0=>?_⟩
  .omega
  .omega
  .omega
theorem yT{a:Nat}{v:Int} (h:∀k < 8,∀r,rg[k]?=some r->dK r=true) (hv:dK v=true):∀k < 8,∀r,(rg.set a v)[k]?=some r->dK r=true:=by
 intro k hk r hr;rw[List.getElem?_set]at hr;split at hr
 .split at hr
  .cases hr;exact hv
  .cases hr
 .exact h k hk r hr
theorem YQ{b:Int} (h:∀k < 8,∀r,rg[k]?=some r->dK r=true) (hb:0<=b/\b < 8):dK (rg.getD b.toNat 0)=true:=by
 rw[A63];cases hq:rg[b.toNat]? with
 | none=>rfl
 | some r=>exact h _ (by omega) r hq
theorem adi(f a b:Int):dK (iF f a b).1=true:=by
 have:=Ov f a b;unfold dK;simpa using this
theorem Qp{n:Nat} (h:0<=pc) (h2:pc.toNat < n):0<=pc+1/\pc+1<=(n:Int):=by omega
theorem afj{fn:Int} (h:sH fs fn pc=some i):pc.toNat < (codeF fs fn).length:=(fH.1 h).1
theorem YR{fn st ph su fa:Int}{hd:List Int}{u:Unit} (h:dB ms fs bound (id,fn,pc,rg,st,ch,ph,su,fa,hd,u)) (hi:sH fs fn pc=some i) (hv:ni i.1=false):ph=0:=by
 rcases h.2.2.2.2.2.2.2.2 with e | ⟨_,j,hj,h18,_⟩
 .exact e
 .rw[hi]at hj;cases hj;rw[h18]at hv;cases hv
theorem adk{fn st ph su fa:Int}{hd:List Int}{u:Unit} (h:dB ms fs bound (id,fn,pc,rg,st,ch,ph,su,fa,hd,u)) (hi:sH fs fn pc=none):ph=0:=by
 rcases h.2.2.2.2.2.2.2.2 with e | ⟨_,j,hj,h18,_⟩
 .exact e
 .rw[hi]at hj;cases hj
theorem D6(hc:(aG vs ms cs fs ts).1=0) (h:dB ms fs bound t) (hi:sH fs t.2.1 t.2.2.1=some i) (hv:ni i.1=false):dB ms fs bound (fE t i).1:=by
 obtain⟨id,fn,pc,rg,st,ch,ph,su,fa,hd,u⟩:=t;obtain⟨op,a,b,c,obj,n,f,ord,u2⟩:=i;have hi:sH fs fn pc=some (op,a,b,c,obj,n,f,ord,u2):=hi;have hp:=YR h hi hv;have iV:=afj hi;obtain⟨h1,h2,h3,h4,h5,h6,h7,h8,h9⟩:=h;have ok:=D5 hc h2 hi;obtain⟨k1,k2,k3,k4⟩:=rF ok;obtain⟨r1,r2,r3,r4⟩:=lD k1;have k4:op=4\/op=5->0<=n/\n<=((codeF fs fn).length:Int):=k4;have hpc:=Qp h3.1 iV;have key:∀(pc':Int) (Ux:List Int) (su' fa':Int),(0<=pc'/\pc'<=((codeF fs fn).length:Int))->(∀k < 8,∀r,Ux[k]?=some r->dK r=true)->dB ms fs bound (id,fn,pc',Ux,st,ch,ph,su',fa',hd,()):=
  λpc' Ux su' fa' q1 q2=>⟨h1,h2,q1,q2,h5,h6,h7,h8,.inl hp⟩
 unfold fE;simp only;split
 .rename_i e;exact key _ _ _ _ hpc (yT h4 (ahX k1 e))
 split
 .exact key _ _ _ _ hpc (yT h4 (YQ h4 r2))
 split
 .split
  .exact key _ _ _ _ hpc (yT h4 (adi _ _ _))
  .exact key _ _ _ _ hpc h4
 split
 .rename_i e;exact key _ _ _ _ (k4 (.inl e)) h4
 split
 .rename_i e;split
  .exact key _ _ _ _ hpc h4
  .exact key _ _ _ _ (k4 (.inr e)) h4
 split
 .exact key _ _ _ _ h3 h4
 split
 .exact key _ _ _ _ h3 h4
 .exact key _ _ _ _ hpc h4
theorem D7(t:TD) (i:ID):(fE t i).1.1=t.1/\(fE t i).1.2.1=t.2.1/\(fE t i).1.2.2.2.2.1=t.2.2.2.2.1/\(fE t i).1.2.2.2.2.2.1=t.2.2.2.2.2.1/\(fE t i).1.2.2.2.2.2.2.1=t.2.2.2.2.2.2.1/\(fE t i).1.2.2.2.2.2.2.2.2.2.1=t.2.2.2.2.2.2.2.2.2.1/\((fE t i).2=true->(fE t i).1.2.2.2.2.2.2.2.1=t.2.2.2.2.2.2.2.1/\(fE t i).1.2.2.2.2.2.2.2.2.1=t.2.2.2.2.2.2.2.2.1):=by
 obtain⟨id,fn,pc,rg,st,ch,ph,su,fa,hd,u⟩:=t;obtain⟨op,a,b,c,obj,n,f,ord,u2⟩:=i;unfold fE;simp only
 repeat' split
 all_goals simp
theorem Ue(id ch ph:Int) (hd:List Int) (i:ID):kX id ch ph hd i=0\/(ph=0/\(kX id ch ph hd i=27\/kX id ch ph hd i=28)):=by
 unfold kX
 repeat' split
 all_goals first | exact .inl rfl | (right;constructor<;>first | omega | simp)
theorem top_vld(hb:1<=bound){rest:ID->TD}{fn st ph:Int}{hd:List Int}{u:Unit} (h:dB ms fs bound (id,fn,pc,rg,st,ch,ph,1,0,hd,u))
 (hr:∀i,sH fs fn pc=some i->ni i.1=false->ph=0->xq ms fs bound (rest i)):xq ms fs bound (topS fs bound (id,fn,pc,rg,st,ch,ph,1,0,hd,u) rest):=by
 unfold topS;simp only;split
 .rename_i hi;exact⟨h,.inr (.inl ⟨rfl,rfl,adk h hi,λi q=>by rw[hi]at q;cases q⟩)⟩
 rename_i i hi;split
 .rename_i hv;have ho:=Ue id ch ph hd i;split
  .rename_i e;refine⟨h,.inr (.inr ⟨rfl,by omega,i,hi,.inr (.inr ⟨by omega,by omega,by omega,rfl⟩)⟩)⟩
  .rename_i e;have e:kX id ch ph hd i=0:=by omega
   have hst:=h.2.2.2.2.1;split
   .exact⟨h,.inl ⟨.inr ⟨rfl,by omega⟩,rfl,i,hi,hv,e⟩⟩
   .exact⟨h,.inl ⟨.inl ⟨rfl,by omega⟩,rfl,i,hi,hv,e⟩⟩
 .rename_i hv;have hv:ni i.1=false:=by simpa using hv
  exact hr i hi hv (YR h hi hv)
theorem Qq(hc:(aG vs ms cs fs ts).1=0) (hb:1<=bound):∀(k:Nat) (t:TD),dB ms fs bound t->t.2.2.2.2.2.2.2.1=1->t.2.2.2.2.2.2.2.2.1=0->xq ms fs bound (fJ fs bound k t):=by
 intro k
 induction k with
 | zero=>
   rintro⟨id,fn,pc,rg,st,ch,ph,su,fa,hd,u⟩ h h1 h2;have h1:su=1:=h1;have h2:fa=0:=h2;subst h1;subst h2;rw[fJ];refine top_vld hb h λi hi hv hp=>?_
   show xq ms fs bound (id,fn,pc,rg,st,ch,ph,3,29,hd,());exact⟨h,.inr (.inr ⟨rfl,hp,i,hi,.inr (.inl ⟨rfl,hv⟩)⟩)⟩
 | succ k ih=>
   rintro⟨id,fn,pc,rg,st,ch,ph,su,fa,hd,u⟩ h h1 h2;have h1:su=1:=h1;have h2:fa=0:=h2;subst h1;subst h2;rw[fJ];refine top_vld hb h λi hi hv hp=>?_
   have hf:=D6 hc (t:=(id,fn,pc,rg,st,ch,ph,1,0,hd,u)) h hi hv;have hk:=D7 (id,fn,pc,rg,st,ch,ph,1,0,hd,u) i;split
   .rename_i e;exact ih _ hf (hk.2.2.2.2.2.2 e).1 (hk.2.2.2.2.2.2 e).2
   .rename_i e;obtain⟨op,a,b,c,obj,n,f,ord,u2⟩:=i;unfold fE at e ⊢;simp only at e ⊢
    by_cases n1:op=1
    .rw[if_pos n1]at e;exact absurd rfl e
    rw[if_neg n1]at e ⊢
    by_cases n2:op=2
    .rw[if_pos n2]at e;exact absurd rfl e
    rw[if_neg n2]at e ⊢
    by_cases n3:op=3
    .rw[if_pos n3]at e;exact absurd rfl e
    rw[if_neg n3]at e ⊢
    by_cases n4:op=4
    .rw[if_pos n4]at e;exact absurd rfl e
    rw[if_neg n4]at e ⊢
    by_cases n5:op=5
    .rw[if_pos n5]at e;exact absurd rfl e
    rw[if_neg n5]at e ⊢
    by_cases n6:op=6/\rg.getD b.toNat 0=0
    .rw[if_pos n6];exact⟨h,.inr (.inr ⟨rfl,hp,_,hi,.inl ⟨rfl,n6.1,n6.2⟩⟩)⟩
    rw[if_neg n6]at e ⊢
    by_cases n7:op=7
    .rw[if_pos n7];exact⟨h,.inr (.inl ⟨rfl,rfl,hp,λj hj=>by rw[hi]at hj;cases hj;exact n7⟩)⟩
    rw[if_neg n7]at e;exact absurd rfl e
theorem top_keep{rest:ID->TD} (hr:∀i,(rest i).1=t.1/\(rest i).2.1=t.2.1/\(rest i).2.2.2.2.1=t.2.2.2.2.1/\(rest i).2.2.2.2.2.2.2.2.2.1=t.2.2.2.2.2.2.2.2.2.1):
 (topS fs bound t rest).1=t.1/\(topS fs bound t rest).2.1=t.2.1/\(topS fs bound t rest).2.2.2.2.1=t.2.2.2.2.1/\(topS fs bound t rest).2.2.2.2.2.2.2.2.2.1=t.2.2.2.2.2.2.2.2.2.1:=by
 obtain⟨id,fn,pc,rg,st,ch,ph,su,fa,hd,u⟩:=t;unfold topS;simp only;split
 .exact⟨rfl,rfl,rfl,rfl⟩
 split
 .repeat' split
  all_goals exact⟨rfl,rfl,rfl,rfl⟩
 .exact hr _
theorem KQ(fs:List FD) (bound:Int):∀(k:Nat) (t:TD),(fJ fs bound k t).1=t.1/\(fJ fs bound k t).2.1=t.2.1/\(fJ fs bound k t).2.2.2.2.1=t.2.2.2.2.1/\(fJ fs bound k t).2.2.2.2.2.2.2.2.2.1=t.2.2.2.2.2.2.2.2.2.1:=by
 intro k
 induction k with
 | zero=>
   intro t;rw[fJ];exact top_keep λi=>⟨rfl,rfl,rfl,rfl⟩
 | succ k ih=>
   intro t;rw[fJ];refine top_keep λi=>?_
   have hk:=D7 t i;have:=ih (fE t i).1;split
   .exact⟨this.1.trans hk.1,this.2.1.trans hk.2.1,this.2.2.1.trans hk.2.2.1,this.2.2.2.trans hk.2.2.2.2.2.1⟩
   .exact⟨hk.1,hk.2.1,hk.2.2.1,hk.2.2.2.2.2.1⟩
def oC(l o:List Int) (b:Bool):List Int:=l.filter λx=>gQ o x == b
def AL(l:List Int) (x:Int):List Int:=oC (bY l) [x] false
def AO(l:List Int) (x:Int):List Int:=bY (l++[x])
theorem Oy(l:List Int) (x:Int):SS (AL l x):=List.Pairwise.filter _ (yL l)
theorem IC{x y:Int}:y∈AL l x↔y∈l/\y≠x:=by
 unfold AL oC;rw[List.mem_filter,yM];have:(gQ [x] y == false)=true↔y≠x:=by
  rw[Aa,nU,A76]
 rw[this]
theorem adl{x y:Int}:y∈AO l x↔y∈l\/y=x:=by
 unfold AO;rw[yM];simp
theorem Oz{n:Int} (h:SS l):l.filter (λx=>decide (x≠n))=AL l n:=by
 refine Oe (List.Pairwise.filter _ h) (Oy _ _) λx=>?_
 rw[IC,List.mem_filter];simp
def zT:TD:=(0,0,0,[0,0,0,0,0,0,0,0],0,0,0,0,0,[],())
def kR:TD->ID->Int->TD
 | (id,fn,pc,rg,st,ch,ph,su,fa,hd,_),i,result=>
   if i.1=18 then
    (if ph=0 then(id,fn,pc,if(lV i).2=true then rg.set (lV i).1.toNat result else rg,st+1,ch,1,su,fa,AL hd i.2.2.2.2.2.1,())
     else if ph=1 then(id,fn,pc,if(lV i).2=true then rg.set (lV i).1.toNat result else rg,st+1,ch,2,su,fa,hd,())
     else(id,fn,pc+1,if(lV i).2=true then rg.set (lV i).1.toNat result else rg,st+1,ch,0,su,fa,AO hd i.2.2.2.2.2.1,()))
   else(id,fn,pc+1,if(lV i).2=true then rg.set (lV i).1.toNat result else rg,st+1,if i.1=21 then ch+1 else ch,ph,su,fa,
    if i.1=15\/(i.1=17/\result≠0) then AO hd i.2.2.2.2.1 else if i.1=16 then AL hd i.2.2.2.2.1 else hd,())
theorem Uf{op:Int} (h:op=15\/op=16\/op=17):sG vs ms cs fs op=ms.length:=by
 unfold sG;rw[if_neg (by omega),if_pos h]
theorem D8(h:xq ms fs bound t) (h1:t.2.2.2.2.2.2.2.1=1):t.2.2.2.2.2.2.2.2.1=0/\t.2.2.2.2.1 < bound/\∃i,sH fs t.2.1 t.2.2.1=some i/\ni i.1=true/\kX t.1 t.2.2.2.2.2.1 t.2.2.2.2.2.2.1 t.2.2.2.2.2.2.2.2.2.1 i=0:=by
 obtain⟨id,fn,pc,rg,st,ch,ph,su,fa,hd,u⟩:=t;have h1:su=1:=h1;subst h1;obtain⟨hf,q | q | q⟩:=h
 .obtain⟨q1,q2,i,hi,hv,ho⟩:=q;rcases q1 with⟨_,q1⟩ | ⟨q1,_⟩
  .exact⟨q2,q1,i,hi,hv,ho⟩
  .exact absurd q1 (by decide)
 .exact absurd q.1 (by decide)
 .exact absurd q.1 (by decide)
theorem D9(hc:(aG vs ms cs fs ts).1=0) (h:xq ms fs bound t) (h1:t.2.2.2.2.2.2.2.1=1) (hi:sH fs t.2.1 t.2.2.1=some i){result:Int} (hv:dK result=true):dB ms fs bound (kR t i result):=by
 obtain⟨f0,s0,j,hj,vj,oj⟩:=D8 h h1;rw[hi]at hj;cases hj;obtain⟨id,fn,pc,rg,st,ch,ph,su,fa,hd,u⟩:=t;have hf:dB ms fs bound (id,fn,pc,rg,st,ch,ph,su,fa,hd,u):=h.1;have hi:sH fs fn pc=some i:=hi;have s0:st < bound:=s0;have oj:kX id ch ph hd i=0:=oj;have iV:=afj hi;obtain⟨a1,a2,a3,a4,a5,a6,a7,a8,a9⟩:=hf;obtain⟨k1,k2,k3,k4⟩:=rF (D5 hc a2 hi);have hpc:=Qp a3.1 iV;have hst:0<=st+1/\st+1<=bound:=⟨Int.add_nonneg a5.1 (by decide),s0⟩
 have hrg:∀k < 8,∀r,(if(lV i).2=true then rg.set (lV i).1.toNat result else rg)[k]?=some r->dK r=true:=by
  split
  .exact yT a4 hv
  .exact a4
 have ahY:∀x,SS (AL hd x)/\∀m∈AL hd x,0<=m/\m < (ms.length:Int):=λx=>⟨Oy _ _,λm hm=>a8 m (IC.1 hm).1⟩
 have hadd:∀x,0<=x/\x < (ms.length:Int)->SS (AO hd x)/\∀m∈AO hd x,0<=m/\m < (ms.length:Int):=λx hx=>⟨yL _,λm hm=>by
  rcases adl.1 hm with q | q
  .exact a8 m q
  .subst q;exact hx⟩
 unfold kR;simp only;split
 .rename_i e;split
  .rename_i e0;subst e0;refine⟨a1,a2,a3,hrg,hst,a6,(ahY _).1,(ahY _).2,.inr ⟨.inl rfl,i,hi,e,?_⟩⟩;rw[nU];exact λq=>(IC.1 q).2 rfl
  rename_i n0;have a10:=a9.resolve_left n0;split
  .exact⟨a1,a2,a3,hrg,hst,a6,a7,a8,.inr ⟨.inr rfl,a10.2⟩⟩
  .exact⟨a1,a2,hpc,hrg,hst,a6,(hadd _ (k3 e)).1,(hadd _ (k3 e)).2,.inl rfl⟩
 .rename_i e;have e0:ph=0:=by
   rcases a9 with q | ⟨_,j,hj,q,_⟩
   .exact q
   .rw[hi]at hj;cases hj;exact absurd q e
  subst e0;have hch:0<=(if i.1=21 then ch+1 else ch)/\(if i.1=21 then ch+1 else ch)<=7/\(bM id=4->(if i.1=21 then ch+1 else ch)=0):=by
   split
   .rename_i e21;have:(dG id ch).2=true:=by
     unfold kX at oj;rw[if_neg (by simp),if_neg e,if_neg (by omega),if_pos e21]at oj
     by_cases q:(dG id ch).2=true
     .exact q
     .rw[if_neg q]at oj;cases oj
    unfold dG at this;split at this
    .cases this
    .rename_i q;omega
   .exact a6
  refine⟨a1,a2,hpc,hrg,hst,hch,?_,?_,.inl rfl⟩
  .split
   .exact yL _
   split
   .exact Oy _ _
   .exact a7
  .split
   .rename_i q;have ho:=Uf (vs:=vs) (ms:=ms) (cs:=cs) (fs:=fs) (op:=i.1) (by omega)
    rw[ho]at k2;exact(hadd _ (k2 (by omega))).2
   split
   .exact(ahY _).2
   .exact a8
theorem YT(t:TD) (i:ID) (r:Int):(kR t i r).1=t.1/\(kR t i r).2.1=t.2.1/\(kR t i r).2.2.2.2.1=t.2.2.2.2.1+1/\(kR t i r).2.2.2.2.2.2.2.1=t.2.2.2.2.2.2.2.1/\(kR t i r).2.2.2.2.2.2.2.2.1=t.2.2.2.2.2.2.2.2.1:=by
 obtain⟨id,fn,pc,rg,st,ch,ph,su,fa,hd,u⟩:=t;unfold kR;simp only
 repeat' split
 all_goals simp
def dM(e bound:Int):Int:=if e≠0 then e else if bound < 1\/32 < bound then 2 else 0
theorem iG{e:Int}:dM e bound=0↔e=0/\1<=bound/\bound<=32:=by
 unfold dM;constructor
 .intro h;split at h
  .rename_i q;exact absurd h q
  .rename_i q;split at h
   .cases h
   .omega
 .rintro⟨h1,h2,h3⟩;rw[if_neg (by omega),if_neg (by omega)]
def newS(e:Int) (fs:List FD) (bound id fn arg:Int):TD×Int:=
 if dM e bound≠0 then(zT,dM e bound) else if bM id < 0 then(zT,2) else if fn < 0\/(fs.length:Int)<=fn then(zT,11) else if dK arg=false then(zT,2)
 else(fJ fs bound 256 (id,fn,0,[arg,0,0,0,0,0,0,0],0,0,0,1,0,[],()),0)
theorem Ea(ms:List ByteArray){fn arg:Int} (hb:1<=bound) (h1:¬bM id < 0) (h2:¬(fn < 0\/(fs.length:Int)<=fn)) (h3:¬dK arg=false):dB ms fs bound (id,fn,0,[arg,0,0,0,0,0,0,0],0,0,0,1,0,[],()):=by
 refine⟨by omega,by omega,by omega,λk hk r hr=>?_,by omega,⟨by omega,by omega,λ_=>rfl⟩,List.Pairwise.nil,λm hm=>(nomatch hm),.inl rfl⟩
 match k,hr with
 | 0,hr=>cases hr;simpa using h3
 | k+1,hr=>
   have:r=0:=by
    have:=iJ (show[(0:Int),0,0,0,0,0,0][k]?=some r by simpa using hr)
    simpa using this
   rw[this];rfl
open Classical in
def iU(e:Int) (ms:List ByteArray) (fs:List FD) (t:TD):ID×Bool:=
 if e=0/\t.2.2.2.2.2.2.2.1=1/\xq ms fs 32 t then atR fs t.2.1 t.2.2.1 else((0,0,0,0,0,0,0,0,()),false)
open Classical in
def kC(e:Int) (ms:List ByteArray) (fs:List FD) (bound:Int) (t:TD) (result:Int):TD×Int:=
 if dM e bound≠0 then(zT,dM e bound) else if¬xq ms fs bound t then(zT,1) else if t.2.2.2.2.2.2.2.1≠1 then(zT,30) else if dK result=false then(zT,2)
 else(fJ fs bound 256 (kR t (atR fs t.2.1 t.2.2.1).1 result),0)
end
end Go.Proofs.YtjhenjhcbcalpaaGreatDoor
