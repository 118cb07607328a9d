/- Texts of this claim, part 7: V5, V6, V7, V8, V9, K2, V10, R1, K3. Conditions: those of the given rows. -/
import Derived.Test.YtjhenjhcbcalpaaGreatDoorB6
set_option linter.unusedSimpArgs false
set_option linter.unusedVariables false
set_option maxRecDepth 1000000
set_option maxHeartbeats 8000000
namespace Go.Proofs.YtjhenjhcbcalpaaGreatDoor
open Go Go.mQ
noncomputable section
variable {i:ID}{l rg:List Int}{k:Nat}{vs:List VD}{ms cs:List ByteArray}{fs:List FD}{d:bV [nD,o7]}{ts:List SD}{m id ch pc bound:Int}
def JR(s:ByteArray) (i:Nat):Int:=match s[i]? with | some u=>(u.toNat:Int) | none=>0
theorem LW{s:ByteArray}{i:Nat}{u:UInt8} (h:s[i]?=some u):JR s i=u.toNat:=by simp[JR,h]
def okB(c:Int):Bool:=uQ c || decide (c=95) || decide (48<=c/\c<=57)
def dK(s:ByteArray):Bool:=decide (1<=s.size/\s.size<=16) && uQ (JR s 0) && (List.range s.size).all λi=>okB (JR s i)
abbrev apH:CT:={ ps:=[.str],pre:=λd=>True,res:=λd=>([],vB (dK d.1)) }
abbrev amb(s:ByteArray):Nat->Option (St->kH):=λk=>match k with
 | 4=>some λ_=>.inv { α:=Nat,slots:=λk=>[(20,.c (.v (.int .i64 k)))],res:=λk=>[],inv:=λk=>k<=((List.range s.size)).length/\∀j < k,okB (JR s j)=true,meas:=λk=>((List.range s.size)).length - k }
 | _=>none
theorem aha(s:ByteArray):
 let z5:=(s.size:Int) < (1:Int);let z3:=!(decide z5 || decide (16 < (s.size:Int)));let z6:=List.range s.size;let z2:=λ(x:Nat)=>(x<=z6.length/\∀(j:Nat),j < x->okB (JR s j)=true);let z4:=λ(u u_1:UInt8)=>!uQ (u.toNat:Int) && !decide ((u_1.toNat:Int)=(95:Int));let z1:=λ(u_2 u u_1:UInt8)=>!decide ((u_2.toNat:Int) < (48:Int)) && (z4 u u_1);(z3=true->(0:Int)<=(0:Int)/\0 < (s.size:Int))/\∀(u:UInt8),(z3=true->s[0]?=some u)->(z3=true->True)/\br (decide z5 || decide (16 < (s.size:Int)) || !uQ (u.toNat:Int)) (qB (dK s) false) ((∃x,(z2 x)/\(cI 0=cI (x:Int)/\True)/\([]:List fH)=[])/\∀(x:Nat),(z2 x)->br (decide ((x:Int) < (s.size:Int))) ((0<=(x:Int)/\(x:Int) < (s.size:Int))/\∀(u:UInt8),s[(x:Int).toNat]?=some u->True/\((!uQ (u.toNat:Int))=true->0<=(x:Int)/\(x:Int) < (s.size:Int))/\∀(u_1:UInt8),((!uQ (u.toNat:Int))=true->s[(x:Int).toNat]?=some u_1)->((z4 u u_1)=true->0<=(x:Int)/\(x:Int) < (s.size:Int))/\∀(u_2:UInt8),((z4 u u_1)=true->s[(x:Int).toNat]?=some u_2)->((z1 u_2 u u_1)=true->0<=(x:Int)/\(x:Int) < (s.size:Int))/\∀(u_3:UInt8),((z1 u_2 u u_1)=true->s[(x:Int).toNat]?=some u_3)->br (!uQ (u.toNat:Int) && !decide ((u_1.toNat:Int)=(95:Int)) && (decide ((u_2.toNat:Int) < (48:Int)) || decide (57 < (u_3.toNat:Int)))) (qB (dK s) false) (dX IntKind.i64 ((x:Int)+(1:Int))/\∃x',(z2 x')/\(cI ((x:Int)+(1:Int))=cI (x':Int)/\True)/\([]:List fH)=[]/\z6.length - x' < z6.length - x)) (qB (dK s) true)):=by
 conv=>zeta
 delta fH cI qB;have hs2:(!(decide ((s.size:Int) < (1:Int)) || decide ((16:Int) < (s.size:Int))))=true↔(1<=s.size/\s.size<=16):=by
  simp only[Kq,oI,gG];omega
 refine⟨λh=>by have:=hs2.1 h;omega,λu hu=>⟨λ_=>trivial,ah.2 ⟨λh=>⟨rfl,?_⟩,λh=>?_⟩⟩⟩
 .have:dK s=false:=by
   unfold dK
   by_cases hs:1<=s.size/\s.size<=16
   .have e:=LW (hu (hs2.2 hs));simp only[Ee,dV,Kq]at h;have h0:uQ (JR s 0)=false:=by
     rw[e];rcases h with(h | h) | h
     .omega
     .omega
     .exact h
    rw[h0];simp
   .rw[BP hs];rfl
  rw[this]
 .simp only[oI,gG,zG]at h;obtain⟨⟨h1,h2⟩,h3⟩:=h;have hs:1<=s.size/\s.size<=16:=by omega
  have e:=LW (hu (hs2.2 hs));have hl:(List.range s.size).length=s.size:=List.length_range;rw[hl];refine⟨⟨0,⟨by omega,λj hj=>by omega⟩,⟨rfl,trivial⟩,rfl⟩,λk hk=>ah.2 ⟨λh=>?_,λh=>?_⟩⟩
  .simp only[dV]at h;have hN:(k:Int).toNat=k:=by omega
   rw[hN];refine⟨by omega,λv hv=>⟨trivial,λ_=>by omega,λv1 hv1=>⟨λ_=>by omega,λv2 hv2=>⟨λ_=>by omega,λv3 hv3=>?_⟩⟩⟩⟩
   have ev:=LW hv;have bad:okB (JR s k)=false->dK s=false:=by
    intro hb;unfold dK;have:((List.range s.size).all λi=>okB (JR s i))=false:=by
     rw[List.all_eq_false];exact⟨k,by simp;omega,by rw[hb];simp⟩
    rw[this];simp
   have fin:okB (JR s k)=true->(dX IntKind.i64 ((k:Int)+1)/\∃x',(x'<=s.size/\∀(j:Nat),j < x'->okB (JR s j)=true)/\(SV.c (SC.v (Value.int IntKind.i64 ((k:Int)+1)))=SV.c (SC.v (Value.int IntKind.i64 (x':Int)))/\True)/\([]:List (Go.mQ.Gd×Go.mQ.au))=[]/\s.size - x' < s.size - k):=λho=>
    ⟨ay.2 (by omega),k+1,⟨by omega,λj hj=>by
     by_cases ji:j=k
     .rw[ji];exact ho
     .exact hk.2 j (by omega)⟩,⟨rfl,trivial⟩,rfl,by omega⟩
   cases hA:uQ (v.toNat:Int) with
   | true=>
     refine ah.2 ⟨λh=>by simp at h,λ_=>fin ?_⟩
     rw[ev];unfold okB;rw[hA];rfl
   | false=>
     have hv1:=hv1 (by rw[hA];rfl)
     rw[hv]at hv1;cases hv1
     by_cases h95:(v.toNat:Int)=95
     .refine ah.2 ⟨λh=>by simp[h95]at h,λ_=>fin ?_⟩
      rw[ev];unfold okB;simp[h95]
     .have hd95:decide ((v.toNat:Int)=95)=false:=BP h95;have hv2:=hv2 (by rw[hA,hd95];rfl)
      rw[hv]at hv2;cases hv2
      by_cases h48:(v.toNat:Int) < 48
      .refine ah.2 ⟨λ_=>⟨rfl,?_⟩,λh=>by simp[h95,h48]at h⟩
       rw[bad (by rw[ev];unfold okB;rw[hA,hd95];simp;omega)]
      .have arK:decide ((v.toNat:Int) < 48)=false:=BP h48;have hv3:=hv3 (by rw[hA,hd95,arK];rfl)
       rw[hv]at hv3;cases hv3
       by_cases h57:57 < (v.toNat:Int)
       .refine ah.2 ⟨λ_=>⟨rfl,?_⟩,λh=>by simp[h95,h57]at h⟩
        rw[bad (by rw[ev];unfold okB;rw[hA,hd95];simp;omega)]
       .refine ah.2 ⟨λh=>by simp[h95,h48,h57]at h,λ_=>fin ?_⟩
        rw[ev];unfold okB;rw[hA,hd95];simp;omega
  .simp only[gG]at h;have:dK s=true:=by
    unfold dK;rw[Na hs,e,h3];simp only[Iw];rw[Ti];intro i hi;simp at hi;exact hk.2 i (by omega)
   rw[this];exact⟨rfl,rfl⟩
theorem abU:aW aU.gd 208 apH:=
 kL (cx:=aU) (n:=47) (cl:=[(214,ajC)]) aA ⟨abM,trivial⟩ Tryz.func208 λd hd=>by
  obtain⟨s,⟨⟩⟩:=d;exact⟨amb s,cast (by kernel_rfl) (aha s)⟩
def ig(l:List ByteArray):Int×Int:=match(List.range l.length).find? (λi=>!dK (l.getD i ⟨#[]⟩) || vT (l.take i) (l.getD i ⟨#[]⟩)) with
 | some i=>(if dK (l.getD i ⟨#[]⟩) then 7 else 6,i)
 | none=>(0,-1)
theorem xQ{l:List ByteArray} (hk:k < l.length) (h:∀j < k,dK (l.getD j ⟨#[]⟩)=true/\vT (l.take j) (l.getD j ⟨#[]⟩)=false) (hf:dK (l.getD k ⟨#[]⟩)=false\/vT (l.take k) (l.getD k ⟨#[]⟩)=true):
 ig l=(if dK (l.getD k ⟨#[]⟩) then 7 else 6,(k:Int)):=by
 unfold ig;rw[show(List.range l.length).find? (λi=>!dK (l.getD i ⟨#[]⟩) || vT (l.take i) (l.getD i ⟨#[]⟩))=some k from List.find?_range_eq_some.2 ⟨by rcases hf with hf | hf<;>rw[hf]<;>simp,by simpa using hk,λj hj=>by obtain⟨a,b⟩:=h j hj;rw[a,b];rfl⟩]
theorem OY{l:List ByteArray} (h:∀j < l.length,dK (l.getD j ⟨#[]⟩)=true/\vT (l.take j) (l.getD j ⟨#[]⟩)=false):ig l=(0,-1):=by
 unfold ig;rw[show(List.range l.length).find? (λi=>!dK (l.getD i ⟨#[]⟩) || vT (l.take i) (l.getD i ⟨#[]⟩))=none from Yk.2 λi hi=>by
  obtain⟨a,b⟩:=h i (by simpa using hi)
  rw[a,b];simp]
abbrev abV:CT:={ ps:=[.sl .str],pre:=λd=>d.1.length<=1000000,res:=λd=>([],.iR [.c (.v (.int .i64 (ig d.1).1)),.c (.v (.int .i64 (ig d.1).2))]) }
abbrev amc(l:List ByteArray):Nat->Option (St->kH):=λk=>match k with
 | 2=>some λ_=>.inv { α:=Nat,slots:=λk=>[(8,.c (.v (.int .i64 k)))],res:=λk=>[],inv:=λk=>k<=(l).length/\∀j < k,dK (l.getD j ⟨#[]⟩)=true/\vT (l.take j) (l.getD j ⟨#[]⟩)=false,meas:=λk=>(l).length - k }
 | _=>none
theorem ahb(l:List ByteArray) (aH:abV.pre (l,())):
 let z1:=λ(x:Nat)=>(x<=l.length/\∀(j:Nat),j < x->dK (l.getD j { data:=#[]:ByteArray })=true/\vT (List.take j l) (l.getD j { data:=#[]:ByteArray })=false);let z2:=[cI ((ig l).fst),cI ((ig l).snd)];(∃x,(z1 x)/\(cI 0=cI (x:Int)/\True)/\([]:List fH)=[])/\∀(x:Nat),(z1 x)->br (decide ((x:Int) < (l.length:Int))) ((0<=(x:Int)/\(x:Int) < (l.length:Int))/\∀(d:ByteArray),l[(x:Int).toNat]?=some d->True/\br (!dK d) (rT z2 [cI 6,cI (x:Int)]) (((0:Int)<=(0:Int)/\0<=(x:Int)/\(x:Int)<=(l.length:Int))/\(List.drop 0 (List.take (x:Int).toNat l)).length<=1000000/\br (vT (List.drop 0 (List.take (x:Int).toNat l)) d) (rT z2 [cI 7,cI (x:Int)]) (dX IntKind.i64 ((x:Int)+(1:Int))/\∃x',(z1 x')/\(cI ((x:Int)+(1:Int))=cI (x':Int)/\True)/\([]:List fH)=[]/\l.length - x' < l.length - x))) (rT z2 [cI 0,cI (-1)]):=by
 conv=>zeta
 delta fH cI rT;have hp:l.length<=1000000:=aH;refine⟨⟨0,⟨by omega,λj hj=>by omega⟩,⟨rfl,trivial⟩,rfl⟩,λk hk=>ah.2 ⟨λh=>?_,λh=>?_⟩⟩
 .simp only[dV]at h;have hN:(k:Int).toNat=k:=by omega
  rw[hN];refine⟨by omega,λd hd=>?_⟩
  have hg:l.getD k ⟨#[]⟩=d:=by rw[Jk,hd];rfl
  refine⟨trivial,ah.2 ⟨λh2=>⟨rfl,?_⟩,λh2=>⟨⟨by omega,by omega,by omega⟩,by simp;omega,ah.2 ⟨λh3=>⟨rfl,?_⟩,λh3=>⟨ay.2 (by omega),k+1,⟨by omega,λj hj=>?_⟩,⟨rfl,trivial⟩,rfl,by omega⟩⟩⟩⟩⟩
  .have h2:dK d=false:=by simpa using h2
   rw[xQ (by omega) hk.2 (.inl (by rw[hg];exact h2)),hg,h2];rfl
  .have h2:dK d=true:=by simpa using h2
   have h3:vT (l.take k) d=true:=by simpa using h3
   rw[xQ (by omega) hk.2 (.inr (by rw[hg];exact h3)),hg,h2];rfl
  .by_cases ji:j=k
   .subst ji;rw[hg];exact⟨by simpa using h2,by simpa using h3⟩
   .exact hk.2 j (by omega)
 .simp only[gG]at h;rw[OY λj hj=>hk.2 j (by omega)];exact⟨rfl,rfl⟩
theorem abW:aW aU.gd 184 abV:=
 kL (cx:=aU) (n:=24) (cl:=[(208,apH),(209,RU)]) aA ⟨abU,abT,trivial⟩ Tryz.func184 λd hd=>by
  obtain⟨l,⟨⟩⟩:=d;exact⟨amc l,cast (by kernel_rfl) (ahb l hd)⟩
def ciS(vs:List VD) (ms cs:List ByteArray) (fs:List FD) (e op obj n m:Int):Int:=if e≠0 then e else if 0<=pX vs ms cs fs op/\(obj < 0\/pX vs ms cs fs op<=obj) then 11 else if op=18/\(n < 0\/(ms.length:Int)<=n) then 11 else if(op=4\/op=5)/\(n < 0\/m < n) then 12 else 0
abbrev rG(i:ID):Int:=pV i.1 i.2.1 i.2.2.1 i.2.2.2.1 i.2.2.2.2.1 i.2.2.2.2.2.1 i.2.2.2.2.2.2.1 i.2.2.2.2.2.2.2.1
abbrev xR(vs:List VD) (ms cs:List ByteArray) (fs:List FD) (i:ID) (m:Int):Int:=ciS vs ms cs fs (rG i) i.1 i.2.2.2.2.1 i.2.2.2.2.2.1 m
abbrev apI:CT:={ ps:=[tK,o7,.int .i64],pre:=λd=>True,res:=λd=>([],.one (.c (.v (.int .i64 (xR d.1.1 d.1.2.1 d.1.2.2.1 d.1.2.2.2.1 d.2.1 d.2.2.1))))) }
theorem ahc(vs:List VD) (ms cs:List ByteArray) (fs:List FD) (ts:List SD) (op a b c obj n fn ord m:Int):
 let z3:=pV op a b c obj n fn ord;let z2:=ciS vs ms cs fs z3 op obj n m;let z1:=qI z2 (11:Int);True/\br (!decide (pV op a b c obj n fn ord=0)) (qI z2 z3) (True/\br (decide (0<=pX vs ms cs fs op) && (decide (obj < 0) || decide (pX vs ms cs fs op<=obj))) z1 (br (decide (op=18) && (decide (n < 0) || decide ((ms.length:Int)<=n))) z1 (br ((decide (op=4) || decide (op=5)) && (decide (n < 0) || decide (m < n))) (qI z2 (12:Int)) (qI z2 (0:Int))))):=by
 conv=>zeta
 delta qI;generalize pV op a b c obj n fn ord=e;unfold ciS;generalize pX vs ms cs fs op=o;refine⟨trivial,ah.2 ⟨λh=>⟨rfl,?_⟩,λh=>⟨trivial,ah.2 ⟨λh2=>⟨rfl,?_⟩,λh2=>ah.2 ⟨λh3=>⟨rfl,?_⟩,λh3=>ah.2 ⟨λh4=>⟨rfl,?_⟩,λh4=>⟨rfl,?_⟩⟩⟩⟩⟩⟩⟩
 all_goals simp only[Kq,zG,A8,Ee,Qi,oI,dV,gG]at *
 all_goals (congr 4;(repeat' split)<;>first | rfl | omega | (exfalso;omega))
theorem abX:aW aU.gd 190 apI:=
 kL (cx:=aU) (n:=66) (cl:=[(168,alS),(211,ajD)]) aA ⟨OI,abO,trivial⟩ Tryz.func190 λd hd=>by
  obtain⟨⟨vs,ms,cs,fs,ts,⟨⟩⟩,⟨op,a,b,c,obj,n,fn,ord,⟨⟩⟩,m,⟨⟩⟩:=d;exact⟨λ_=>none,cast (by kernel_rfl) (ahc vs ms cs fs ts op a b c obj n fn ord m)⟩
def En(vs:List VD) (ms cs:List ByteArray) (fs:List FD):Int×Int×Int:=
 if(ig (iD vs)).1≠0 then((ig (iD vs)).1,-1,-1) else if(ig ms).1≠0 then((ig ms).1,-1,-1) else if(ig cs).1≠0 then((ig cs).1,-1,-1) else((ig (jD fs)).1,(ig (jD fs)).2,-1)
theorem amd{d:List ByteArray} (hd:[iD vs,ms,cs][k]?=some d) (h:(ig d).1≠0) (hn:∀j < k,∀x,[iD vs,ms,cs][j]?=some x->(ig x).1=0):
 En vs ms cs fs=((ig d).1,-1,-1):=by
 unfold En
 match k,hd,hn with
 | 0,hd,hn=>simp at hd;subst hd;rw[if_pos h]
 | 1,hd,hn=>
   simp at hd;subst hd;have h0:=hn 0 (by omega) (iD vs) rfl
   rw[if_neg (by rw[h0];simp),if_pos h]
 | 2,hd,hn=>
   simp at hd;subst hd;have h0:=hn 0 (by omega) (iD vs) rfl
   have h1:=hn 1 (by omega) ms rfl
   rw[if_neg (by rw[h0];simp),if_neg (by rw[h1];simp),if_pos h]
 | k+3,hd,hn=>simp at hd
theorem apJ(hn:∀(j:Nat) x,[iD vs,ms,cs][j]?=some x->(ig x).1=0):En vs ms cs fs=((ig (jD fs)).1,(ig (jD fs)).2,-1):=by
 unfold En;have h0:=hn 0 (iD vs) rfl;have h1:=hn 1 ms rfl;have h2:=hn 2 cs rfl;rw[if_neg (by rw[h0];simp),if_neg (by rw[h1];simp),if_neg (by rw[h2];simp)]
abbrev ame:CT:={ ps:=[tK],pre:=λd=>d.1.1.length<=1000000/\d.1.2.1.length<=1000000/\d.1.2.2.1.length<=1000000/\d.1.2.2.2.1.length<=1000000,res:=λd=>([],.iR [.c (.v (.int .i64 ((En d.1.1 d.1.2.1 d.1.2.2.1 d.1.2.2.2.1).1))),.agg [.v (.int .i64 ((En d.1.1 d.1.2.1 d.1.2.2.1 d.1.2.2.2.1).2.1)),.v (.int .i64 ((En d.1.1 d.1.2.1 d.1.2.2.1 d.1.2.2.2.1).2.2))]]) }
abbrev amf(vs:List VD) (ms cs:List ByteArray) (fs:List FD) (ts:List SD):Nat->Option (St->kH):=λk=>match k with
 | 2=>some λ_=>.inv { α:=Nat,slots:=λk=>[(18,.c (.v (.int .i64 k)))],res:=λk=>[],inv:=λk=>k<=([iD vs,ms,cs]).length/\∀j < k,∀x,[iD vs,ms,cs][j]?=some x->(ig x).1=0,meas:=λk=>([iD vs,ms,cs]).length - k }
 | _=>none
abbrev Di:=[v6 (-1),v6 (-1)]
theorem ahd(vs:List VD) (ms cs:List ByteArray) (fs:List FD) (ts:List SD) (aH:ame.pre ((vs,ms,cs,fs,ts,()),())):
 let z3:=[iD vs,ms,cs];let z1:=[g0 (au.blk 27 [SC.sl LU vs,SC.sl Sh.str ms,SC.sl Sh.str cs,SC.sl IG fs,SC.sl nD ts]),g0 (au.blk 162 [v6 0,v6 0]),g0 au.gone,g0 (au.row 23 Sh.str.sl z3)];let z4:=En vs ms cs fs;let z2:=[cI (z4.fst),SV.agg [v6 (z4.snd.fst),v6 (z4.snd.snd)]];vs.length<=1000000/\(∃x,(x<=z3.length/\∀(j:Nat),j < x->∀(x:List ByteArray),z3[j]?=some x->(ig x).fst=0)/\(cI 0=cI (x:Int)/\True)/\sm z1)/\∀(x:Nat),(x<=z3.length/\∀(j:Nat),j < x->∀(x:List ByteArray),z3[j]?=some x->(ig x).fst=0)->br (decide ((x:Int) < (z3.length:Int))) ((0<=(x:Int)/\(x:Int) < (z3.length:Int))/\(x:Int).toNat < z3.length/\∀(d:List ByteArray),z3[(x:Int).toNat]?=some d->d.length<=1000000/\br (!decide ((ig d).fst=0)) (rT z2 [cI ((ig d).fst),SV.agg Di]) (dX IntKind.i64 ((x:Int)+(1:Int))/\∃x',(x'<=z3.length/\∀(j:Nat),j < x'->∀(x:List ByteArray),z3[j]?=some x->(ig x).fst=0)/\(cI ((x:Int)+(1:Int))=cI (x':Int)/\True)/\sm z1/\z3.length - x' < z3.length - x)) (fs.length<=1000000/\(jD fs).length<=1000000/\rT z2 [cI ((ig (jD fs)).fst),SV.agg [v6 ((ig (jD fs)).snd),v6 (-1)]]):=by
 conv=>zeta
 delta Di v6 cI g0 rT sm I6;obtain⟨hp1,hp2,hp3,hp4⟩:vs.length<=1000000/\ms.length<=1000000/\cs.length<=1000000/\fs.length<=1000000:=aH;refine⟨hp1,?_⟩;refine⟨⟨0,⟨by omega,λj hj=>by omega⟩,⟨rfl,trivial⟩,rfl⟩,λk hk=>ah.2 ⟨λh=>?_,λh=>?_⟩⟩
 .have h3:k < 3:=by simp at h;omega
  have h:k < [iD vs,ms,cs].length:=h3;have hN:(k:Int).toNat=k:=by omega
  rw[hN];refine⟨⟨by omega,by omega⟩,h,λd hd=>⟨?_,ah.2 ⟨λh2=>⟨rfl,?_⟩,λh2=>⟨ay.2 (by omega),k+1,⟨by omega,λj hj x hx=>?_⟩,⟨rfl,trivial⟩,rfl,by omega⟩⟩⟩⟩
  .have:d∈[iD vs,ms,cs]:=iJ hd;simp only[mM,List.not_mem_nil,or_false]at this;rcases this with rfl | rfl | rfl
   .simpa[iD]using hp1
   .exact hp2
   .exact hp3
  .rw[amd hd (by simpa using h2) hk.2]
  .by_cases ji:j=k
   .subst ji;rw[hd]at hx;cases hx;simpa using h2
   .exact hk.2 j (by omega) x hx
 .have h:¬k < [iD vs,ms,cs].length:=by
   have:¬k < 3:=by simp at h;omega
   exact this
  refine⟨hp4,by simpa[jD]using hp4,rfl,?_⟩
  rw[apJ λj x hx=>hk.2 j (by have:=(eU.1 hx).1;omega) x hx]
theorem abY:aW aU.gd 143 ame:=
 kL (cx:=aU) (n:=41) (cl:=[(183,RN),(184,abV),(185,RP)]) aA ⟨abP,abW,abQ,trivial⟩ Tryz.func143 λd hd=>by
  obtain⟨⟨vs,ms,cs,fs,ts,⟨⟩⟩,⟨⟩⟩:=d;exact⟨amf vs ms cs fs ts,cast (by kernel_rfl) (ahd vs ms cs fs ts hd)⟩
def BX(vs:List VD) (ms cs:List ByteArray) (fs:List FD):Int:=if 8 < vs.length\/4 < ms.length\/4 < cs.length\/8 < fs.length then 4 else if vs.all λv=>dh v.2.1 then 0 else 2
abbrev apK:CT:={ ps:=[tK],pre:=λd=>True,res:=λd=>([],.iR [.c (.v (.int .i64 (BX d.1.1 d.1.2.1 d.1.2.2.1 d.1.2.2.2.1))),.agg [.v (.int .i64 (-1)),.v (.int .i64 (-1))]]) }
abbrev amg(vs:List VD) (ms cs:List ByteArray) (fs:List FD) (ts:List SD):Nat->Option (St->kH):=λk=>match k with
 | 5=>some λ_=>.inv { α:=Nat,slots:=λk=>[(34,.c (.v (.int .i64 k)))],res:=λk=>[],inv:=λk=>k<=(vs).length/\∀j < k,∀v,vs[j]?=some v->dh v.2.1=true,meas:=λk=>(vs).length - k }
 | _=>none
abbrev abZ:=[cI 0,SV.agg [v6 (-1),v6 (-1)]]
theorem ahe(vs:List VD) (ms cs:List ByteArray) (fs:List FD) (ts:List SD):
 let z3:=[cI (BX vs ms cs fs),SV.agg Di];let z2:=λ(x:Nat)=>(x<=vs.length/\∀(j:Nat),j < x->∀(v:ByteArray×Int×Unit),vs[j]?=some v->dh v.snd.fst=true);let z1:=[g0 (au.blk 27 [SC.sl LU vs,SC.sl Sh.str ms,SC.sl Sh.str cs,SC.sl IG fs,SC.sl nD ts]),g0 (au.blk 162 [v6 0,v6 0]),g0 (au.blk 162 Di)];br (decide (8 < (vs.length:Int)) || decide (4 < (ms.length:Int)) || decide (4 < (cs.length:Int)) || decide (8 < (fs.length:Int))) (rT z3 [cI 4,SV.agg Di]) ((∃x,(z2 x)/\(cI 0=cI (x:Int)/\True)/\sm z1)/\∀(x:Nat),(z2 x)->br (decide ((x:Int) < (vs.length:Int))) ((0<=(x:Int)/\(x:Int) < (vs.length:Int))/\∀(d:ByteArray×(I6.pair Sh.unit).den),vs[(x:Int).toNat]?=some d->True/\br (!dh (d.snd.fst,()).fst) (rT z3 [cI 2,SV.agg Di]) (dX IntKind.i64 ((x:Int)+(1:Int))/\∃x',(z2 x')/\(cI ((x:Int)+(1:Int))=cI (x':Int)/\True)/\sm z1/\vs.length - x' < vs.length - x)) (rT z3 abZ)):=by
 conv=>zeta
 delta Di abZ v6 cI g0 rT sm I6
 by_cases hc:8 < vs.length\/4 < ms.length\/4 < cs.length\/8 < fs.length
 .have e:BX vs ms cs fs=4:=by unfold BX;rw[if_pos hc]
  rw[e];refine ah.2 ⟨λ_=>⟨rfl,rfl⟩,λh=>?_⟩
  simp only[oI,gG]at h;omega
 refine ah.2 ⟨λh=>?_,λh=>⟨⟨0,⟨by omega,λj hj=>by omega⟩,⟨rfl,trivial⟩,rfl⟩,λk hk=>ah.2 ⟨λh2=>?_,λh2=>?_⟩⟩⟩
 .simp only[Ee,dV]at h;omega
 .simp only[dV]at h2;have hN:(k:Int).toNat=k:=by omega
  rw[hN];refine⟨by omega,λd hd=>⟨trivial,ah.2 ⟨λh3=>⟨rfl,?_⟩,λh3=>⟨ay.2 (by omega),k+1,⟨by omega,λj hj v hv=>?_⟩,⟨rfl,trivial⟩,rfl,by omega⟩⟩⟩⟩
  .have h3:dh d.2.1=false:=by simpa using h3
   have e:BX vs ms cs fs=2:=by
    unfold BX;rw[if_neg hc,if_neg];intro hh;rw[Ti]at hh;have:=hh d (iJ hd);rw[h3]at this;cases this
   rw[e]
  .have h3:dh d.2.1=true:=by simpa using h3
   by_cases ji:j=k
   .subst ji;rw[hd]at hv;cases hv;exact h3
   .exact hk.2 j (by omega) v hv
 .simp only[gG]at h2;have e:BX vs ms cs fs=0:=by
   unfold BX;rw[if_neg hc,if_pos];rw[Ti];intro v hv;obtain⟨j,hj⟩:=II hv;exact hk.2 j (by have:=(eU.1 hj).1;omega) v hj
  rw[e];exact⟨rfl,rfl⟩
theorem ab1:aW aU.gd 144 apK:=
 kL (cx:=aU) (n:=45) (cl:=[(186,abN)]) aA ⟨OW,trivial⟩ Tryz.func144 λd hd=>by
  obtain⟨⟨vs,ms,cs,fs,ts,⟨⟩⟩,⟨⟩⟩:=d;exact⟨amg vs ms cs fs ts,cast (by kernel_rfl) (ahe vs ms cs fs ts)⟩
def EO(n:Nat) (t:SD):Int:=if t.1 < 0\/(n:Int)<=t.1 then 11 else if dh t.2.1 then 0 else 2
def EP(fs:List FD) (ts:List SD):Int:=if ts.length < 1\/8 < ts.length then 4 else match ts.find? (λt=>decide (EO fs.length t≠0)) with | some t=>EO fs.length t | none=>0
theorem zo{α:Type}{l:List α}{p:α->Bool}{d:α} (hd:l[k]?=some d) (hp:p d=true) (hn:∀j < k,∀t,l[j]?=some t->p t=false):l.find? p=some d:=by
 induction l generalizing k with
 | nil=>simp at hd
 | cons x l ih=>
   cases k with
   | zero=>simp at hd;subst hd;simp[hp]
   | succ k=>
     have h0:=hn 0 (by omega) x (by simp)
     rw[List.find?_cons,h0];exact ih (by simpa using hd) λj hj t ht=>hn (j+1) (by omega) t (by simpa using ht)
theorem UF{α:Type}{l:List α}{p:α->Bool} (hn:∀(j:Nat) t,l[j]?=some t->p t=false):l.find? p=none:=by
 rw[Yk];intro x hx;obtain⟨j,hj⟩:=II hx;rw[hn j x hj];simp
theorem Bg{d:SD} (hc:¬(ts.length < 1\/8 < ts.length)) (hd:ts[k]?=some d) (h:EO fs.length d≠0) (hn:∀j < k,∀t,ts[j]?=some t->EO fs.length t=0):EP fs ts=EO fs.length d:=by
 unfold EP;rw[if_neg hc,zo hd (by simpa using h) λj hj t ht=>by simpa using hn j hj t ht]
theorem UG(hc:¬(ts.length < 1\/8 < ts.length)) (hn:∀(j:Nat) t,ts[j]?=some t->EO fs.length t=0):EP fs ts=0:=by
 unfold EP;rw[if_neg hc,UF λj t ht=>by simpa using hn j t ht]
abbrev apL:CT:={ ps:=[tK],pre:=λd=>True,res:=λd=>([],.iR [.c (.v (.int .i64 (EP d.1.2.2.2.1 d.1.2.2.2.2.1))),.agg [.v (.int .i64 (-1)),.v (.int .i64 (-1))]]) }
abbrev amh(vs:List VD) (ms cs:List ByteArray) (fs:List FD) (ts:List SD):Nat->Option (St->kH):=λk=>match k with
 | 5=>some λ_=>.inv { α:=Nat,slots:=λk=>[(22,.c (.v (.int .i64 k)))],res:=λk=>[],inv:=λk=>k<=(ts).length/\∀j < k,∀t,ts[j]?=some t->EO fs.length t=0,meas:=λk=>(ts).length - k }
 | _=>none
theorem ahf(vs:List VD) (ms cs:List ByteArray) (fs:List FD) (ts:List SD):
 let z3:=[cI (EP fs ts),SV.agg Di];let z2:=λ(x:Nat)=>(x<=ts.length/\∀(j:Nat),j < x->∀(t:Int×Int×Unit),ts[j]?=some t->EO fs.length t=0);let z1:=[g0 (au.blk 27 [SC.sl LU vs,SC.sl Sh.str ms,SC.sl Sh.str cs,SC.sl IG fs,SC.sl nD ts]),g0 (au.blk 162 [v6 0,v6 0]),g0 (au.blk 162 Di)];br (decide ((ts.length:Int) < (1:Int)) || decide (8 < (ts.length:Int))) (rT z3 [cI 4,SV.agg Di]) ((∃x,(z2 x)/\(cI 0=cI (x:Int)/\True)/\sm z1)/\∀(x:Nat),(z2 x)->br (decide ((x:Int) < (ts.length:Int))) ((0<=(x:Int)/\(x:Int) < (ts.length:Int))/\∀(d:Int×(I6.pair Sh.unit).den),ts[(x:Int).toNat]?=some d->br (decide (d.fst < 0) || decide ((fs.length:Int)<=d.fst)) (rT z3 [cI 11,SV.agg Di]) (True/\br (!dh (d.snd.fst,()).fst) (rT z3 [cI 2,SV.agg Di]) (dX IntKind.i64 ((x:Int)+(1:Int))/\∃x',(z2 x')/\(cI ((x:Int)+(1:Int))=cI (x':Int)/\True)/\sm z1/\ts.length - x' < ts.length - x))) (rT z3 abZ)):=by
 conv=>zeta
 delta Di abZ v6 cI g0 rT sm I6
 by_cases hc:ts.length < 1\/8 < ts.length
 .have e:EP fs ts=4:=by unfold EP;rw[if_pos hc]
  rw[e];refine ah.2 ⟨λ_=>⟨rfl,rfl⟩,λh=>?_⟩
  simp only[oI,gG]at h;omega
 refine ah.2 ⟨λh=>?_,λh=>⟨⟨0,⟨by omega,λj hj=>by omega⟩,⟨rfl,trivial⟩,rfl⟩,λk hk=>ah.2 ⟨λh2=>?_,λh2=>?_⟩⟩⟩
 .simp only[Ee,dV]at h;omega
 .simp only[dV]at h2;have hN:(k:Int).toNat=k:=by omega
  rw[hN];refine⟨by omega,λd hd=>ah.2 ⟨λh3=>⟨rfl,?_⟩,λh3=>⟨trivial,ah.2 ⟨λh4=>⟨rfl,?_⟩,λh4=>⟨ay.2 (by omega),k+1,⟨by omega,λj hj v hv=>?_⟩,⟨rfl,trivial⟩,rfl,by omega⟩⟩⟩⟩⟩
  .have h3:d.1 < 0\/(fs.length:Int)<=d.1:=by simpa using h3
   have e:EO fs.length d=11:=by unfold EO;rw[if_pos h3]
   rw[Bg hc hd (by rw[e];simp) hk.2,e]
  .have h3:¬(d.1 < 0\/(fs.length:Int)<=d.1):=by simpa using h3
   have h4:dh d.2.1=false:=by simpa using h4
   have e:EO fs.length d=2:=by unfold EO;rw[if_neg h3,if_neg (by rw[h4];simp)]
   rw[Bg hc hd (by rw[e];simp) hk.2,e]
  .have h3:¬(d.1 < 0\/(fs.length:Int)<=d.1):=by simpa using h3
   have h4:dh d.2.1=true:=by simpa using h4
   by_cases ji:j=k
   .subst ji;rw[hd]at hv;cases hv;unfold EO;rw[if_neg h3,if_pos h4]
   .exact hk.2 j (by omega) v hv
 .simp only[gG]at h2;rw[UG hc λj t hj=>hk.2 j (by have:=(eU.1 hj).1;omega) t hj];exact⟨rfl,rfl⟩
theorem ab2:aW aU.gd 146 apL:=
 kL (cx:=aU) (n:=45) (cl:=[(186,abN)]) aA ⟨OW,trivial⟩ Tryz.func146 λd hd=>by
  obtain⟨⟨vs,ms,cs,fs,ts,⟨⟩⟩,⟨⟩⟩:=d;exact⟨amh vs ms cs fs ts,cast (by kernel_rfl) (ahf vs ms cs fs ts)⟩
abbrev ab3:CT:={ ps:=[IG],pre:=λd=>True,res:=λd=>([],vB (decide (64 < d.1.2.1.length))) }
theorem ahg(nm:ByteArray) (l:List ID):
 qB (decide (64 < l.length)) (decide (64 < (l.length:Int))):=by
 delta qB;refine⟨rfl,?_⟩
 congr 4
 rw[MZ];simp only[dV];omega
theorem ab4:aW aU.gd 188 ab3:=
 kL (cx:=aU) (n:=7) (cl:=[]) aA trivial Tryz.func188 λd hd=>by
  obtain⟨⟨nm,l,⟨⟩⟩,⟨⟩⟩:=d;exact⟨λ_=>none,cast (by kernel_rfl) (ahg nm l)⟩
def dL(fs:List FD):Int:=match fs.findIdx? (λf=>decide (64 < f.2.1.length)) with | some k=>(k:Int) | none=>-1
theorem Hr{d:FD} (hd:fs[k]?=some d) (h2:64 < d.2.1.length) (hn:∀j < k,∀f,fs[j]?=some f->f.2.1.length<=64):dL fs=k:=by
 have iq:k < fs.length:=(eU.1 hd).1;have:fs.findIdx? (λf=>decide (64 < f.2.1.length))=some k:=by
  rw[A50];refine⟨iq,by rw[(eU.1 hd).2];simpa using h2,λj hj=>?_⟩
  have:=hn j hj fs[j] (kP (by omega))
  simpa using this
 simp[dL,this]
theorem Dj(hn:∀(j:Nat) f,fs[j]?=some f->f.2.1.length<=64):dL fs = -1:=by
 have:fs.findIdx? (λf=>decide (64 < f.2.1.length))=none:=by
  rw[A71];intro y hy;obtain⟨j,hj⟩:=II hy;simpa using hn j y hj
 simp[dL,this]
abbrev LX:CT:={ ps:=[.sl IG],pre:=λd=>d.1.length<=1000000,res:=λd=>([],.one (.c (.v (.int .i64 (dL d.1))))) }
abbrev ami(fs:List FD):Nat->Option (St->kH):=λk=>match k with
 | 2=>some λ_=>.inv { α:=Nat,slots:=λk=>[(8,.c (.v (.int .i64 k)))],res:=λk=>[],inv:=λk=>k<=(fs).length/\∀j < k,∀f,fs[j]?=some f->f.2.1.length<=64,meas:=λk=>(fs).length - k }
 | _=>none
theorem ahh(fs:List FD) (aH:LX.pre (fs,())):
 let z1:=λ(x:Nat)=>(x<=fs.length/\∀(j:Nat),j < x->∀(f:ByteArray×List ID×Unit),fs[j]?=some f->f.snd.fst.length<=64);(∃x,(z1 x)/\(cI 0=cI (x:Int)/\True)/\([]:List fH)=[])/\∀(x:Nat),(z1 x)->br (decide ((x:Int) < (fs.length:Int))) ((0<=(x:Int)/\(x:Int) < (fs.length:Int))/\∀(d:ByteArray×(o7.sl.pair Sh.unit).den),fs[(x:Int).toNat]?=some d->True/\br (decide (64 < List.length (d.snd.fst,()).fst)) (qI (dL fs) (x:Int)) (dX IntKind.i64 ((x:Int)+(1:Int))/\∃x',(z1 x')/\(cI ((x:Int)+(1:Int))=cI (x':Int)/\True)/\([]:List fH)=[]/\fs.length - x' < fs.length - x)) (qI (dL fs) (-1:Int)):=by
 conv=>zeta
 delta fH cI qI I6;have hp:fs.length<=1000000:=aH;refine⟨⟨0,⟨by omega,λj hj=>by omega⟩,⟨rfl,trivial⟩,rfl⟩,λk hk=>ah.2 ⟨λh=>?_,λh=>?_⟩⟩
 .simp only[dV]at h;have hN:(k:Int).toNat=k:=by omega
  rw[hN];refine⟨by omega,λd hd=>⟨trivial,ah.2 ⟨λh2=>⟨rfl,?_⟩,λh2=>⟨ay.2 (by omega),k+1,⟨by omega,λj hj f hf=>?_⟩,⟨rfl,trivial⟩,rfl,by omega⟩⟩⟩⟩
  .have h2:64 < d.2.1.length:=by simpa using h2
   rw[Hr hd h2 hk.2]
  .have h2:¬64 < d.2.1.length:=by simpa using h2
   by_cases ji:j=k
   .subst ji;rw[hd]at hf;cases hf;omega
   .exact hk.2 j (by omega) f hf
 .simp only[gG]at h;rw[Dj λj f hf=>hk.2 j (by have:=(eU.1 hf).1;omega) f hf];exact⟨rfl,rfl⟩
theorem XJ:LC Tryz.prog aU.gd 187 [.func (.func 188) #[] #[]] LX:=
 (oP (cx:=aU) (n:=19) (cl:=[(188,ab3)]) (il:=Yd) (hl:=hlN) (ml:=mlN) (rc:=[]) (lits:=[]) (suf:=[.func (.func 188) #[] #[]]) (by kernel_rfl) aA ⟨ab4,trivial⟩ trivial trivial trivial Tryz.func187 (by kernel_rfl) (by kernel_rfl) rfl (by kernel_rfl) (by kernel_rfl) (by simp) λd hd=>by
  obtain⟨fs,⟨⟩⟩:=d;exact⟨ami fs,cast (by kernel_rfl) (ahh fs hd)⟩)
def LY(vs:List VD) (ms cs:List ByteArray) (fs:List FD) (d:bV [nD,o7]):Int:=xR vs ms cs fs d.2.1 (((fs.getD d.1.1.toNat (⟨#[]⟩,[],())).2.1.length:Nat):Int)
def Ht(vs:List VD) (ms cs:List ByteArray) (fs:List FD):Int×Int×Int:=match(dR fs).find? (λd=>decide (d.1.1=dL fs) || decide (LY vs ms cs fs d≠0)) with
 | some d=>if d.1.1=dL fs then(4,dL fs,-1) else(LY vs ms cs fs d,d.1.1,d.1.2.1)
 | none=>if 0<=dL fs then(4,dL fs,-1) else(0,-1,-1)
theorem UH{e:FD} (he:fs[d.1.1.toNat]?=some e):LY vs ms cs fs d=xR vs ms cs fs d.2.1 (e.2.1.length:Int):=by
 unfold LY;rw[Jk,he];rfl
theorem xU:∀(l:List FD) (n:Nat){d:bV [nD,o7]},d∈jX n l->∃(k:Nat) (x:FD) (j:Nat) (e:ID),l[k]?=some x/\x.2.1[j]?=some e/\d=((((n+k:Nat):Int),(j:Int),()),e,())
 | [],n,d,h=>by simp[jX]at h
 | x :: l,n,d,h=>by
   simp only[jX,Et]at h;rcases h with h | h
   .unfold qQ at h;obtain⟨p,hp,rfl⟩:=Qn.1 h;have:=List.mk_mem_zipIdx_iff_getElem?.1 (show(p.1,p.2)∈x.2.1.zipIdx from hp)
    exact⟨0,x,p.2,p.1,rfl,this,rfl⟩
   .obtain⟨k,y,j,e,h1,h2,rfl⟩:=xU l (n+1) h;exact⟨k+1,y,j,e,by simpa using h1,h2,by rw[show n+1+k=n+(k+1) by omega]⟩
theorem OZ{i:Nat} (hd:(dR fs)[i]?=some d):0<=d.1.1/\d.1.1 < fs.length:=by
 obtain⟨k,x,j,e,h1,h2,rfl⟩:=xU fs 0 (iJ hd);have:=(eU.1 h1).1;show 0<=((0+k:Nat):Int)/\((0+k:Nat):Int) < _;omega
theorem UJ{i:Nat} (hd:(dR fs)[i]?=some d) (hb:d.1.1=dL fs\/LY vs ms cs fs d≠0)
 (hn:∀j < i,∀d,(dR fs)[j]?=some d->d.1.1≠dL fs/\LY vs ms cs fs d=0):Ht vs ms cs fs=if d.1.1=dL fs then(4,dL fs,-1) else(LY vs ms cs fs d,d.1.1,d.1.2.1):=by
 unfold Ht;rw[zo hd (by simpa using hb) λj hj t ht=>by obtain⟨a,b⟩:=hn j hj t ht;simp[a,b]]
theorem RX(hn:∀(j:Nat) d,(dR fs)[j]?=some d->d.1.1≠dL fs/\LY vs ms cs fs d=0):Ht vs ms cs fs=if 0<=dL fs then(4,dL fs,-1) else(0,-1,-1):=by
 unfold Ht;rw[UF λj t ht=>by obtain⟨a,b⟩:=hn j t ht;simp[a,b]]
abbrev amj:CT:={ ps:=[tK],pre:=λd=>d.1.2.2.2.1.length<=1000000/\∀x∈d.1.2.2.2.1,x.2.1.length<=1000000,res:=λd=>([],.iR [.c (.v (.int .i64 ((Ht d.1.1 d.1.2.1 d.1.2.2.1 d.1.2.2.2.1).1))),.agg [.v (.int .i64 ((Ht d.1.1 d.1.2.1 d.1.2.2.1 d.1.2.2.2.1).2.1)),.v (.int .i64 ((Ht d.1.1 d.1.2.1 d.1.2.2.1 d.1.2.2.2.1).2.2))]]) }
abbrev amk(vs:List VD) (ms cs:List ByteArray) (fs:List FD) (ts:List SD):Nat->Option (St->kH):=λk=>match k with
 | 5=>some λ_=>.rng { α:=Nat,res:=λ_=>[],inv:=λi n=>n=i/\∀j < n,∀d,(dR fs)[j]?=some d->d.1.1≠dL fs/\LY vs ms cs fs d=0 }
 | _=>none
abbrev apM:List (Nat×Nat×CT):=[(187,188,LX)]
theorem ahi(vs:List VD) (ms cs:List ByteArray) (fs:List FD) (ts:List SD) (aH:amj.pre ((vs,ms,cs,fs,ts,()),())):
 let z5:=[g0 (au.blk 27 [SC.sl LU vs,SC.sl Sh.str ms,SC.sl Sh.str cs,SC.sl IG fs,SC.sl nD ts]),g0 (au.blk 38 [v6 0]),g0 (au.blk 162 [v6 0,v6 0]),g0 (au.blk 3 [v6 (dL fs)])];let z11:=Ht vs ms cs fs;let z9:=[cI (z11.fst),SV.agg [v6 (z11.snd.fst),v6 (z11.snd.snd)]];let z10:=[cI 4,SV.agg [v6 (dL fs),v6 (-1)]];let z3:=((rT z9 z10)/\rT z9 z10)/\rT z9 z10;let z8:=rT z9 abZ;let z4:=λ(d:nD.den×bV [I6.pair (I6.pair (I6.pair (I6.pair (I6.pair (I6.pair nD)))))])=>(d.snd.fst.fst,d.snd.fst.snd.fst,d.snd.fst.snd.snd.fst,d.snd.fst.snd.snd.snd.fst,d.snd.fst.snd.snd.snd.snd.fst,d.snd.fst.snd.snd.snd.snd.snd.fst,d.snd.fst.snd.snd.snd.snd.snd.snd.fst,d.snd.fst.snd.snd.snd.snd.snd.snd.snd.fst,());let z6:=λ(d:nD.den×bV [I6.pair (I6.pair (I6.pair (I6.pair (I6.pair (I6.pair nD)))))])=>(d.snd.fst.snd.snd.snd.snd.fst,d.snd.fst.snd.snd.snd.snd.snd.fst,d.snd.fst.snd.snd.snd.snd.snd.snd.fst,d.snd.fst.snd.snd.snd.snd.snd.snd.snd.fst,());let z7:=λ(d:nD.den×bV [I6.pair (I6.pair (I6.pair (I6.pair (I6.pair (I6.pair nD)))))])=>(d.snd.fst.snd.snd.snd.snd.snd.fst,d.snd.fst.snd.snd.snd.snd.snd.snd.fst,d.snd.fst.snd.snd.snd.snd.snd.snd.snd.fst,());let z2:=λ(d:nD.den×bV [I6.pair (I6.pair (I6.pair (I6.pair (I6.pair (I6.pair nD)))))])=>pV (z4 d).fst (d.snd.fst.snd.fst,d.snd.fst.snd.snd.fst,d.snd.fst.snd.snd.snd.fst,d.snd.fst.snd.snd.snd.snd.fst,d.snd.fst.snd.snd.snd.snd.snd.fst,d.snd.fst.snd.snd.snd.snd.snd.snd.fst,d.snd.fst.snd.snd.snd.snd.snd.snd.snd.fst,()).fst (d.snd.fst.snd.snd.fst,d.snd.fst.snd.snd.snd.fst,d.snd.fst.snd.snd.snd.snd.fst,d.snd.fst.snd.snd.snd.snd.snd.fst,d.snd.fst.snd.snd.snd.snd.snd.snd.fst,d.snd.fst.snd.snd.snd.snd.snd.snd.snd.fst,()).fst (d.snd.fst.snd.snd.snd.fst,d.snd.fst.snd.snd.snd.snd.fst,d.snd.fst.snd.snd.snd.snd.snd.fst,d.snd.fst.snd.snd.snd.snd.snd.snd.fst,d.snd.fst.snd.snd.snd.snd.snd.snd.snd.fst,()).fst (z6 d).fst (z7 d).fst (d.snd.fst.snd.snd.snd.snd.snd.snd.fst,d.snd.fst.snd.snd.snd.snd.snd.snd.snd.fst,()).fst (d.snd.fst.snd.snd.snd.snd.snd.snd.snd.fst,()).fst;let z1:=λ(d:nD.den×bV [I6.pair (I6.pair (I6.pair (I6.pair (I6.pair (I6.pair nD)))))]) (dJ:ByteArray×(o7.sl.pair Sh.unit).den)=>[cI (ciS vs ms cs fs (z2 d) (z4 d).fst (z6 d).fst (z7 d).fst ((List.length dJ.snd.fst):Int)),SV.agg [v6 d.fst.fst,v6 d.fst.snd.fst]];fs.length<=1000000/\(fs.length<=1000000/\∀(x:ByteArray×(o7.sl.pair Sh.unit).den),x∈fs->List.length x.snd.fst<=1000000)/\some Tryz.prog=some Tryz.prog/\(∃x,(x=0/\∀(j:Nat),j < x->∀(d:nD.den×bV [I6.pair (I6.pair (I6.pair (I6.pair (I6.pair (I6.pair nD)))))]),(dR fs)[j]?=some d->d.fst.fst≠dL fs/\LY vs ms cs fs d=0)/\sm z5)/\(∀(i x:Nat) (d:nD.den×bV [I6.pair (I6.pair (I6.pair (I6.pair (I6.pair (I6.pair nD)))))]),(x=i/\∀(j:Nat),j < x->∀(d:nD.den×bV [I6.pair (I6.pair (I6.pair (I6.pair (I6.pair (I6.pair nD)))))]),(dR fs)[j]?=some d->d.fst.fst≠dL fs/\LY vs ms cs fs d=0)->(dR fs)[i]?=some d->br (decide (d.fst.fst=dL fs)) (br (decide (0<=dL fs)) z3 z8) ((0<=d.fst.fst/\d.fst.fst < (fs.length:Int))/\∀(dJ:ByteArray×(o7.sl.pair Sh.unit).den),fs[Int.toNat d.fst.fst]?=some dJ->True/\br (!decide (ciS vs ms cs fs (z2 d) (z4 d).fst (z6 d).fst (z7 d).fst ((List.length dJ.snd.fst):Int)=(0:Int))) ((rT z9 (z1 d dJ))/\rT z9 (z1 d dJ)) (∃x',(x'=i+1/\∀(j:Nat),j < x'->∀(d:nD.den×bV [I6.pair (I6.pair (I6.pair (I6.pair (I6.pair (I6.pair nD)))))]),(dR fs)[j]?=some d->d.fst.fst≠dL fs/\LY vs ms cs fs d=0)/\sm z5)))/\∀(x:Nat),(x=aP (dR fs)/\∀(j:Nat),j < x->∀(d:nD.den×bV [I6.pair (I6.pair (I6.pair (I6.pair (I6.pair (I6.pair nD)))))]),(dR fs)[j]?=some d->d.fst.fst≠dL fs/\LY vs ms cs fs d=0)->br (decide (0<=dL fs)) z3 z8:=by
 conv=>zeta
 delta v6 cI g0 rT sm I6;refine⟨aH.1,aH,rfl,⟨0,⟨rfl,λj hj=>by omega⟩,rfl⟩,λi x d hi hd=>?_,λx hx=>?_⟩
 .obtain⟨rfl,hi⟩:=hi;refine ah.2 ⟨λh=>?_,λh=>?_⟩
  .have h:d.1.1=dL fs:=by simpa using h
   obtain⟨hb1,hb2⟩:=OZ hd;have hl:(0:Int)<=dL fs:=by rw[<-h];exact hb1
   rw[UJ hd (.inl h) hi,if_pos h];exact ah.2 ⟨λ_=>⟨⟨⟨rfl,rfl⟩,rfl,rfl⟩,rfl,rfl⟩,λhh=>absurd hl (A93 hh)⟩
  .have h:¬d.1.1=dL fs:=by simpa using h
   obtain⟨hb1,hb2⟩:=OZ hd;refine⟨⟨hb1,hb2⟩,λe he=>⟨trivial,ah.2 ⟨λh2=>?_,λh2=>⟨x+1,⟨rfl,λj hj d' hd'=>?_⟩,rfl⟩⟩⟩⟩
   .have h2:LY vs ms cs fs d≠0:=by rw[UH he];simpa using h2
    rw[UJ hd (.inr h2) hi,if_neg h,UH he];exact⟨⟨rfl,rfl⟩,rfl,rfl⟩
   .by_cases hji:j=x
    .subst hji;rw[hd]at hd';cases hd';exact⟨h,by rw[UH he];simpa using h2⟩
    .exact hi j (by omega) d' hd'
 .obtain⟨rfl,hx⟩:=hx;refine ah.2 ⟨λh=>?_,λh=>?_⟩
  .have h:(0:Int)<=dL fs:=by simpa using h
   rw[RX λj d hd=>hx j (by rw[bD];exact(eU.1 hd).1) d hd,if_pos h]
   exact⟨⟨⟨rfl,rfl⟩,rfl,rfl⟩,rfl,rfl⟩
  .have h:¬(0:Int)<=dL fs:=by simpa using h
   rw[RX λj d hd=>hx j (by rw[bD];exact(eU.1 hd).1) d hd,if_neg h]
   exact⟨rfl,rfl⟩
theorem ab5:aW aU.gd 145 amj:=
 (oP (cx:=aU) (n:=39) (cl:=[(189,LV),(190,apI)]) (il:=Yd) (hl:=apM) (ml:=mlN) (rc:=[]) (lits:=[]) (suf:=[]) (by kernel_rfl) aA ⟨abL,abX,trivial⟩ trivial ⟨XJ,trivial⟩ trivial Tryz.func145 (by kernel_rfl) (by kernel_rfl) rfl (by kernel_rfl) (by kernel_rfl) (by simp) λd hd=>by
  obtain⟨⟨vs,ms,cs,fs,ts,⟨⟩⟩,⟨⟩⟩:=d;exact⟨amk vs ms cs fs ts,cast (by kernel_rfl) (ahi vs ms cs fs ts hd)⟩).met
abbrev bnd(d:bV [tK]):Prop:=d.1.1.length<=1000000/\d.1.2.1.length<=1000000/\d.1.2.2.1.length<=1000000/\d.1.2.2.2.1.length<=1000000/\d.1.2.2.2.2.1.length<=1000000/\(∀x∈d.1.2.2.2.1,x.2.1.length<=1000000)/\(dR d.1.2.2.2.1).length<=1000000
def aF(vs:List VD) (ms cs:List ByteArray) (fs:List FD) (ts:List SD):Int×Int×Int:=
 if(En vs ms cs fs).1≠0 then En vs ms cs fs else if BX vs ms cs fs≠0 then(BX vs ms cs fs,-1,-1) else if(Ht vs ms cs fs).1≠0 then Ht vs ms cs fs else if EP fs ts≠0 then(EP fs ts,-1,-1) else(0,-1,-1)
abbrev JU:CT:={ ps:=[tK],pre:=λd=>bnd d,res:=λd=>([],.iR [.c (.v (.int .i64 (aF d.1.1 d.1.2.1 d.1.2.2.1 d.1.2.2.2.1 d.1.2.2.2.2.1).1)),.c (.v (.int .i64 (aF d.1.1 d.1.2.1 d.1.2.2.1 d.1.2.2.2.1 d.1.2.2.2.2.1).2.1)),.c (.v (.int .i64 (aF d.1.1 d.1.2.1 d.1.2.2.1 d.1.2.2.2.1 d.1.2.2.2.2.1).2.2))]) }
theorem aml(vs:List VD) (ms cs:List ByteArray) (fs:List FD) (ts:List SD) (aH:JU.pre ((vs,ms,cs,fs,ts,()),())):
 let z10:=En vs ms cs fs;let z7:=z10.fst=0;let z5:=decide z7;let z6:=decide (BX vs ms cs fs=0);let z11:=Ht vs ms cs fs;let z8:=z11.fst=0;let z9:=aF vs ms cs fs ts;let z4:=[cI (z9.fst),cI (z9.snd.fst),cI (z9.snd.snd)];let z3:=rT z4 [cI 0,cI (-1),cI (-1)];let z2:=True/\br (!decide (EP fs ts=0)) (rT z4 [cI (EP fs ts),cI (-1),cI (-1)]) z3;let z1:=(fs.length<=1000000/\∀(x:ByteArray×(o7.sl.pair Sh.unit).den),x∈fs->List.length x.snd.fst<=1000000)/\br (decide z8) z2 (br (!decide z8) (rT z4 [cI (z11.fst),cI (z11.snd.fst),cI (z11.snd.snd)]) z3);(vs.length<=1000000/\ms.length<=1000000/\cs.length<=1000000/\fs.length<=1000000)/\br z5 (True/\br z6 z1 (br z6 z2 (br (!decide (BX vs ms cs fs=0)) (rT z4 [cI (BX vs ms cs fs),cI (-1),cI (-1)]) z3))) (br z5 z1 (br z5 z2 (br (!decide z7) (rT z4 [cI (z10.fst),cI (z10.snd.fst),cI (z10.snd.snd)]) z3))):=by
 conv=>zeta
 delta cI rT I6;obtain⟨h1,h2,h3,h4,h5,h6,h7⟩:bnd ((vs,ms,cs,fs,ts,()),()):=aH;have hA:∀x∈fs,x.2.1.length<=1000000:=h6;have hB:fs.length<=1000000/\∀x∈fs,x.2.1.length<=1000000:=⟨h4,h6⟩;have hC:vs.length<=1000000/\ms.length<=1000000/\cs.length<=1000000/\fs.length<=1000000:=⟨h1,h2,h3,h4⟩;clear h1 h2 h3 h4 h5 h6 h7 hA;unfold aF;simp only[ah]
 repeat' (first | exact hB | exact hC | (refine And.intro ?_ ?_) | (intro _))
 all_goals first | trivial | rfl | (clear hB hC;simp_all;done)
theorem ER:aW aU.gd 74 JU:=
 kL (cx:=aU) (n:=40) (cl:=[(143,ame),(144,apK),(145,amj),(146,apL)]) aA ⟨abY,ab1,ab5,ab2,trivial⟩ Tryz.func74 λd hd=>by
  obtain⟨⟨vs,ms,cs,fs,ts,⟨⟩⟩,⟨⟩⟩:=d;exact⟨λ_=>none,cast (by kernel_rfl) (aml vs ms cs fs ts hd)⟩
abbrev ab6:CT:={ ps:=[tK],pre:=λd=>bnd d,res:=λd=>([],vB (decide ((aF d.1.1 d.1.2.1 d.1.2.2.1 d.1.2.2.2.1 d.1.2.2.2.2.1).1=0))) }
theorem ab7{hi:Int}:∀(l:List Int) (lo:Int),SS l->(∀x∈l,lo<=x/\x < hi)->lo<=hi->(l.length:Int)<=hi - lo
 | [],lo,_,_,h=>by simp;omega
 | x :: l,lo,hs,hb,h=>by
   obtain⟨h1,h2⟩:=Yj.1 hs;obtain⟨b1,b2⟩:=hb x (by simp)
   have:=ab7 l (x+1) h2 (λy hy=>⟨by have:=h1 y hy;omega,(hb y (by simp[hy])).2⟩) (by omega)
   simp only[yP];omega
theorem ab8{n:Nat} (hs:SS l) (hb:∀x∈l,0<=x/\x < (n:Int)):l.length<=n:=by
 have:=ab7 l 0 hs hb (by omega)
 omega
theorem kV(h:(aF vs ms cs fs ts).1=0):BX vs ms cs fs=0/\(Ht vs ms cs fs).1=0/\EP fs ts=0:=by
 unfold aF at h;split at h
 .rename_i h1;exact absurd h h1
 .split at h
  .rename_i h1;exact absurd h h1
  .split at h
   .rename_i h1;exact absurd h h1
   .split at h
    .rename_i h1;exact absurd h h1
    .rename_i h1 h2 h3 h4;exact⟨by omega,by omega,by omega⟩
theorem amm(h:(Ht vs ms cs fs).1=0):∀d∈dR fs,LY vs ms cs fs d=0:=by
 unfold Ht at h;split at h
 .rename_i d hd;have hp:=Nk hd;split at h
  .cases h
  .rename_i h1;simp only[Ee,dV]at hp;rcases hp with hp | hp
   .exact absurd hp h1
   .exact absurd h hp
 .rename_i hd;intro d hm;have:=Yk.1 hd d hm;simp only[Ee,dV,not_or]at this;omega
theorem aS{α:Type 1}{Q:α->Prop}{V:Prop} (a:α) (v:V) (h:V=Q a):∃a,Q a:=⟨a,cast h v⟩
def UK(vs:List VD) (ms cs:List ByteArray) (fs:List FD) (ts:List SD):Bool:=decide (vs.length<=20/\ms.length<=20/\cs.length<=20/\fs.length<=20/\ts.length<=20) && fs.all λf=>decide (f.2.1.length<=100)
abbrev apN:CT:={ ps:=[tK],pre:=λd=>True,res:=λd=>([],vB (UK d.1.1 d.1.2.1 d.1.2.2.1 d.1.2.2.2.1 d.1.2.2.2.2.1)) }
abbrev apO(vs:List VD) (ms cs:List ByteArray) (fs:List FD) (ts:List SD):Nat->Option (St->kH):=λk=>match k with
 | 4=>some λ_=>.inv { α:=Nat,slots:=λk=>[(3,.c (.v (.int .i64 k)))],res:=λk=>[],inv:=λk=>k<=(fs).length/\∀j < k,∀f,fs[j]?=some f->f.2.1.length<=100,meas:=λk=>(fs).length - k }
 | _=>none
theorem amn(vs:List VD) (ms cs:List ByteArray) (fs:List FD) (ts:List SD):
 let z3:=qB (UK vs ms cs fs ts) false;let z1:=λ(x:Nat)=>(x<=fs.length/\∀(j:Nat),j < x->∀(f:ByteArray×List ID×Unit),fs[j]?=some f->f.snd.fst.length<=100);let z2:=[g0 (au.blk 27 [SC.sl LU vs,SC.sl Sh.str ms,SC.sl Sh.str cs,SC.sl IG fs,SC.sl nD ts])];br (decide (20 < (vs.length:Int)) || decide (20 < (ms.length:Int)) || decide (20 < (cs.length:Int)) || decide (20 < (fs.length:Int)) || decide (20 < (ts.length:Int))) z3 ((∃x,(z1 x)/\(cI 0=cI (x:Int)/\True)/\sm z2)/\∀(x:Nat),(z1 x)->br (decide ((x:Int) < (fs.length:Int))) ((0<=(x:Int)/\(x:Int) < (fs.length:Int))/\∀(d:ByteArray×(o7.sl.pair Sh.unit).den),fs[(x:Int).toNat]?=some d->br (decide (100 < ((List.length d.snd.fst):Int))) z3 (dX IntKind.i64 ((x:Int)+(1:Int))/\∃x',(z1 x')/\(cI ((x:Int)+(1:Int))=cI (x':Int)/\True)/\sm z2/\fs.length - x' < fs.length - x)) (qB (UK vs ms cs fs ts) true)):=by
 conv=>zeta
 delta cI g0 qB sm I6
 by_cases hc:¬(vs.length<=20/\ms.length<=20/\cs.length<=20/\fs.length<=20/\ts.length<=20)
 .have e:UK vs ms cs fs ts=false:=by unfold UK;rw[BP hc];rfl
  rw[e];refine ah.2 ⟨λ_=>⟨rfl,rfl⟩,λh=>?_⟩
  simp only[oI,gG]at h;omega
 have hc:=IK.1 hc;refine ah.2 ⟨λh=>?_,λ_=>?_⟩
 .simp only[Ee,dV]at h;omega
 refine⟨⟨0,⟨by omega,λj hj=>by omega⟩,⟨rfl,trivial⟩,rfl⟩,λk hk=>ah.2 ⟨λh=>?_,λh=>?_⟩⟩
 .simp only[dV]at h;have hN:(k:Int).toNat=k:=by omega
  rw[hN];refine⟨by omega,λd hd=>ah.2 ⟨λh2=>⟨rfl,?_⟩,λh2=>⟨ay.2 (by omega),k+1,⟨by omega,λj hj f hf=>?_⟩,⟨rfl,trivial⟩,rfl,by omega⟩⟩⟩
  .have h2:¬d.2.1.length<=100:=by simp only[dV]at h2;omega
   have e:UK vs ms cs fs ts=false:=by
    unfold UK;rw[show(fs.all λf=>decide (f.2.1.length<=100))=false from List.all_eq_false.2 ⟨d,iJ hd,by simpa using h2⟩,Bool.and_false]
   rw[e]
  .by_cases ji:j=k
   .subst ji;rw[hd]at hf;cases hf;simp only[gG]at h2;omega
   .exact hk.2 j (by omega) f hf
 .simp only[gG]at h;have e:UK vs ms cs fs ts=true:=by
   unfold UK;rw[Na hc,Iw,Ti];intro f hf;obtain⟨j,hj⟩:=II hf;simpa using hk.2 j (by have:=(eU.1 hj).1;omega) f hj
  rw[e];exact⟨rfl,rfl⟩
theorem ahj:aW aU.gd 10 apN:=
 kL (cx:=aU) (n:=47) (cl:=[]) aA trivial Tryz.func10 λd hd=>by
  obtain⟨⟨vs,ms,cs,fs,ts,⟨⟩⟩,⟨⟩⟩:=d;exact aS (apO vs ms cs fs ts) (amn vs ms cs fs ts) (by kernel_rfl)
abbrev ajE:CT:={ ps:=[tK],pre:=λd=>True,res:=λd=>([],.one (.c (.v (.int .i64 (EP d.1.2.2.2.1 d.1.2.2.2.2.1))))) }
abbrev amo(vs:List VD) (ms cs:List ByteArray) (fs:List FD) (ts:List SD):Nat->Option (St->kH):=λk=>match k with
 | 4=>some λ_=>.inv { α:=Nat,slots:=λk=>[(3,.c (.v (.int .i64 k)))],res:=λk=>[],inv:=λk=>k<=(ts).length/\∀j < k,∀t,ts[j]?=some t->EO fs.length t=0,meas:=λk=>(ts).length - k }
 | _=>none
theorem ahk(vs:List VD) (ms cs:List ByteArray) (fs:List FD) (ts:List SD):
 let z1:=λ(x:Nat)=>(x<=ts.length/\∀(j:Nat),j < x->∀(t:Int×Int×Unit),ts[j]?=some t->EO fs.length t=0);let z2:=[g0 (au.blk 27 [SC.sl LU vs,SC.sl Sh.str ms,SC.sl Sh.str cs,SC.sl IG fs,SC.sl nD ts])];let z3:=λ(x:Nat)=>0<=(x:Int)/\(x:Int) < (ts.length:Int);br (decide ((ts.length:Int) < (1:Int)) || decide (8 < (ts.length:Int))) (qI (EP fs ts) (4:Int)) ((∃x,(z1 x)/\(cI 0=cI (x:Int)/\True)/\sm z2)/\∀(x:Nat),(z1 x)->br (decide ((x:Int) < (ts.length:Int))) ((z3 x)/\∀(d:Int×(I6.pair Sh.unit).den),ts[(x:Int).toNat]?=some d->((!decide (d.fst < 0))=true->0<=(x:Int)/\(x:Int) < (ts.length:Int))/\∀(dJ:Int×(I6.pair Sh.unit).den),((!decide (d.fst < 0))=true->ts[(x:Int).toNat]?=some dJ)->br (decide (d.fst < 0) || decide ((fs.length:Int)<=dJ.fst)) (qI (EP fs ts) (11:Int)) ((z3 x)/\∀(d:Int×(I6.pair Sh.unit).den),ts[(x:Int).toNat]?=some d->True/\br (!dh (d.snd.fst,()).fst) (qI (EP fs ts) (2:Int)) (dX IntKind.i64 ((x:Int)+(1:Int))/\∃x',(z1 x')/\(cI ((x:Int)+(1:Int))=cI (x':Int)/\True)/\sm z2/\ts.length - x' < ts.length - x))) (qI (EP fs ts) (0:Int))):=by
 conv=>zeta
 delta cI g0 qI sm I6
 by_cases hc:ts.length < 1\/8 < ts.length
 .have e:EP fs ts=4:=by unfold EP;rw[if_pos hc]
  rw[e];refine ah.2 ⟨λ_=>⟨rfl,rfl⟩,λh=>?_⟩
  simp only[oI,gG]at h;omega
 refine ah.2 ⟨λh=>?_,λh=>⟨⟨0,⟨by omega,λj hj=>by omega⟩,⟨rfl,trivial⟩,rfl⟩,λk hk=>ah.2 ⟨λh2=>?_,λh2=>?_⟩⟩⟩
 .simp only[Ee,dV]at h;omega
 .simp only[dV]at h2;have hN:(k:Int).toNat=k:=by omega
  rw[hN];refine⟨by omega,λd hd=>⟨λ_=>by omega,λd1 hd1=>ah.2 ⟨λh3=>⟨rfl,?_⟩,λh3=>⟨by omega,λd2 hd2=>⟨trivial,ah.2 ⟨λh4=>⟨rfl,?_⟩,λh4=>⟨ay.2 (by omega),k+1,⟨by omega,λj hj v hv=>?_⟩,⟨rfl,trivial⟩,rfl,by omega⟩⟩⟩⟩⟩⟩⟩
  .have h3:d.1 < 0\/(fs.length:Int)<=d.1:=by
    by_cases hn:d.1 < 0
    .exact .inl hn
    .have:=hd1 (by simp[hn])
     rw[hd]at this;cases this;exact by simpa using h3
   have e:EO fs.length d=11:=by unfold EO;rw[if_pos h3]
   rw[Bg hc hd (by rw[e];simp) hk.2,e]
  all_goals
   rw[hd]at hd2;cases hd2;have h3:¬(d.1 < 0\/(fs.length:Int)<=d.1):=by
    simp only[oI,gG]at h3;have:=hd1 (by rw[BP h3.1];rfl)
    rw[hd]at this;cases this;exact λq=>q.elim (λq=>h3.1 q) (λq=>h3.2 q)
  .have h4:dh d.2.1=false:=by simpa using h4
   have e:EO fs.length d=2:=by unfold EO;rw[if_neg h3,if_neg (by rw[h4];simp)]
   rw[Bg hc hd (by rw[e];simp) hk.2,e]
  .have h4:dh d.2.1=true:=by simpa using h4
   by_cases ji:j=k
   .subst ji;rw[hd]at hv;cases hv;unfold EO;rw[if_neg h3,if_pos h4]
   .exact hk.2 j (by omega) v hv
 .simp only[gG]at h2;rw[UG hc λj t hj=>hk.2 j (by have:=(eU.1 hj).1;omega) t hj];exact⟨rfl,rfl⟩
theorem ab9:aW aU.gd 136 ajE:=
 kL (cx:=aU) (n:=48) (cl:=[(134,RJ)]) aA ⟨OX,trivial⟩ Tryz.func136 λd hd=>by
  obtain⟨⟨vs,ms,cs,fs,ts,⟨⟩⟩,⟨⟩⟩:=d;exact aS (amo vs ms cs fs ts) (ahk vs ms cs fs ts) (by kernel_rfl)
def exS(vs:List VD) (ms cs:List ByteArray) (fs:List FD) (op obj n:Int):Bool:=!decide (0<=pX vs ms cs fs op/\(obj < 0\/pX vs ms cs fs op<=obj)) && !decide (op=18/\(n < 0\/(ms.length:Int)<=n))
abbrev ajF:CT:={ ps:=[tK,o7],pre:=λd=>True,res:=λd=>([],vB (exS d.1.1 d.1.2.1 d.1.2.2.1 d.1.2.2.2.1 d.2.1.1 d.2.1.2.2.2.2.1 d.2.1.2.2.2.2.2.1)) }
theorem ahl(vs:List VD) (ms cs:List ByteArray) (fs:List FD) (ts:List SD) (op a b c obj n fn ord:Int):
 let z7:=exS vs ms cs fs op obj n;let z4:=qB z7 (decide (0<=obj) && decide (obj < (vs.length:Int)));let z5:=qB z7 (decide (0<=obj) && decide (obj < (ms.length:Int)));let z6:=qB z7 (decide (0<=obj) && decide (obj < (cs.length:Int)));let z3:=br (decide (op=21)) (qB z7 (decide (0<=obj) && decide (obj < (fs.length:Int)))) (qB z7 true);let z2:=br (decide (op=18)) (br (decide (n < 0) || decide ((ms.length:Int)<=n)) (qB z7 false) z6) (br (decide (op=19)) (br (decide (op=19)) z6 z3) (br (decide (op=20)) z6 z3));let z1:=br (decide (op=15)) (br (decide (op=15)) z5 z2) (br (decide (op=16)) (br (decide (op=16)) z5 z2) (br (decide (op=17)) z5 z2));br (decide (op=8)) (br (decide (op=8)) z4 z1) (br (decide (op=9)) (br (decide (op=9)) z4 z1) (br (decide (op=10)) (br (decide (op=10)) z4 z1) (br (decide (op=11)) (br (decide (op=11)) z4 z1) (br (decide (op=12)) (br (decide (op=12)) z4 z1) (br (decide (op=14)) z4 z1))))):=by
 conv=>zeta
 delta qB;simp only[ah]
 repeat' (first | (refine And.intro ?_ ?_) | (intro _))
 all_goals first | rfl | (simp_all[exS,pX];done) | (simp_all[exS,pX];omega) | (simp_all[exS,pX];rw[MZ];simp<;>omega)
theorem acd:aW aU.gd 179 ajF:=
 kL (cx:=aU) (n:=61) (cl:=[]) aA trivial Tryz.func179 λd hd=>by
  obtain⟨⟨vs,ms,cs,fs,ts,⟨⟩⟩,⟨op,a,b,c,obj,n,fn,ord,⟨⟩⟩,⟨⟩⟩:=d;exact aS (λ_=>none) (ahl vs ms cs fs ts op a b c obj n fn ord) (by kernel_rfl)
abbrev ajG:CT:={ ps:=[.str],pre:=λd=>True,res:=λd=>([],vB (dK d.1)) }
abbrev amq(s:ByteArray):Nat->Option (St->kH):=λk=>match k with
 | 4=>some λ_=>.inv { α:=Nat,slots:=λk=>[(3,.c (.v (.int .i64 k)))],res:=λk=>[],inv:=λk=>k<=((List.range s.size)).length/\∀j < k,(uQ (JR s j)=true\/(j≠0/\okB (JR s j)=true)),meas:=λk=>((List.range s.size)).length - k }
 | _=>none
theorem ahm(s:ByteArray):
 let z2:=List.range s.size;let z1:=λ(x:Nat)=>(x<=z2.length/\∀(j:Nat),j < x->uQ (JR s j)=true\/j≠0/\okB (JR s j)=true);br (decide ((s.size:Int) < (1:Int)) || decide (16 < (s.size:Int))) (qB (dK s) false) ((∃x,(z1 x)/\(cI 0=cI (x:Int)/\True)/\([]:List fH)=[])/\∀(x:Nat),(z1 x)->br (decide ((x:Int) < (s.size:Int))) ((0<=(x:Int)/\(x:Int) < (s.size:Int))/\∀(u:UInt8),s[(x:Int).toNat]?=some u->br (!(decide (97<=(u.toNat:Int)) && decide ((u.toNat:Int)<=(122:Int)) || decide (65<=(u.toNat:Int)) && decide ((u.toNat:Int)<=(90:Int))) && (decide ((x:Int)=(0:Int)) || !decide ((u.toNat:Int)=(95:Int)) && (decide ((u.toNat:Int) < (48:Int)) || decide (57 < (u.toNat:Int))))) (qB (dK s) false) (dX IntKind.i64 ((x:Int)+(1:Int))/\∃x',(z1 x')/\(cI ((x:Int)+(1:Int))=cI (x':Int)/\True)/\([]:List fH)=[]/\z2.length - x' < z2.length - x)) (qB (dK s) true)):=by
 conv=>zeta
 delta fH cI qB;have hl:(List.range s.size).length=s.size:=List.length_range;rw[hl]
 by_cases hs:¬(1<=s.size/\s.size<=16)
 .have:dK s=false:=by unfold dK;rw[BP hs];rfl
  rw[this];refine ah.2 ⟨λ_=>⟨rfl,rfl⟩,λh=>?_⟩
  simp only[oI,gG]at h;omega
 have hs:=IK.1 hs;refine ah.2 ⟨λh=>?_,λ_=>⟨⟨0,⟨by omega,λj hj=>by omega⟩,⟨rfl,trivial⟩,rfl⟩,λk hk=>ah.2 ⟨λh=>?_,λh=>?_⟩⟩⟩
 .simp only[Ee,dV]at h;omega
 .simp only[dV]at h;have hN:(k:Int).toNat=k:=by omega
  rw[hN];refine⟨by omega,λu hu=>?_⟩
  have eu:=LW hu;have eL:uQ (JR s k)=(decide (97<=(u.toNat:Int)) && decide ((u.toNat:Int)<=122) || decide (65<=(u.toNat:Int)) && decide ((u.toNat:Int)<=90)):=by
   rw[eu];unfold uQ;rw[MZ];simp
  rw[<-eL];refine ah.2 ⟨λh2=>⟨rfl,?_⟩,λh2=>⟨ay.2 (by omega),k+1,⟨by omega,λj hj=>?_⟩,⟨rfl,trivial⟩,rfl,by omega⟩⟩
  .have:dK s=false:=by
    simp only[A8,Ee,Kq,dV,gG]at h2;obtain⟨a,b⟩:=h2;unfold dK;rcases b with b | b
    .have:k=0:=by omega
     subst this;rw[a];simp
    .have hb:okB (JR s k)=false:=by
      unfold okB;rw[a,eu];simp;omega
     rw[show((List.range s.size).all λi=>okB (JR s i))=false from List.all_eq_false.2 ⟨k,by simp;omega,by rw[hb];simp⟩,Bool.and_false]
   rw[this]
  .by_cases ji:j=k
   .subst ji;cases hA:uQ (JR s j) with
    | true=>exact .inl rfl
    | false=>
      rw[hA]at h2;refine .inr ?_;simp at h2;refine⟨by omega,?_⟩
      unfold okB;rw[eu];simp;omega
   .exact hk.2 j (by omega)
 .simp only[gG]at h;have:dK s=true:=by
   unfold dK;have h0:uQ (JR s 0)=true:=(hk.2 0 (by omega)).elim id λq=>absurd rfl q.1
   rw[Na hs,h0];simp only[Iw];rw[Ti];intro i hi;simp at hi;rcases hk.2 i (by omega) with q | q
   .unfold okB;rw[q];rfl
   .exact q.2
  rw[this];exact⟨rfl,rfl⟩
theorem ace:aW aU.gd 178 ajG:=
 kL (cx:=aU) (n:=55) (cl:=[]) aA trivial Tryz.func178 λd hd=>by
  obtain⟨s,⟨⟩⟩:=d;exact aS (amq s) (ahm s) (by kernel_rfl)
abbrev RY:CT:={ ps:=[.sl .str],pre:=λd=>d.1.length<=1000000,res:=λd=>([],.iR [.c (.v (.int .i64 (if(ig d.1).1=0 then 0 else(ig d.1).2))),.c (.v (.int .i64 (ig d.1).1))]) }
abbrev amr(l:List ByteArray):Nat->Option (St->kH):=λk=>match k with
 | 2=>some λ_=>.inv { α:=Nat,slots:=λk=>[(4,.c (.v (.int .i64 k)))],res:=λ_=>[],inv:=λk=>k<=l.length/\∀j < k,dK (l.getD j ⟨#[]⟩)=true/\vT (l.take j) (l.getD j ⟨#[]⟩)=false,meas:=λk=>l.length - k }
 | 7=>some λs=>.inv { α:=Nat,slots:=λk=>[(5,.c (.v (.int .i64 k)))],res:=λ_=>[],inv:=λk=>k<=(aI s 4).toNat/\∀j < k,¬l.getD j ⟨#[]⟩=l.getD ((aI s 4).toNat) ⟨#[]⟩,meas:=λk=>(aI s 4).toNat - k }
 | _=>none
theorem ahn(l:List ByteArray) (aH:RY.pre (l,())):
 let z1:=λ(x:Nat)=>(x<=l.length/\∀(j:Nat),j < x->dK (l.getD j { data:=#[]:ByteArray })=true/\vT (List.take j l) (l.getD j { data:=#[]:ByteArray })=false);let z4:=λ(x:Nat)=>0<=(x:Int)/\(x:Int) < (l.length:Int);let z3:=[cI (if(ig l).fst=0 then(0:Int) else(ig l).snd),cI ((ig l).fst)];let z2:=λ(x_1 x:Nat)=>(x_1<=(x:Int).toNat/\∀(j:Nat),j < x_1->¬l.getD j { data:=#[]:ByteArray }=l.getD (x:Int).toNat { data:=#[]:ByteArray });let z5:=λ(x_1:Nat)=>(x_1:Int)+(1:Int);(∃x,(z1 x)/\(cI 0=cI (x:Int)/\True)/\([]:List fH)=[])/\∀(x:Nat),(z1 x)->br (decide ((x:Int) < (l.length:Int))) ((z4 x)/\∀(d:ByteArray),l[(x:Int).toNat]?=some d->True/\br (!dK d) (rT z3 [cI (x:Int),cI 6]) ((∃x_1,(z2 x_1 x)/\(cI 0=cI (x_1:Int)/\True)/\([]:List fH)=[])/\∀(x_1:Nat),(z2 x_1 x)->br (decide ((x_1:Int) < (x:Int))) ((z4 x_1)/\∀(dJ:ByteArray),l[(x_1:Int).toNat]?=some dJ->(z4 x)/\∀(Hl:ByteArray),l[(x:Int).toNat]?=some Hl->br (decide (dJ=Hl)) (rT z3 [cI (x:Int),cI 7]) (dX IntKind.i64 (z5 x_1)/\∃x',(x'<=(x:Int).toNat/\∀(j:Nat),j < x'->¬l.getD j { data:=#[]:ByteArray }=l.getD (x:Int).toNat { data:=#[]:ByteArray })/\(cI (z5 x_1)=cI (x':Int)/\True)/\([]:List fH)=[]/\(x:Int).toNat - x' < (x:Int).toNat - x_1)) (dX IntKind.i64 (z5 x)/\∃x',(z1 x')/\(cI (z5 x)=cI (x':Int)/\True)/\([]:List fH)=[]/\l.length - x' < l.length - x))) (rT z3 [cI 0,cI 0]):=by
 conv=>zeta
 delta fH cI rT;have hp:l.length<=1000000:=aH;refine⟨⟨0,⟨by omega,λj hj=>by omega⟩,⟨rfl,trivial⟩,rfl⟩,λk hk=>ah.2 ⟨λh=>?_,λh=>?_⟩⟩
 .simp only[dV]at h;have hN:(k:Int).toNat=k:=by omega
  rw[hN];refine⟨by omega,λd hd=>?_⟩
  have hg:l.getD k ⟨#[]⟩=d:=by rw[Jk,hd];rfl
  refine⟨trivial,ah.2 ⟨λh2=>⟨rfl,?_⟩,λh2=>⟨⟨0,⟨by omega,λj hj=>by omega⟩,⟨rfl,trivial⟩,rfl⟩,λm hm=>ah.2 ⟨λh3=>?_,λh3=>⟨ay.2 (by omega),k+1,⟨by omega,λj hj=>?_⟩,⟨rfl,trivial⟩,rfl,by omega⟩⟩⟩⟩⟩
  .have h2:dK d=false:=by simpa using h2
   rw[xQ (by omega) hk.2 (.inl (by rw[hg];exact h2)),hg,h2];rfl
  .simp only[dV]at h3;have hM:(m:Int).toNat=m:=by omega
   rw[hM];refine⟨by omega,λd1 hd1=>⟨by omega,λd2 hd2=>?_⟩⟩
   rw[hd]at hd2;cases hd2;have hg1:l.getD m ⟨#[]⟩=d1:=by rw[Jk,hd1];rfl
   refine ah.2 ⟨λh4=>⟨rfl,?_⟩,λh4=>⟨ay.2 (by omega),m+1,⟨by omega,λj hj=>?_⟩,⟨rfl,trivial⟩,rfl,by omega⟩⟩
   .have h3':vT (l.take k) d=true:=A95.2 ⟨d1,iJ (i:=m) (by rw[ajX (by omega)];exact hd1),h4⟩
    have h2v:dK d=true:=by simpa using h2
    rw[xQ (by omega) hk.2 (.inr (by rw[hg];exact h3')),hg,h2v];rfl
   .by_cases hjm:j=m
    .subst hjm;rw[hg1,hg];simpa using h4
    .exact hm.2 j (by omega)
  .simp only[gG]at h3
   by_cases ji:j=k
   .subst ji;rw[hg];refine⟨by simpa using h2,?_⟩
    unfold vT;rw[Yx];intro y hy;obtain⟨i,hi⟩:=II hy;have hij:i < j:=by
     have:=(eU.1 hi).1;simp at this;omega
    rw[ajX hij]at hi;have:=hm.2 i (by omega)
    rw[hg,Jk,hi]at this;simpa using this
   .exact hk.2 j (by omega)
 .simp only[gG]at h;rw[OY λj hj=>hk.2 j (by omega)];exact⟨rfl,rfl⟩
theorem acf:aW aU.gd 133 RY:=
 kL (cx:=aU) (n:=34) (cl:=[(178,ajG)]) aA ⟨ace,trivial⟩ Tryz.func133 λd hd=>by
  obtain⟨l,⟨⟩⟩:=d;exact aS (amr l) (ahn l hd) (by kernel_rfl)
abbrev acg:CT:={ ps:=[tK],pre:=λd=>d.1.1.length<=1000000/\d.1.2.2.2.1.length<=1000000,res:=λd=>([.row 9 .str (iD d.1.1),.row 9 .str (jD d.1.2.2.2.1)],.iR [.c (.row 0),.c (.row 1)]) }
abbrev ams(vs:List VD) (ms cs:List ByteArray) (fs:List FD) (ts:List SD):Nat->Option (St->kH):=λk=>match k with
 | 3=>some λ_=>.inv { α:=Nat,slots:=λk=>[(6,.c (.v (.int .i64 k))),(4,.c (.row 1))],res:=λk=>[(1,.row 9 .str (iD (vs.take k)))],inv:=λk=>k<=vs.length,meas:=λk=>vs.length - k,nil:=[(4,9,.str)] }
 | 7=>some λ_=>.inv { α:=Nat,slots:=λk=>[(7,.c (.v (.int .i64 k))),(5,.c (.row 2))],res:=λk=>[(2,.row 9 .str (jD (fs.take k)))],inv:=λk=>k<=fs.length,meas:=λk=>fs.length - k,nil:=[(5,9,.str)] }
 | _=>none
theorem aho(vs:List VD) (ms cs:List ByteArray) (fs:List FD) (ts:List SD) (aH:acg.pre ((vs,ms,cs,fs,ts,()),())):
 let z3:=[SC.sl LU vs,SC.sl Sh.str ms,SC.sl Sh.str cs,SC.sl IG fs,SC.sl nD ts];let z5:=λ(x:Nat)=>iD (List.take x vs);let z2:=λ(x:Nat)=>[g0 (au.blk 27 z3),g0 (au.row 9 Sh.str (z5 x))];let z4:=λ(x:Nat)=>(x:Int)+(1:Int);let z1:=λ(x x_1:Nat)=>[g0 (au.blk 27 z3),g0 (au.row 9 Sh.str (z5 x)),g0 (au.row 9 Sh.str (jD (List.take x_1 fs)))];(∃x,x<=vs.length/\(cI 0=cI (x:Int)/\SV.c (SC.row (Nat.succ 0))=SV.c (SC.row 1)/\True)/\[g0 (au.blk 27 z3),g0 (au.row 9 Sh.str [])]=(z2 x))/\∀(x:Nat),x<=vs.length->br (decide ((x:Int) < (vs.length:Int))) ((0<=(x:Int)/\(x:Int) < (vs.length:Int))/\∀(d:ByteArray×(I6.pair Sh.unit).den),vs[(x:Int).toNat]?=some d->oN (List.length (z5 x)+List.length ([d.fst])) 16/\dX IntKind.i64 (z4 x)/\∃x',x'<=vs.length/\(cI (z4 x)=cI (x':Int)/\SV.c (SC.row 1)=SV.c (SC.row 1)/\True)/\[g0 (au.blk 27 z3),g0 (au.row 9 Sh.str (iD (List.take x vs)++[d.fst]))]=(z2 x')/\vs.length - x' < vs.length - x) ((∃x_1,x_1<=fs.length/\(cI 0=cI (x_1:Int)/\SV.c (SC.row (Nat.succ 0).succ)=SV.c (SC.row 2)/\True)/\[g0 (au.blk 27 z3),g0 (au.row 9 Sh.str (z5 x)),g0 (au.row 9 Sh.str [])]=(z1 x x_1))/\∀(x_1:Nat),x_1<=fs.length->br (decide ((x_1:Int) < (fs.length:Int))) ((0<=(x_1:Int)/\(x_1:Int) < (fs.length:Int))/\∀(d:ByteArray×(o7.sl.pair Sh.unit).den),fs[(x_1:Int).toNat]?=some d->oN (List.length (jD (List.take x_1 fs))+List.length ([d.fst])) 16/\dX IntKind.i64 (z4 x_1)/\∃x',x'<=fs.length/\(cI (z4 x_1)=cI (x':Int)/\SV.c (SC.row 2)=SV.c (SC.row 2)/\True)/\[g0 (au.blk 27 z3),g0 (au.row 9 Sh.str (z5 x)),g0 (au.row 9 Sh.str (jD (List.take x_1 fs)++[d.fst]))]=(z1 x x')/\fs.length - x' < fs.length - x_1) ([au.row 9 Sh.str (iD vs),au.row 9 Sh.str (jD fs)]=[au.row 9 Sh.str (z5 x),au.row 9 Sh.str (jD (List.take x_1 fs))]/\bg.iR [SV.c (SC.row 0),SV.c (SC.row 1)]=bg.iR [SV.c (SC.row 0),SV.c (SC.row (Nat.succ 0))])):=by
 conv=>zeta
 delta cI g0 I6;obtain⟨hp1,hp2⟩:vs.length<=1000000/\fs.length<=1000000:=aH;refine⟨⟨0,by omega,⟨rfl,rfl,trivial⟩,rfl⟩,λk hk=>ah.2 ⟨λh=>?_,λh=>⟨⟨0,by omega,⟨rfl,rfl,trivial⟩,rfl⟩,λm hm=>ah.2 ⟨λh2=>?_,λh2=>?_⟩⟩⟩⟩
 .simp only[dV]at h;refine⟨by omega,λd hd=>?_⟩
  have hd:vs[k]?=some d:=by simpa using hd
  have e:iD (vs.take (k+1))=iD (vs.take k)++[d.1]:=by
   unfold iD;rw[Tf,hd];simp
  refine⟨?_,ay.2 (by omega),k+1,by omega,⟨rfl,rfl,trivial⟩,?_,by omega⟩
  .have:(iD (vs.take k)).length<=1000000:=by simp[iD];omega
   exact fQ.2 (by simp only[yP,Qh];omega)
  .rw[e]
 .simp only[dV]at h2;refine⟨by omega,λd hd=>?_⟩
  have hd:fs[m]?=some d:=by simpa using hd
  have e:jD (fs.take (m+1))=jD (fs.take m)++[d.1]:=by
   unfold jD;rw[Tf,hd];simp
  refine⟨?_,ay.2 (by omega),m+1,by omega,⟨rfl,rfl,trivial⟩,?_,by omega⟩
  .have:(jD (fs.take m)).length<=1000000:=by simp[jD];omega
   exact fQ.2 (by simp only[yP,Qh];omega)
  .rw[e]
 .simp only[gG]at h h2;rw[zF (by omega),zF (by omega)];exact⟨rfl,rfl⟩
theorem ach:aW aU.gd 132 acg:=
 kL (cx:=aU) (n:=42) (cl:=[]) aA trivial Tryz.func132 λd hd=>by
  obtain⟨⟨vs,ms,cs,fs,ts,⟨⟩⟩,⟨⟩⟩:=d;exact aS (ams vs ms cs fs ts) (aho vs ms cs fs ts hd) (by kernel_rfl)
def Bh(vs:List VD) (ms cs:List ByteArray) (fs:List FD) (l:List ID):Int×Int:=if 64 < l.length then(4,-1) else match l.findIdx? (λi=>decide (xR vs ms cs fs i l.length≠0)) with
 | some k=>(xR vs ms cs fs (l.getD k (0,0,0,0,0,0,0,0,())) l.length,k)
 | none=>(0,-1)
theorem Bj{l:List ID}{d:ID} (hl:¬64 < l.length) (hd:l[k]?=some d) (hb:xR vs ms cs fs d l.length≠0) (hn:∀j < k,∀i,l[j]?=some i->xR vs ms cs fs i l.length=0):Bh vs ms cs fs l=(xR vs ms cs fs d l.length,(k:Int)):=by
 have iq:k < l.length:=(eU.1 hd).1;have:l.findIdx? (λi=>decide (xR vs ms cs fs i l.length≠0))=some k:=by
  rw[A50];refine⟨iq,by rw[(eU.1 hd).2];simpa using hb,λj hj=>?_⟩
  have:=hn j hj l[j] (kP (by omega))
  simpa using this
 unfold Bh;rw[if_neg hl,this];show(xR vs ms cs fs (l.getD k _) l.length,(k:Int))=_;rw[Jk,hd];rfl
theorem ahp{l:List ID} (hl:¬64 < l.length) (hn:∀(j:Nat) i,l[j]?=some i->xR vs ms cs fs i l.length=0):Bh vs ms cs fs l=(0,-1):=by
 have:l.findIdx? (λi=>decide (xR vs ms cs fs i l.length≠0))=none:=by
  rw[A71];intro y hy;obtain⟨j,hj⟩:=II hy;simpa using hn j y hj
 unfold Bh;rw[if_neg hl,this]
theorem apQ{d:ID} (h:rG d≠0):xR vs ms cs fs d m=rG d:=by unfold xR ciS;rw[if_pos h]
theorem arL{d:ID} (h:rG d=0) (h2:exS vs ms cs fs d.1 d.2.2.2.2.1 d.2.2.2.2.2.1=false):xR vs ms cs fs d m=11:=by
 unfold exS at h2;unfold xR ciS;rw[if_neg (by simpa using h)]
 split
 .rfl
 .rename_i h3;rw[BP h3]at h2;rw[Ql,Iw,zG]at h2;rw[if_pos (Qg h2)]
theorem arM{d:ID} (h:rG d=0) (h2:exS vs ms cs fs d.1 d.2.2.2.2.1 d.2.2.2.2.2.1=true):xR vs ms cs fs d m=if(d.1=4\/d.1=5)/\(d.2.2.2.2.2.1 < 0\/m < d.2.2.2.2.2.1) then 12 else 0:=by
 unfold exS at h2;rw[A8,Kq,Kq]at h2;unfold xR ciS;rw[if_neg (by simpa using h),if_neg (A93 h2.1),if_neg (A93 h2.2)]
abbrev ajH:CT:={ ps:=[tK,IG],pre:=λd=>True,res:=λd=>([],.iR [.c (.v (.int .i64 (Bh d.1.1 d.1.2.1 d.1.2.2.1 d.1.2.2.2.1 d.2.1.2.1).1)),.c (.v (.int .i64 (Bh d.1.1 d.1.2.1 d.1.2.2.1 d.1.2.2.2.1 d.2.1.2.1).2))]) }
abbrev amu(vs:List VD) (ms cs:List ByteArray) (fs:List FD) (ts:List SD) (nm:ByteArray) (l:List ID):Nat->Option (St->kH):=λk=>match k with
 | 4=>some λ_=>.inv { α:=Nat,slots:=λk=>[(6,.c (.v (.int .i64 k)))],res:=λk=>[],inv:=λk=>k<=(l).length/\∀j < k,∀i,l[j]?=some i->xR vs ms cs fs i l.length=0,meas:=λk=>(l).length - k }
 | _=>none
theorem ahq(vs:List VD) (ms cs:List ByteArray) (fs:List FD) (ts:List SD) (nm:ByteArray) (l:List ID):
 let z10:=[cI ((Bh vs ms cs fs l).fst),cI ((Bh vs ms cs fs l).snd)];let z1:=λ(x:Nat)=>(x<=l.length/\∀(j:Nat),j < x->∀(i:Int×Int×Int×Int×Int×Int×Int×Int×Unit),l[j]?=some i->ciS vs ms cs fs (pV i.fst i.snd.fst i.snd.snd.fst i.snd.snd.snd.fst i.snd.snd.snd.snd.fst i.snd.snd.snd.snd.snd.fst i.snd.snd.snd.snd.snd.snd.fst i.snd.snd.snd.snd.snd.snd.snd.fst) i.fst i.snd.snd.snd.snd.fst i.snd.snd.snd.snd.snd.fst (l.length:Int)=(0:Int));let z5:=[g0 (au.blk 27 [SC.sl LU vs,SC.sl Sh.str ms,SC.sl Sh.str cs,SC.sl IG fs,SC.sl nD ts]),g0 (au.blk 77 [SC.v (Value.string nm),SC.sl o7 l])];let z2:=λ(d:ID)=>(d.fst,d.snd.fst,d.snd.snd.fst,d.snd.snd.snd.fst,d.snd.snd.snd.snd.fst,d.snd.snd.snd.snd.snd.fst,d.snd.snd.snd.snd.snd.snd.fst,d.snd.snd.snd.snd.snd.snd.snd.fst,());let z3:=λ(d:ID)=>(d.snd.fst,d.snd.snd.fst,d.snd.snd.snd.fst,d.snd.snd.snd.snd.fst,d.snd.snd.snd.snd.snd.fst,d.snd.snd.snd.snd.snd.snd.fst,d.snd.snd.snd.snd.snd.snd.snd.fst,());let z4:=λ(d:ID)=>(d.snd.snd.fst,d.snd.snd.snd.fst,d.snd.snd.snd.snd.fst,d.snd.snd.snd.snd.snd.fst,d.snd.snd.snd.snd.snd.snd.fst,d.snd.snd.snd.snd.snd.snd.snd.fst,());let z6:=λ(d:ID)=>(d.snd.snd.snd.fst,d.snd.snd.snd.snd.fst,d.snd.snd.snd.snd.snd.fst,d.snd.snd.snd.snd.snd.snd.fst,d.snd.snd.snd.snd.snd.snd.snd.fst,());let z7:=λ(d:ID)=>(d.snd.snd.snd.snd.fst,d.snd.snd.snd.snd.snd.fst,d.snd.snd.snd.snd.snd.snd.fst,d.snd.snd.snd.snd.snd.snd.snd.fst,());let z8:=λ(d:ID)=>(d.snd.snd.snd.snd.snd.fst,d.snd.snd.snd.snd.snd.snd.fst,d.snd.snd.snd.snd.snd.snd.snd.fst,());let z9:=λ(d:ID)=>(d.snd.snd.snd.snd.snd.snd.fst,d.snd.snd.snd.snd.snd.snd.snd.fst,());br (decide (64 < (l.length:Int))) (rT z10 [cI 4,cI (-1)]) ((∃x,(z1 x)/\(cI 0=cI (x:Int)/\True)/\sm z5)/\∀(x:Nat),(z1 x)->br (decide ((x:Int) < (l.length:Int))) ((0<=(x:Int)/\(x:Int) < (l.length:Int))/\∀(d:ID),l[(x:Int).toNat]?=some d->True/\br (!decide (pV (z2 d).fst (z3 d).fst (z4 d).fst (z6 d).fst (z7 d).fst (z8 d).fst (z9 d).fst (d.snd.snd.snd.snd.snd.snd.snd.fst,()).fst=0)) (rT z10 [cI (pV (z2 d).fst (z3 d).fst (z4 d).fst (z6 d).fst (z7 d).fst (z8 d).fst (z9 d).fst (d.snd.snd.snd.snd.snd.snd.snd.fst,()).fst),cI (x:Int)]) (True/\br (!exS vs ms cs fs (z2 d).fst (z7 d).fst (z8 d).fst) (rT z10 [cI 11,cI (x:Int)]) (br ((decide (d.fst=4) || decide (d.fst=5)) && (decide (d.snd.snd.snd.snd.snd.fst < 0) || decide ((l.length:Int) < d.snd.snd.snd.snd.snd.fst))) (rT z10 [cI 12,cI (x:Int)]) (dX IntKind.i64 ((x:Int)+(1:Int))/\∃x',(z1 x')/\(cI ((x:Int)+(1:Int))=cI (x':Int)/\True)/\sm z5/\l.length - x' < l.length - x)))) (rT z10 [cI 0,cI (-1)])):=by
 conv=>zeta
 delta cI g0 rT sm I6
 by_cases hc:64 < l.length
 .have e:Bh vs ms cs fs l=(4,-1):=by unfold Bh;rw[if_pos hc]
  rw[e];refine ah.2 ⟨λ_=>⟨rfl,rfl⟩,λh=>?_⟩
  simp only[gG]at h;omega
 refine ah.2 ⟨λh=>?_,λ_=>⟨⟨0,⟨by omega,λj hj=>by omega⟩,⟨rfl,trivial⟩,rfl⟩,λk hk=>ah.2 ⟨λh=>?_,λh=>?_⟩⟩⟩
 .simp only[dV]at h;omega
 .simp only[dV]at h;have hN:(k:Int).toNat=k:=by omega
  rw[hN];refine⟨by omega,λd hd=>⟨trivial,ah.2 ⟨λh2=>⟨rfl,?_⟩,λh2=>⟨trivial,ah.2 ⟨λh3=>⟨rfl,?_⟩,λh3=>ah.2 ⟨λh4=>⟨rfl,?_⟩,λh4=>⟨ay.2 (by omega),k+1,⟨by omega,λj hj i hi=>?_⟩,⟨rfl,trivial⟩,rfl,by omega⟩⟩⟩⟩⟩⟩⟩
  .have h2:rG d≠0:=by simpa using h2
   rw[Bj hc hd (by rw[apQ h2];exact h2) hk.2,apQ h2]
  all_goals have h2:rG d=0:=by simpa using h2
  .have h3:exS vs ms cs fs d.1 d.2.2.2.2.1 d.2.2.2.2.2.1=false:=by simpa using h3
   have e:=arL (m:=(l.length:Int)) h2 h3;rw[Bj hc hd (by rw[e];simp) hk.2,e]
  all_goals have h3:exS vs ms cs fs d.1 d.2.2.2.2.1 d.2.2.2.2.2.1=true:=by simpa using h3
  all_goals have e:=arM (m:=(l.length:Int)) h2 h3
  .rw[if_pos (by simpa using h4)]at e
   rw[Bj hc hd (by rw[e];simp) hk.2,e]
  .by_cases ji:j=k
   .subst ji;rw[hd]at hi;cases hi;rw[if_neg (λq=>by
     have:((decide (d.1=4) || decide (d.1=5)) && (decide (d.2.2.2.2.2.1 < 0) || decide ((l.length:Int) < d.2.2.2.2.2.1)))=true:=by simpa using q
     rw[h4]at this;cases this)]at e
    exact e
   .exact hk.2 j (by omega) i hi
 .simp only[gG]at h;rw[ahp hc λj i hj=>hk.2 j (by have:=(eU.1 hj).1;omega) i hj];exact⟨rfl,rfl⟩
theorem aci:aW aU.gd 135 ajH:=
 kL (cx:=aU) (n:=58) (cl:=[(176,apB),(179,ajF)]) aA ⟨abA,acd,trivial⟩ Tryz.func135 λd hd=>by
  obtain⟨⟨vs,ms,cs,fs,ts,⟨⟩⟩,⟨nm,l,⟨⟩⟩,⟨⟩⟩:=d;exact aS (amu vs ms cs fs ts nm l) (ahq vs ms cs fs ts nm l) (by kernel_rfl)
theorem Dk:∀(i:Nat) (l:List FD) (n:Nat){x:FD},l[i]?=some x->jX n l=jX n (l.take i)++(qQ (n+i) x++jX (n+i+1) (l.drop (i+1)))
 | 0,[],n,x,h=>by simp at h
 | 0,y :: l,n,x,h=>by
   simp at h;subst h;simp[jX]
 | i+1,[],n,x,h=>by simp at h
 | i+1,y :: l,n,x,h=>by
   have:=Dk i l (n+1) (x:=x) (by simpa using h)
   simp only[aj1,List.drop_succ_cons,jX];rw[this,DJ,show n+1+i=n+(i+1) by omega]
theorem RZ{n:Nat}{x:FD} (h:(qQ n x)[k]?=some d):∃e,x.2.1[k]?=some e/\d=(((n:Int),(k:Int),()),e,()):=by
 unfold qQ at h;rw[Ec,aeQ]at h;cases he:x.2.1[k]? with
 | none=>rw[he]at h;simp at h
 | some e=>rw[he]at h;simp at h;exact⟨e,rfl,h.symm⟩
theorem Bl{l:List ID} (h:(Bh vs ms cs fs l).1=0):l.length<=64/\∀(j:Nat) i,l[j]?=some i->xR vs ms cs fs i l.length=0:=by
 by_cases hl:64 < l.length
 .unfold Bh at h;rw[if_pos hl]at h;simp at h
 refine⟨by omega,?_⟩
 cases hf:l.findIdx? (λi=>decide (xR vs ms cs fs i l.length≠0)) with
 | none=>
   rw[A71]at hf;intro j i hj;simpa using hf i (iJ hj)
 | some k=>
   unfold Bh at h;rw[if_neg hl,hf]at h;rw[A50]at hf;obtain⟨hk,h1,_⟩:=hf;have e:l.getD k (0,0,0,0,0,0,0,0,())=l[k]:=by rw[Jk,kP hk];rfl
   have h:xR vs ms cs fs (l.getD k (0,0,0,0,0,0,0,0,())) l.length=0:=h;rw[e]at h;simp[h]at h1
theorem ahr{l:List ID} (hl:¬64 < l.length) (h:(Bh vs ms cs fs l).1≠0):∃(k:Nat) (e:ID),l[k]?=some e/\xR vs ms cs fs e l.length≠0/\(∀j < k,∀i,l[j]?=some i->xR vs ms cs fs i l.length=0)/\Bh vs ms cs fs l=(xR vs ms cs fs e l.length,(k:Int)):=by
 cases hf:l.findIdx? (λi=>decide (xR vs ms cs fs i l.length≠0)) with
 | none=>
   unfold Bh at h;rw[if_neg hl,hf]at h;exact absurd rfl h
 | some k=>
   rw[A50]at hf;obtain⟨hk,h1,h2⟩:=hf;have hn:∀j < k,∀i,l[j]?=some i->xR vs ms cs fs i l.length=0:=λj hj i hi=>by
    have:=h2 j hj;rw[(eU.1 hi).2]at this;simpa using this
   have h1:xR vs ms cs fs l[k] l.length≠0:=by simpa using h1
   exact⟨k,l[k],kP hk,h1,hn,Bj hl (kP hk) h1 hn⟩
theorem JV{x:FD} (hx:fs[k]?=some x) (j:Int) (e:ID):LY vs ms cs fs (((k:Int),j,()),e,())=xR vs ms cs fs e x.2.1.length:=UH (d:=(((k:Int),j,()),e,())) (by simpa using hx)
theorem Si{i:Nat} (hn:∀j < i,∀f,fs[j]?=some f->f.2.1.length<=64):dL fs = -1\/(i:Int)<=dL fs:=by
 unfold dL;cases hf:fs.findIdx? (λf=>decide (64 < f.2.1.length)) with
 | none=>exact .inl rfl
 | some k=>
   refine .inr ?_;rw[A50]at hf;obtain⟨hk,h1,_⟩:=hf;show(i:Int)<=(k:Int)
   by_cases hki:k < i
   .have:=hn k hki _ (kP hk);simp at h1;omega
   .omega
theorem acj{i:Nat}{f:FD} (hf:fs[i]?=some f) (h:(Bh vs ms cs fs f.2.1).1≠0) (hn:∀j < i,∀g,fs[j]?=some g->(Bh vs ms cs fs g.2.1).1=0):
 Ht vs ms cs fs=((Bh vs ms cs fs f.2.1).1,(i:Int),(Bh vs ms cs fs f.2.1).2):=by
 have hb:=Si (fs:=fs) (i:=i) λj hj g hg=>(Bl (hn j hj g hg)).1
 have aH:(jX 0 (fs.take i)).find? (λd=>decide (d.1.1=dL fs) || decide (LY vs ms cs fs d≠0))=none:=by
  rw[Yk];intro d hd;obtain⟨k,x,j,e,h1,h2,rfl⟩:=xU _ _ hd;have hk:k < i:=by have:=(eU.1 h1).1;simp at this;omega
  rw[ajX hk]at h1;have hz:=(Bl (hn k hk x h1)).2 j e h2;rw[show(0+k:Nat)=k by omega,JV h1,hz]
  have:¬((k:Int)=dL fs):=by omega
  simp[this]
 have hcut:=Dk i fs 0 hf;have key:∀{k:Nat}{e:ID},f.2.1[k]?=some e->((i:Int)=dL fs\/xR vs ms cs fs e f.2.1.length≠0)->(∀j < k,∀u,f.2.1[j]?=some u->(i:Int)≠dL fs/\xR vs ms cs fs u f.2.1.length=0) ->
  (dR fs).find? (λd=>decide (d.1.1=dL fs) || decide (LY vs ms cs fs d≠0))=some (((i:Int),(k:Int),()),e,()):=by
  intro k e he hbad hok;unfold dR;rw[hcut,List.find?_append,aH,Option.none_or,List.find?_append,show(0+i:Nat)=i by omega]
  rw[zo (k:=k) (JQ he) (by rw[JV hf];simpa using hbad) λj hj t ht=>by
   obtain⟨u,hu,rfl⟩:=RZ ht;obtain⟨a,b⟩:=hok j hj u hu;rw[JV hf,b];simp[a]]
  rfl
 by_cases hl:64 < f.2.1.length
 .have e1:dL fs=i:=Hr hf hl λj hj g hg=>(Bl (hn j hj g hg)).1
  have iq:0 < f.2.1.length:=by omega
  have:=key (k:=0) (kP iq) (.inl e1.symm) (λj hj=>by omega)
  unfold Ht;rw[this];show(if(i:Int)=dL fs then _ else _)=_
  rw[if_pos e1.symm,e1];unfold Bh;rw[if_pos hl]
 .obtain⟨k,e,h1,h2,h3,h4⟩:=ahr hl h;have hne:(i:Int)≠dL fs:=by
   intro q;have:=Dj (fs:=fs);unfold dL at q;cases hfi:fs.findIdx? (λf=>decide (64 < f.2.1.length)) with
   | none=>rw[hfi]at q;simp at q
   | some m=>
     rw[hfi]at q;rw[A50]at hfi;obtain⟨hm,a,_⟩:=hfi;have q:i=m:=by have q:(i:Int)=(m:Int):=q;omega
     subst q;rw[(eU.1 hf).2]at a;simp at a;omega
  have:=key h1 (.inr h2) (λj hj u hu=>⟨hne,h3 j hj u hu⟩)
  unfold Ht;rw[this];show(if(i:Int)=dL fs then _ else(LY vs ms cs fs _,(i:Int),(k:Int)))=_
  rw[if_neg hne,JV hf,h4]
theorem ahs(hn:∀(j:Nat) g,fs[j]?=some g->(Bh vs ms cs fs g.2.1).1=0):Ht vs ms cs fs=(0,-1,-1):=by
 have hl:dL fs = -1:=Dj λj g hg=>(Bl (hn j g hg)).1
 rw[RX λj d hd=>?_,if_neg (by rw[hl];simp)]
 obtain⟨k,x,m,e,h1,h2,rfl⟩:=xU _ _ (iJ hd);rw[show(0+k:Nat)=k by omega,JV h1,hl]
 exact⟨by show¬((k:Int) = -1);omega,(Bl (hn k x h1)).2 m e h2⟩
theorem JW:∀(l:List FD) (n m:Nat),(∀x∈l,x.2.1.length<=m)->(jX n l).length<=l.length * m
 | [],n,m,h=>by simp[jX]
 | x :: l,n,m,h=>by
   have:=JW l (n+1) m λy hy=>h y (by simp[hy])
   have:=h x (by simp)
   have e:(qQ n x).length=x.2.1.length:=by simp[qQ]
   simp only[jX,kZ,yP,yQ];omega
theorem JX(h:UK vs ms cs fs ts=true):bnd ((vs,ms,cs,fs,ts,()),()):=by
 unfold UK at h;rw[A8,dV,Ti]at h;obtain⟨⟨h1,h2,h3,h4,h5⟩,h6⟩:=h;have h6:∀x∈fs,x.2.1.length<=100:=λx hx=>by simpa using h6 x hx
 have:=JW fs 0 100 h6;refine⟨?_,?_,?_,?_,?_,λx hx=>?_,?_⟩
 .show vs.length<=_;omega
 .show ms.length<=_;omega
 .show cs.length<=_;omega
 .show fs.length<=_;omega
 .show ts.length<=_;omega
 .have:=h6 x hx;omega
 .show(jX 0 fs).length<=_;omega
theorem LZ(h:(En vs ms cs fs).1≠0):aF vs ms cs fs ts=En vs ms cs fs:=by unfold aF;rw[if_pos h]
theorem acn(z:(En vs ms cs fs).1=0) (h:BX vs ms cs fs≠0):aF vs ms cs fs ts=(BX vs ms cs fs,-1,-1):=by unfold aF;rw[if_neg (λq=>q z),if_pos h]
theorem amv(z:(En vs ms cs fs).1=0) (z2:BX vs ms cs fs=0) (h:(Ht vs ms cs fs).1≠0):aF vs ms cs fs ts=Ht vs ms cs fs:=by unfold aF;rw[if_neg (λq=>q z),if_neg (λq=>q z2),if_pos h]
theorem amw(z:(En vs ms cs fs).1=0) (z2:BX vs ms cs fs=0) (z3:(Ht vs ms cs fs).1=0):aF vs ms cs fs ts=(EP fs ts,-1,-1):=by
 unfold aF;rw[if_neg (λq=>q z),if_neg (λq=>q z2),if_neg (λq=>q z3)]
 split
 .rfl
 .rename_i h;rw[IK.1 h]
abbrev Sj:CT:={ ps:=[tK],pre:=λd=>bnd d,res:=λd=>([],.iR [.c (.v (.int .i64 (aF d.1.1 d.1.2.1 d.1.2.2.1 d.1.2.2.2.1 d.1.2.2.2.2.1).1)),.c (.v (.int .i64 (aF d.1.1 d.1.2.1 d.1.2.2.1 d.1.2.2.2.1 d.1.2.2.2.2.1).2.1)),.c (.v (.int .i64 (aF d.1.1 d.1.2.1 d.1.2.2.1 d.1.2.2.2.1 d.1.2.2.2.2.1).2.2))]) }
abbrev apR(vs:List VD) (ms cs:List ByteArray) (fs:List FD) (ts:List SD):Nat->Option (St->kH):=λk=>match k with
 | 17=>some λ_=>.inv { α:=Nat,slots:=λk=>[(15,.c (.v (.int .i64 k)))],res:=λ_=>[],inv:=λk=>k<=vs.length/\∀j < k,∀v,vs[j]?=some v->dh v.2.1=true,meas:=λk=>vs.length - k }
 | 22=>some λ_=>.inv { α:=Nat,slots:=λk=>[(16,.c (.v (.int .i64 k)))],res:=λ_=>[],inv:=λk=>k<=fs.length/\∀j < k,∀g,fs[j]?=some g->(Bh vs ms cs fs g.2.1).1=0,meas:=λk=>fs.length - k }
 | _=>none
theorem amx(vs:List VD) (ms cs:List ByteArray) (fs:List FD) (ts:List SD) (aH:Sj.pre ((vs,ms,cs,fs,ts,()),())):
 let z6:=aF vs ms cs fs ts;let z4:=[cI (z6.fst),cI (z6.snd.fst),cI (z6.snd.snd)];let z7:=ig (jD fs);let z3:=λ(x:Nat)=>(x<=vs.length/\∀(j:Nat),j < x->∀(v:ByteArray×Int×Unit),vs[j]?=some v->dh v.snd.fst=true);let z1:=[g0 (au.blk 27 [SC.sl LU vs,SC.sl Sh.str ms,SC.sl Sh.str cs,SC.sl IG fs,SC.sl nD ts]),g0 (au.row 9 Sh.str (iD vs)),g0 (au.row 9 Sh.str (jD fs))];let z5:=λ(x:Nat)=>(x:Int)+(1:Int);let z2:=λ(x:Nat)=>(x<=fs.length/\∀(j:Nat),j < x->∀(g:ByteArray×List ID×Unit),fs[j]?=some g->(Bh vs ms cs fs g.snd.fst).fst=0);(vs.length<=1000000/\fs.length<=1000000)/\(iD vs).length<=1000000/\br (!decide ((ig (iD vs)).fst=0)) (rT z4 [cI ((ig (iD vs)).fst),cI (-1),cI (-1)]) (ms.length<=1000000/\br (!decide ((ig ms).fst=0)) (rT z4 [cI ((ig ms).fst),cI (-1),cI (-1)]) (cs.length<=1000000/\br (!decide ((ig cs).fst=0)) (rT z4 [cI ((ig cs).fst),cI (-1),cI (-1)]) ((jD fs).length<=1000000/\br (!decide (z7.fst=0)) (rT z4 [cI (z7.fst),cI (if z7.fst=0 then(0:Int) else z7.snd),cI (-1)]) (br (decide (8 < (vs.length:Int)) || decide (4 < (ms.length:Int)) || decide (4 < (cs.length:Int)) || decide (8 < (fs.length:Int))) (rT z4 [cI 4,cI (-1),cI (-1)]) ((∃x,(z3 x)/\(cI 0=cI (x:Int)/\True)/\sm z1)/\∀(x:Nat),(z3 x)->br (decide ((x:Int) < (vs.length:Int))) ((0<=(x:Int)/\(x:Int) < (vs.length:Int))/\∀(d:ByteArray×(I6.pair Sh.unit).den),vs[(x:Int).toNat]?=some d->True/\br (!dh (d.snd.fst,()).fst) (rT z4 [cI 2,cI (-1),cI (-1)]) (dX IntKind.i64 (z5 x)/\∃x',(z3 x')/\(cI (z5 x)=cI (x':Int)/\True)/\sm z1/\vs.length - x' < vs.length - x)) ((∃x,(z2 x)/\(cI 0=cI (x:Int)/\True)/\sm z1)/\∀(x:Nat),(z2 x)->br (decide ((x:Int) < (fs.length:Int))) ((0<=(x:Int)/\(x:Int) < (fs.length:Int))/\∀(d:ByteArray×(o7.sl.pair Sh.unit).den),fs[(x:Int).toNat]?=some d->True/\br (!decide ((Bh vs ms cs fs (d.snd.fst,()).fst).fst=0)) (rT z4 [cI ((Bh vs ms cs fs (d.snd.fst,()).fst).fst),cI (x:Int),cI ((Bh vs ms cs fs (d.snd.fst,()).fst).snd)]) (dX IntKind.i64 (z5 x)/\∃x',(z2 x')/\(cI (z5 x)=cI (x':Int)/\True)/\sm z1/\fs.length - x' < fs.length - x)) (True/\rT z4 [cI (EP fs ts),cI (-1),cI (-1)]))))))):=by
 conv=>zeta
 delta cI g0 rT sm I6;obtain⟨h1,h2,h3,h4,h5,h6,h7⟩:bnd ((vs,ms,cs,fs,ts,()),()):=aH;have h1:vs.length<=1000000:=h1;have h4:fs.length<=1000000:=h4;refine⟨⟨h1,h4⟩,by simpa[iD]using h1,ah.2 ⟨λa=>⟨rfl,?_⟩,λa=>⟨h2,ah.2 ⟨λb=>⟨rfl,?_⟩,λb=>⟨h3,ah.2 ⟨λc=>⟨rfl,?_⟩,λc=>⟨by simpa[jD]using h4,ah.2 ⟨λd=>⟨rfl,?_⟩,λd=>?_⟩⟩⟩⟩⟩⟩⟩⟩
 all_goals try simp only[Kq,zG,dV,gG]at a
 all_goals try simp only[Kq,zG,dV,gG]at b
 all_goals try simp only[Kq,zG,dV,gG]at c
 all_goals try simp only[Kq,zG,dV,gG]at d
 .have e:En vs ms cs fs=((ig (iD vs)).1,-1,-1):=by unfold En;rw[if_pos a]
  rw[LZ (by rw[e];exact a),e]
 .have e:En vs ms cs fs=((ig ms).1,-1,-1):=by unfold En;rw[if_neg (λq=>q a),if_pos b]
  rw[LZ (by rw[e];exact b),e]
 .have e:En vs ms cs fs=((ig cs).1,-1,-1):=by unfold En;rw[if_neg (λq=>q a),if_neg (λq=>q b),if_pos c]
  rw[LZ (by rw[e];exact c),e]
 all_goals have e:En vs ms cs fs=((ig (jD fs)).1,(ig (jD fs)).2,-1):=by unfold En;rw[if_neg (λq=>q a),if_neg (λq=>q b),if_neg (λq=>q c)]
 .rw[LZ (by rw[e];exact d),e,if_neg d]
 have z:(En vs ms cs fs).1=0:=by rw[e];exact d
 clear e a b c d
 by_cases hc:8 < vs.length\/4 < ms.length\/4 < cs.length\/8 < fs.length
 .have e:BX vs ms cs fs=4:=by unfold BX;rw[if_pos hc]
  rw[acn z (by rw[e];simp),e]
  refine ah.2 ⟨λ_=>⟨rfl,rfl⟩,λh=>?_⟩
  simp only[oI,gG]at h;omega
 refine ah.2 ⟨λh=>?_,λ_=>⟨⟨0,⟨by omega,λj hj=>by omega⟩,⟨rfl,trivial⟩,rfl⟩,λk hk=>ah.2 ⟨λh=>?_,λh=>⟨⟨0,⟨by omega,λj hj=>by omega⟩,⟨rfl,trivial⟩,rfl⟩,λm hm=>ah.2 ⟨λh8=>?_,λh8=>⟨trivial,rfl,?_⟩⟩⟩⟩⟩⟩
 .simp only[Ee,dV]at h;omega
 .simp only[dV]at h;have hN:(k:Int).toNat=k:=by omega
  rw[hN];refine⟨by omega,λd hd=>⟨trivial,ah.2 ⟨λh9=>⟨rfl,?_⟩,λh9=>⟨ay.2 (by omega),k+1,⟨by omega,λj hj v hv=>?_⟩,⟨rfl,trivial⟩,rfl,by omega⟩⟩⟩⟩
  .have h9:dh d.2.1=false:=by simpa using h9
   have e:BX vs ms cs fs=2:=by
    unfold BX;rw[if_neg hc,if_neg];intro hh;rw[Ti]at hh;have:=hh d (iJ hd);rw[h9]at this;cases this
   rw[acn z (by rw[e];simp),e]
  .have h9:dh d.2.1=true:=by simpa using h9
   by_cases ji:j=k
   .subst ji;rw[hd]at hv;cases hv;exact h9
   .exact hk.2 j (by omega) v hv
 all_goals
  simp only[gG]at h;have z2:BX vs ms cs fs=0:=by
   unfold BX;rw[if_neg hc,if_pos];rw[Ti];intro v hv;obtain⟨j,hj⟩:=II hv;exact hk.2 j (by have:=(eU.1 hj).1;omega) v hj
 .simp only[dV]at h8;have hN:(m:Int).toNat=m:=by omega
  rw[hN];refine⟨by omega,λd hd=>⟨trivial,ah.2 ⟨λh9=>⟨rfl,?_⟩,λh9=>⟨ay.2 (by omega),m+1,⟨by omega,λj hj v hv=>?_⟩,⟨rfl,trivial⟩,rfl,by omega⟩⟩⟩⟩
  .have h9:(Bh vs ms cs fs d.2.1).1≠0:=by simpa using h9
   have e:=acj hd h9 hm.2;rw[amv z z2 (by rw[e];exact h9),e]
  .have h9:(Bh vs ms cs fs d.2.1).1=0:=by simpa using h9
   by_cases ji:j=m
   .subst ji;rw[hd]at hv;cases hv;exact h9
   .exact hm.2 j (by omega) v hv
 .simp only[gG]at h8;have e:=ahs (vs:=vs) (ms:=ms) (cs:=cs) λj g hj=>hm.2 j (by have:=(eU.1 hj).1;omega) g hj
  rw[amw z z2 (by rw[e])]
theorem aht:aW aU.gd 66 Sj:=
 kL (cx:=aU) (n:=120) (cl:=[(132,acg),(133,RY),(134,RJ),(135,ajH),(136,ajE)]) aA ⟨ach,acf,OX,aci,ab9,trivial⟩ Tryz.func66 λd hd=>by
  obtain⟨⟨vs,ms,cs,fs,ts,⟨⟩⟩,⟨⟩⟩:=d;exact aS (apR vs ms cs fs ts) (amx vs ms cs fs ts hd) (by kernel_rfl)
def bC(n:Int):Int:=if n % 4294967296<=2147483647 then n % 4294967296 else n % 4294967296 - 4294967296
theorem xW(n:Int):-2147483648<=bC n/\bC n<=2147483647:=by
 unfold bC;split<;>omega
theorem Hu{n:Int}:bC n=n↔-2147483648<=n/\n<=2147483647:=by
 unfold bC;constructor
 .intro h;split at h<;>omega
 .intro h;split<;>omega
def iG(f a b:Int):Int×Int:=
 if f=1 then(bC (bC a+bC b),0) else if f=2 then(bC (bC a - bC b),0) else if f=3 then(bC (bC a * bC b),0)
 else if f=4 then(bC (qH .and .i64 (bC a) (bC b)),0) else if f=5 then(bC (qH .or .i64 (bC a) (bC b)),0) else if f=6 then(bC (qH .xor .i64 (bC a) (bC b)),0)
 else if f=7 then(if bC a=bC b then 1 else 0,0) else if f=8 then(if bC a=bC b then 0 else 1,0) else if f=9 then(if bC a < bC b then 1 else 0,0)
 else if f=10 then(if bC a<=bC b then 1 else 0,0) else(0,8)
theorem Sl(f a b:Int):-2147483648<=(iG f a b).1/\(iG f a b).1<=2147483647:=by
 unfold iG
 repeat' split
 all_goals first | exact xW _ | (constructor<;>omega)
def iH:Nat->Int->Int->Int
 | 0,_,_=>-1
 | n+1,d,id=>if id < 8 then d else if 7<=id.tmod 8 then -1 else iH n (d+1) (id.tdiv 8 - 1)
def bU(id:Int):Int:=if id < 0 then -1 else iH 5 0 id
theorem zq:∀(n:Nat) (d id:Int),0<=d->iH n d id = -1\/(d<=iH n d id/\iH n d id < d+n)
 | 0,d,id,h=>.inl rfl
 | n+1,d,id,h=>by
   unfold iH;split
   .right;omega
   .split
    .exact .inl rfl
    .rcases zq n (d+1) (id.tdiv 8 - 1) (by omega) with e | e
     .exact .inl e
     .right;omega
theorem Hw(id:Int):-1<=bU id/\bU id<=4:=by
 unfold bU;split
 .omega
 .rcases zq 5 0 id (by omega) with e | e<;>omega
theorem Bo:∀(n:Nat) (d id r:Int),iH (n+1) d id=r->0<=d->0<=r->r < d+n->iH n (d+1) id=r+1
 | 0,d,id,r,h,h0,h1,h2=>by
   have h:iH 1 d id=r:=h;rcases zq 1 d id h0 with e | e<;>omega
 | n+1,d,id,r,h,h0,h1,h2=>by
   unfold iH at h ⊢
   split at h
   .rename_i q;rw[if_pos q];omega
   .rename_i q;rw[if_neg q];split at h
    .omega
    .rename_i q2;rw[if_neg q2];exact Bo n (d+1) _ r h (by omega) h1 (by omega)
def Sm:Nat->Int
 | 0=>0
 | n+1=>8 * (Sm n+1)
theorem JY:∀(n:Nat) (d id:Int),0<=d->0<=id->0<=iH n d id->id < Sm n
 | 0,d,id,h0,h1,h2=>by simp[iH]at h2
 | n+1,d,id,h0,h1,h2=>by
   have hp:0<=Sm n:=by
    clear h2
    induction n with
    | zero=>simp[Sm]
    | succ n ih=>unfold Sm;omega
   unfold iH at h2;unfold Sm;split at h2
   .omega
   .split at h2
    .omega
    .have e:id.tdiv 8=id / 8:=aeK h1;rw[e]at h2;have:=JY n (d+1) (id / 8 - 1) (by omega) (by omega) h2
     omega
theorem lG(h:0<=bU id):0<=id/\id < 37448:=by
 unfold bU at h;split at h
 .omega
 .have:=JY 5 0 id (by omega) (by omega) h
  simp only[Sm]at this;omega
def dM(id ch:Int):Int×Bool:=if bU id < 0\/bU id=4\/ch < 0\/7<=ch then(0,false) else(8 * (id+1)+ch,true)
def UL(id:Int):Int×Bool:=if bU id < 1 then(0,false) else(id.tdiv 8 - 1,true)
def wP(id:Int):Int:=if bU id < 0 then 0 else bU id
theorem D5(h0:0<=bU id) (h4:bU id≠4) (c0:0<=ch) (c7:ch < 7):bU (8 * (id+1)+ch)=bU id+1/\(8 * (id+1)+ch).tdiv 8 - 1=id:=by
 obtain⟨i0,i1⟩:=lG h0;have e1:(8 * (id+1)+ch).tdiv 8=id+1:=by rw[aeK (by omega)];omega
 have e2:(8 * (id+1)+ch).tmod 8=ch:=by rw[Int.tmod_eq_emod_of_nonneg (by omega)];omega
 have hr:=Hw id;refine⟨?_,by omega⟩
 have hd:bU (8 * (id+1)+ch)=iH 4 1 id:=by
  unfold bU;rw[if_neg (by omega)]
  rw[iH,if_neg (by omega),e2,if_neg (by omega),e1,show id+1 - 1=id by omega]
  rfl
 rw[hd];have:bU id=iH 5 0 id:=by unfold bU;rw[if_neg (by omega)]
 exact Bo 4 0 id _ this.symm (by omega) h0 (by omega)
abbrev dQ:Sh:=.pair (.int .i64) (.pair (.int .i64) (.pair (.int .i64) (.pair (.arr 8 (.int .i64)) (.pair (.int .i64) (.pair (.int .i64) (.pair (.int .i64) (.pair (.int .i64) (.pair (.int .i64) (.pair (.sl (.int .i64)) .unit)))))))))
abbrev TD:=Int×Int×Int×List Int×Int×Int×Int×Int×Int×List Int×Unit
variable {t:TD}
def ng(op:Int):Bool:=decide (8<=op/\op<=22)
def nP(i:ID):Int×Bool:=if rG i≠0\/use i.1 0=false then(0,false) else(i.2.1,true)
def codeF(fs:List FD) (fn:Int):List ID:=(fs.getD fn.toNat (⟨#[]⟩,[],())).2.1
def qp(fs:List FD) (fn pc:Int):Option ID:=(codeF fs fn)[pc.toNat]?
def atR(fs:List FD) (fn pc:Int):ID×Bool:=match qp fs fn pc with
 | some i=>(i,true)
 | none=>((0,0,0,0,0,0,0,0,()),false)
def lN(id ch ph:Int) (hd:List Int) (i:ID):Int:=
 if ph≠0 then 0 else if i.1=18 then(if gq hd i.2.2.2.2.2.1=true then 0 else 27) else if i.1=16 then(if gq hd i.2.2.2.2.1=true then 0 else 27)
 else if i.1=21 then(if(dM id ch).2=true then 0 else 28) else 0
def dF(ms:List ByteArray) (fs:List FD) (bound:Int):TD->Prop
 | (id,fn,pc,rg,st,ch,ph,su,fa,hd,_)=>0<=bU id/\(0<=fn/\fn < fs.length)/\(0<=pc/\pc<=(codeF fs fn).length)/\(∀k < 8,∀r,rg[k]?=some r->dh r=true) /\
   (0<=st/\st<=bound)/\(0<=ch/\ch<=7/\(bU id=4->ch=0))/\SS hd/\(∀m∈hd,0<=m/\m < ms.length) /\
   (ph=0\/((ph=1\/ph=2)/\∃i,qp fs fn pc=some i/\i.1=18/\gq hd i.2.2.2.2.2.1=false))
open Classical in
def nG(ms:List ByteArray) (fs:List FD) (bound:Int) (t:TD):Bool:=decide (dF ms fs bound t)
def fU:TD->ID->TD×Bool
 | (id,fn,pc,rg,st,ch,ph,su,fa,hd,_),(op,a,b,c,obj,n,f,_,_)=>
   if op=1 then((id,fn,pc+1,rg.set a.toNat n,st,ch,ph,su,fa,hd,()),true)
   else if op=2 then((id,fn,pc+1,rg.set a.toNat (rg.getD b.toNat 0),st,ch,ph,su,fa,hd,()),true)
   else if op=3 then((id,fn,pc+1,if(iG f (rg.getD b.toNat 0) (rg.getD c.toNat 0)).2=0 then rg.set a.toNat (iG f (rg.getD b.toNat 0) (rg.getD c.toNat 0)).1 else rg,st,ch,ph,su,fa,hd,()),true)
   else if op=4 then((id,fn,n,rg,st,ch,ph,su,fa,hd,()),true)
   else if op=5 then((id,fn,if rg.getD b.toNat 0=0 then pc+1 else n,rg,st,ch,ph,su,fa,hd,()),true)
   else if op=6/\rg.getD b.toNat 0=0 then((id,fn,pc,rg,st,ch,ph,3,26,hd,()),false)
   else if op=7 then((id,fn,pc,rg,st,ch,ph,2,0,hd,()),false)
   else((id,fn,pc+1,rg,st,ch,ph,su,fa,hd,()),true)
def L6:TD->Int->Int->TD
 | (id,fn,pc,rg,st,ch,ph,_,_,hd,_),s,f=>(id,fn,pc,rg,st,ch,ph,s,f,hd,())
def topS(fs:List FD) (bound:Int) (t:TD) (rest:ID->TD):TD:=match t with
 | (id,fn,pc,rg,st,ch,ph,su,fa,hd,_)=>match qp fs fn pc with
   | none=>(id,fn,pc,rg,st,ch,ph,2,0,hd,())
   | some i=>if ng i.1=true then
    (if lN id ch ph hd i≠0 then(id,fn,pc,rg,st,ch,ph,3,lN id ch ph hd i,hd,()) else if st=bound then(id,fn,pc,rg,st,ch,ph,4,0,hd,()) else(id,fn,pc,rg,st,ch,ph,su,fa,hd,()))
     else rest i
def eH(fs:List FD) (bound:Int):Nat->TD->TD
 | 0,t=>topS fs bound t λ_=>L6 t 3 29
 | k+1,t=>topS fs bound t λi=>if(fU t i).2=true then eH fs bound k (fU t i).1 else(fU t i).1
def vW(ms:List ByteArray) (fs:List FD) (bound:Int):TD->Prop
 | (id,fn,pc,rg,st,ch,ph,su,fa,hd,u)=>dF ms fs bound (id,fn,pc,rg,st,ch,ph,su,fa,hd,u) /\
   (((su=1/\st < bound\/su=4/\1<=st)/\fa=0/\∃i,qp fs fn pc=some i/\ng i.1=true/\lN id ch ph hd i=0) \/
    (su=2/\fa=0/\ph=0/\∀i,qp fs fn pc=some i->i.1=7) \/
    (su=3/\ph=0/\∃i,qp fs fn pc=some i/\(fa=26/\i.1=6/\rg.getD i.2.2.1.toNat 0=0\/fa=29/\ng i.1=false\/fa≠26/\fa≠29/\fa≠0/\lN id ch ph hd i=fa)))
open Classical in
def wQ(ms:List ByteArray) (fs:List FD) (bound:Int) (t:TD):Bool:=decide (vW ms fs bound t)
theorem ni(h:rG i=0):(0<=i.2.1/\i.2.1 < 8)/\(0<=i.2.2.1/\i.2.2.1 < 8)/\(0<=i.2.2.2.1/\i.2.2.2.1 < 8)/\(1<=i.1/\i.1<=22):=by
 unfold rG pV at h;split at h
 .simp at h
 split at h
 .simp at h
 split at h
 .simp at h
 .rename_i h1 h2 h3;simp only[XC,uO]at h1 h3;simp only[Ee,Kq,Qi,gG]at h1 h3;refine⟨?_,?_,?_,?_⟩<;>omega
theorem amy(h:rG i=0) (h1:i.1=1):dh i.2.2.2.2.2.1=true:=by
 unfold rG pV at h
 repeat' split at h
 all_goals first | (simp at h;done) | skip
 rename_i q1 q2 q3 q4 q5 q6;simp[h1]at q6;unfold dh;simp;omega
theorem ahu{x:FD} (hx:fs[k]?=some x){j:Nat} (hj:x.2.1[j]?=some i):(((k:Int),(j:Int),()),i,())∈dR fs:=by
 unfold dR;rw[Dk k fs 0 hx];refine aj0 _ (List.mem_append_left _ ?_);unfold qQ;rw[Qn];refine⟨(i,j),?_,by simp⟩
 rw[A90];exact⟨j,by rw[aeQ,hj];simp⟩
theorem tN{fn:Int} (h:0<=fn/\fn < fs.length):∃x,fs[fn.toNat]?=some x/\codeF fs fn=x.2.1:=by
 have hl:fn.toNat < fs.length:=by omega
 refine⟨fs[fn.toNat],kP hl,?_⟩;unfold codeF;rw[Jk,kP hl];rfl
theorem D6(h:(aF vs ms cs fs ts).1=0){fn:Int} (hf:0<=fn/\fn < fs.length) (hi:qp fs fn pc=some i):xR vs ms cs fs i (codeF fs fn).length=0:=by
 obtain⟨c1,c2,c3⟩:=kV h;obtain⟨x,hx,ex⟩:=tN hf;unfold qp at hi;rw[ex]at hi ⊢;have:=amm c2 _ (ahu hx hi)
 rwa [JV hx]at this
theorem qR(h:xR vs ms cs fs i m=0):rG i=0/\(0<=pX vs ms cs fs i.1->0<=i.2.2.2.2.1/\i.2.2.2.2.1 < pX vs ms cs fs i.1)/\(i.1=18->0<=i.2.2.2.2.2.1/\i.2.2.2.2.2.1 < ms.length)/\(i.1=4\/i.1=5->0<=i.2.2.2.2.2.1/\i.2.2.2.2.2.1<=m):=by
 unfold xR ciS at h;split at h
 .rename_i q;exact absurd h q
 split at h
 .cases h
 split at h
 .cases h
 split at h
 .cases h
 .rename_i q1 q2 q3 q4;refine⟨IK.1 q1,λh0=>?_,λh0=>?_,λh0=>?_⟩
  .omega
  .omega
  .omega
theorem Bq{a:Nat}{v:Int} (h:∀k < 8,∀r,rg[k]?=some r->dh r=true) (hv:dh v=true):∀k < 8,∀r,(rg.set a v)[k]?=some r->dh r=true:=by
 intro k hk r hr;rw[List.getElem?_set]at hr;split at hr
 .split at hr
  .cases hr;exact hv
  .cases hr
 .exact h k hk r hr
theorem Hy{b:Int} (h:∀k < 8,∀r,rg[k]?=some r->dh r=true) (hb:0<=b/\b < 8):dh (rg.getD b.toNat 0)=true:=by
 rw[Jk];cases hq:rg[b.toNat]? with
 | none=>rfl
 | some r=>exact h _ (by omega) r hq
theorem L8(f a b:Int):dh (iG f a b).1=true:=by
 have:=Sl f a b;unfold dh;simpa using this
theorem UM{n:Nat} (h:0<=pc) (h2:pc.toNat < n):0<=pc+1/\pc+1<=(n:Int):=by omega
theorem ajI{fn:Int} (h:qp fs fn pc=some i):pc.toNat < (codeF fs fn).length:=(eU.1 h).1
theorem aco{fn st ph su fa:Int}{hd:List Int}{u:Unit} (h:dF ms fs bound (id,fn,pc,rg,st,ch,ph,su,fa,hd,u)) (hi:qp fs fn pc=some i) (hv:ng i.1=false):ph=0:=by
 rcases h.2.2.2.2.2.2.2.2 with e | ⟨_,j,hj,h18,_⟩
 .exact e
 .rw[hi]at hj;cases hj;rw[h18]at hv;cases hv
theorem ahv{fn st ph su fa:Int}{hd:List Int}{u:Unit} (h:dF ms fs bound (id,fn,pc,rg,st,ch,ph,su,fa,hd,u)) (hi:qp fs fn pc=none):ph=0:=by
 rcases h.2.2.2.2.2.2.2.2 with e | ⟨_,j,hj,h18,_⟩
 .exact e
 .rw[hi]at hj;cases hj
theorem Hz(hc:(aF vs ms cs fs ts).1=0) (h:dF ms fs bound t) (hi:qp fs t.2.1 t.2.2.1=some i) (hv:ng i.1=false):dF ms fs bound (fU t i).1:=by
 obtain⟨id,fn,pc,rg,st,ch,ph,su,fa,hd,u⟩:=t;obtain⟨op,a,b,c,obj,n,f,ord,u2⟩:=i;have hi:qp fs fn pc=some (op,a,b,c,obj,n,f,ord,u2):=hi;have hp:=aco h hi hv;have iq:=ajI hi;obtain⟨h1,h2,h3,h4,h5,h6,h7,h8,h9⟩:=h;have ok:=D6 hc h2 hi;obtain⟨k1,k2,k3,k4⟩:=qR ok;obtain⟨r1,r2,r3,r4⟩:=ni k1;have k4:op=4\/op=5->0<=n/\n<=((codeF fs fn).length:Int):=k4;have hpc:=UM h3.1 iq;have key:∀(pc':Int) (Ye:List Int) (su' fa':Int),(0<=pc'/\pc'<=((codeF fs fn).length:Int))->(∀k < 8,∀r,Ye[k]?=some r->dh r=true)->dF ms fs bound (id,fn,pc',Ye,st,ch,ph,su',fa',hd,()):=
  λpc' Ye su' fa' q1 q2=>⟨h1,h2,q1,q2,h5,h6,h7,h8,.inl hp⟩
 unfold fU;simp only;split
 .rename_i e;exact key _ _ _ _ hpc (Bq h4 (amy k1 e))
 split
 .exact key _ _ _ _ hpc (Bq h4 (Hy h4 r2))
 split
 .split
  .exact key _ _ _ _ hpc (Bq h4 (L8 _ _ _))
  .exact key _ _ _ _ hpc h4
 split
 .rename_i e;exact key _ _ _ _ (k4 (.inl e)) h4
 split
 .rename_i e;split
  .exact key _ _ _ _ hpc h4
  .exact key _ _ _ _ (k4 (.inr e)) h4
 split
 .exact key _ _ _ _ h3 h4
 split
 .exact key _ _ _ _ h3 h4
 .exact key _ _ _ _ hpc h4
theorem Bv(t:TD) (i:ID):(fU t i).1.1=t.1/\(fU t i).1.2.1=t.2.1/\(fU t i).1.2.2.2.2.1=t.2.2.2.2.1/\(fU t i).1.2.2.2.2.2.1=t.2.2.2.2.2.1/\(fU t i).1.2.2.2.2.2.2.1=t.2.2.2.2.2.2.1/\(fU t i).1.2.2.2.2.2.2.2.2.2.1=t.2.2.2.2.2.2.2.2.2.1/\((fU t i).2=true->(fU t i).1.2.2.2.2.2.2.2.1=t.2.2.2.2.2.2.2.1/\(fU t i).1.2.2.2.2.2.2.2.2.1=t.2.2.2.2.2.2.2.2.1):=by
 obtain⟨id,fn,pc,rg,st,ch,ph,su,fa,hd,u⟩:=t;obtain⟨op,a,b,c,obj,n,f,ord,u2⟩:=i;unfold fU;simp only
 repeat' split
 all_goals simp
theorem XK(id ch ph:Int) (hd:List Int) (i:ID):lN id ch ph hd i=0\/(ph=0/\(lN id ch ph hd i=27\/lN id ch ph hd i=28)):=by
 unfold lN
 repeat' split
 all_goals first | exact .inl rfl | (right;constructor<;>first | omega | simp)
theorem top_vld(hb:1<=bound){rest:ID->TD}{fn st ph:Int}{hd:List Int}{u:Unit} (h:dF ms fs bound (id,fn,pc,rg,st,ch,ph,1,0,hd,u))
 (hr:∀i,qp fs fn pc=some i->ng i.1=false->ph=0->vW ms fs bound (rest i)):vW ms fs bound (topS fs bound (id,fn,pc,rg,st,ch,ph,1,0,hd,u) rest):=by
 unfold topS;simp only;split
 .rename_i hi;exact⟨h,.inr (.inl ⟨rfl,rfl,ahv h hi,λi q=>by rw[hi]at q;cases q⟩)⟩
 rename_i i hi;split
 .rename_i hv;have ho:=XK id ch ph hd i;split
  .rename_i e;refine⟨h,.inr (.inr ⟨rfl,by omega,i,hi,.inr (.inr ⟨by omega,by omega,by omega,rfl⟩)⟩)⟩
  .rename_i e;have e:lN id ch ph hd i=0:=by omega
   have hst:=h.2.2.2.2.1;split
   .exact⟨h,.inl ⟨.inr ⟨rfl,by omega⟩,rfl,i,hi,hv,e⟩⟩
   .exact⟨h,.inl ⟨.inl ⟨rfl,by omega⟩,rfl,i,hi,hv,e⟩⟩
 .rename_i hv;have hv:ng i.1=false:=by simpa using hv
  exact hr i hi hv (aco h hi hv)
theorem UN(hc:(aF vs ms cs fs ts).1=0) (hb:1<=bound):∀(k:Nat) (t:TD),dF ms fs bound t->t.2.2.2.2.2.2.2.1=1->t.2.2.2.2.2.2.2.2.1=0->vW ms fs bound (eH fs bound k t):=by
 intro k
 induction k with
 | zero=>
   rintro⟨id,fn,pc,rg,st,ch,ph,su,fa,hd,u⟩ h h1 h2;have h1:su=1:=h1;have h2:fa=0:=h2;subst h1;subst h2;rw[eH];refine top_vld hb h λi hi hv hp=>?_
   show vW ms fs bound (id,fn,pc,rg,st,ch,ph,3,29,hd,());exact⟨h,.inr (.inr ⟨rfl,hp,i,hi,.inr (.inl ⟨rfl,hv⟩)⟩)⟩
 | succ k ih=>
   rintro⟨id,fn,pc,rg,st,ch,ph,su,fa,hd,u⟩ h h1 h2;have h1:su=1:=h1;have h2:fa=0:=h2;subst h1;subst h2;rw[eH];refine top_vld hb h λi hi hv hp=>?_
   have hf:=Hz hc (t:=(id,fn,pc,rg,st,ch,ph,1,0,hd,u)) h hi hv;have hk:=Bv (id,fn,pc,rg,st,ch,ph,1,0,hd,u) i;split
   .rename_i e;exact ih _ hf (hk.2.2.2.2.2.2 e).1 (hk.2.2.2.2.2.2 e).2
   .rename_i e;obtain⟨op,a,b,c,obj,n,f,ord,u2⟩:=i;unfold fU at e ⊢;simp only at e ⊢
    by_cases n1:op=1
    .rw[if_pos n1]at e;exact absurd rfl e
    rw[if_neg n1]at e ⊢
    by_cases n2:op=2
    .rw[if_pos n2]at e;exact absurd rfl e
    rw[if_neg n2]at e ⊢
    by_cases n3:op=3
    .rw[if_pos n3]at e;exact absurd rfl e
    rw[if_neg n3]at e ⊢
    by_cases n4:op=4
    .rw[if_pos n4]at e;exact absurd rfl e
    rw[if_neg n4]at e ⊢
    by_cases n5:op=5
    .rw[if_pos n5]at e;exact absurd rfl e
    rw[if_neg n5]at e ⊢
    by_cases n6:op=6/\rg.getD b.toNat 0=0
    .rw[if_pos n6];exact⟨h,.inr (.inr ⟨rfl,hp,_,hi,.inl ⟨rfl,n6.1,n6.2⟩⟩)⟩
    rw[if_neg n6]at e ⊢
    by_cases n7:op=7
    .rw[if_pos n7];exact⟨h,.inr (.inl ⟨rfl,rfl,hp,λj hj=>by rw[hi]at hj;cases hj;exact n7⟩)⟩
    rw[if_neg n7]at e;exact absurd rfl e
theorem top_keep{rest:ID->TD} (hr:∀i,(rest i).1=t.1/\(rest i).2.1=t.2.1/\(rest i).2.2.2.2.1=t.2.2.2.2.1/\(rest i).2.2.2.2.2.2.2.2.2.1=t.2.2.2.2.2.2.2.2.2.1):
 (topS fs bound t rest).1=t.1/\(topS fs bound t rest).2.1=t.2.1/\(topS fs bound t rest).2.2.2.2.1=t.2.2.2.2.1/\(topS fs bound t rest).2.2.2.2.2.2.2.2.2.1=t.2.2.2.2.2.2.2.2.2.1:=by
 obtain⟨id,fn,pc,rg,st,ch,ph,su,fa,hd,u⟩:=t;unfold topS;simp only;split
 .exact⟨rfl,rfl,rfl,rfl⟩
 split
 .repeat' split
  all_goals exact⟨rfl,rfl,rfl,rfl⟩
 .exact hr _
theorem wR(fs:List FD) (bound:Int):∀(k:Nat) (t:TD),(eH fs bound k t).1=t.1/\(eH fs bound k t).2.1=t.2.1/\(eH fs bound k t).2.2.2.2.1=t.2.2.2.2.1/\(eH fs bound k t).2.2.2.2.2.2.2.2.2.1=t.2.2.2.2.2.2.2.2.2.1:=by
 intro k
 induction k with
 | zero=>
   intro t;rw[eH];exact top_keep λi=>⟨rfl,rfl,rfl,rfl⟩
 | succ k ih=>
   intro t;rw[eH];refine top_keep λi=>?_
   have hk:=Bv t i;have:=ih (fU t i).1;split
   .exact⟨this.1.trans hk.1,this.2.1.trans hk.2.1,this.2.2.1.trans hk.2.2.1,this.2.2.2.trans hk.2.2.2.2.2.1⟩
   .exact⟨hk.1,hk.2.1,hk.2.2.1,hk.2.2.2.2.2.1⟩
def oh(l o:List Int) (b:Bool):List Int:=l.filter λx=>gq o x == b
def Bz(l:List Int) (x:Int):List Int:=oh (bT l) [x] false
def zu(l:List Int) (x:Int):List Int:=bT (l++[x])
theorem Sr(l:List Int) (x:Int):SS (Bz l x):=List.Pairwise.filter _ (AY l)
theorem BA{x y:Int}:y∈Bz l x↔y∈l/\y≠x:=by
 unfold Bz oh;rw[VZ,AZ];have:(gq [x] y == false)=true↔y≠x:=by
  rw[yR,pW,Ya]
 rw[this]
theorem ES{x y:Int}:y∈zu l x↔y∈l\/y=x:=by
 unfold zu;rw[AZ];simp
theorem HY{n:Int} (h:SS l):l.filter (λx=>decide (x≠n))=Bz l n:=by
 refine LQ (List.Pairwise.filter _ h) (Sr _ _) λx=>?_
 rw[BA,VZ];simp
def zT:TD:=(0,0,0,[0,0,0,0,0,0,0,0],0,0,0,0,0,[],())
def gI:TD->ID->Int->TD
 | (id,fn,pc,rg,st,ch,ph,su,fa,hd,_),i,result=>
   if i.1=18 then
    (if ph=0 then(id,fn,pc,if(nP i).2=true then rg.set (nP i).1.toNat result else rg,st+1,ch,1,su,fa,Bz hd i.2.2.2.2.2.1,())
     else if ph=1 then(id,fn,pc,if(nP i).2=true then rg.set (nP i).1.toNat result else rg,st+1,ch,2,su,fa,hd,())
     else(id,fn,pc+1,if(nP i).2=true then rg.set (nP i).1.toNat result else rg,st+1,ch,0,su,fa,zu hd i.2.2.2.2.2.1,()))
   else(id,fn,pc+1,if(nP i).2=true then rg.set (nP i).1.toNat result else rg,st+1,if i.1=21 then ch+1 else ch,ph,su,fa,
    if i.1=15\/(i.1=17/\result≠0) then zu hd i.2.2.2.2.1 else if i.1=16 then Bz hd i.2.2.2.2.1 else hd,())
theorem JZ{op:Int} (h:op=15\/op=16\/op=17):pX vs ms cs fs op=ms.length:=by
 unfold pX;rw[if_neg (by omega),if_pos h]
theorem Dl(h:vW ms fs bound t) (h1:t.2.2.2.2.2.2.2.1=1):t.2.2.2.2.2.2.2.2.1=0/\t.2.2.2.2.1 < bound/\∃i,qp fs t.2.1 t.2.2.1=some i/\ng i.1=true/\lN t.1 t.2.2.2.2.2.1 t.2.2.2.2.2.2.1 t.2.2.2.2.2.2.2.2.2.1 i=0:=by
 obtain⟨id,fn,pc,rg,st,ch,ph,su,fa,hd,u⟩:=t;have h1:su=1:=h1;subst h1;obtain⟨hf,q | q | q⟩:=h
 .obtain⟨q1,q2,i,hi,hv,ho⟩:=q;rcases q1 with⟨_,q1⟩ | ⟨q1,_⟩
  .exact⟨q2,q1,i,hi,hv,ho⟩
  .exact absurd q1 (by decide)
 .exact absurd q.1 (by decide)
 .exact absurd q.1 (by decide)
theorem H6(hc:(aF vs ms cs fs ts).1=0) (h:vW ms fs bound t) (h1:t.2.2.2.2.2.2.2.1=1) (hi:qp fs t.2.1 t.2.2.1=some i){result:Int} (hv:dh result=true):dF ms fs bound (gI t i result):=by
 obtain⟨f0,s0,j,hj,vj,oj⟩:=Dl h h1;rw[hi]at hj;cases hj;obtain⟨id,fn,pc,rg,st,ch,ph,su,fa,hd,u⟩:=t;have hf:dF ms fs bound (id,fn,pc,rg,st,ch,ph,su,fa,hd,u):=h.1;have hi:qp fs fn pc=some i:=hi;have s0:st < bound:=s0;have oj:lN id ch ph hd i=0:=oj;have iq:=ajI hi;obtain⟨a1,a2,a3,a4,a5,a6,a7,a8,a9⟩:=hf;obtain⟨k1,k2,k3,k4⟩:=qR (D6 hc a2 hi);have hpc:=UM a3.1 iq;have hst:0<=st+1/\st+1<=bound:=⟨Int.add_nonneg a5.1 (by decide),s0⟩
 have hrg:∀k < 8,∀r,(if(nP i).2=true then rg.set (nP i).1.toNat result else rg)[k]?=some r->dh r=true:=by
  split
  .exact Bq a4 hv
  .exact a4
 have amA:∀x,SS (Bz hd x)/\∀m∈Bz hd x,0<=m/\m < (ms.length:Int):=λx=>⟨Sr _ _,λm hm=>a8 m (BA.1 hm).1⟩
 have hadd:∀x,0<=x/\x < (ms.length:Int)->SS (zu hd x)/\∀m∈zu hd x,0<=m/\m < (ms.length:Int):=λx hx=>⟨AY _,λm hm=>by
  rcases ES.1 hm with q | q
  .exact a8 m q
  .subst q;exact hx⟩
 unfold gI;simp only;split
 .rename_i e;split
  .rename_i e0;subst e0;refine⟨a1,a2,a3,hrg,hst,a6,(amA _).1,(amA _).2,.inr ⟨.inl rfl,i,hi,e,?_⟩⟩;rw[pW];exact λq=>(BA.1 q).2 rfl
  rename_i n0;have a10:=a9.resolve_left n0;split
  .exact⟨a1,a2,a3,hrg,hst,a6,a7,a8,.inr ⟨.inr rfl,a10.2⟩⟩
  .exact⟨a1,a2,hpc,hrg,hst,a6,(hadd _ (k3 e)).1,(hadd _ (k3 e)).2,.inl rfl⟩
 .rename_i e;have e0:ph=0:=by
   rcases a9 with q | ⟨_,j,hj,q,_⟩
   .exact q
   .rw[hi]at hj;cases hj;exact absurd q e
  subst e0;have hch:0<=(if i.1=21 then ch+1 else ch)/\(if i.1=21 then ch+1 else ch)<=7/\(bU id=4->(if i.1=21 then ch+1 else ch)=0):=by
   split
   .rename_i e21;have:(dM id ch).2=true:=by
     unfold lN at oj;rw[if_neg (by simp),if_neg e,if_neg (by omega),if_pos e21]at oj
     by_cases q:(dM id ch).2=true
     .exact q
     .rw[if_neg q]at oj;cases oj
    unfold dM at this;split at this
    .cases this
    .rename_i q;omega
   .exact a6
  refine⟨a1,a2,hpc,hrg,hst,hch,?_,?_,.inl rfl⟩
  .split
   .exact AY _
   split
   .exact Sr _ _
   .exact a7
  .split
   .rename_i q;have ho:=JZ (vs:=vs) (ms:=ms) (cs:=cs) (fs:=fs) (op:=i.1) (by omega)
    rw[ho]at k2;exact(hadd _ (k2 (by omega))).2
   split
   .exact(amA _).2
   .exact a8
theorem O1(t:TD) (i:ID) (r:Int):(gI t i r).1=t.1/\(gI t i r).2.1=t.2.1/\(gI t i r).2.2.2.2.1=t.2.2.2.2.1+1/\(gI t i r).2.2.2.2.2.2.2.1=t.2.2.2.2.2.2.2.1/\(gI t i r).2.2.2.2.2.2.2.2.1=t.2.2.2.2.2.2.2.2.1:=by
 obtain⟨id,fn,pc,rg,st,ch,ph,su,fa,hd,u⟩:=t;unfold gI;simp only
 repeat' split
 all_goals simp
def dI(e bound:Int):Int:=if e≠0 then e else if bound < 1\/32 < bound then 2 else 0
theorem fJ{e:Int}:dI e bound=0↔e=0/\1<=bound/\bound<=32:=by
 unfold dI;constructor
 .intro h;split at h
  .rename_i q;exact absurd h q
  .rename_i q;split at h
   .cases h
   .omega
 .rintro⟨h1,h2,h3⟩;rw[if_neg (by omega),if_neg (by omega)]
def newS(e:Int) (fs:List FD) (bound id fn arg:Int):TD×Int:=
 if dI e bound≠0 then(zT,dI e bound) else if bU id < 0 then(zT,2) else if fn < 0\/(fs.length:Int)<=fn then(zT,11) else if dh arg=false then(zT,2)
 else(eH fs bound 256 (id,fn,0,[arg,0,0,0,0,0,0,0],0,0,0,1,0,[],()),0)
theorem H7(ms:List ByteArray){fn arg:Int} (hb:1<=bound) (h1:¬bU id < 0) (h2:¬(fn < 0\/(fs.length:Int)<=fn)) (h3:¬dh arg=false):dF ms fs bound (id,fn,0,[arg,0,0,0,0,0,0,0],0,0,0,1,0,[],()):=by
 refine⟨by omega,by omega,by omega,λk hk r hr=>?_,by omega,⟨by omega,by omega,λ_=>rfl⟩,List.Pairwise.nil,λm hm=>(nomatch hm),.inl rfl⟩
 match k,hr with
 | 0,hr=>cases hr;simpa using h3
 | k+1,hr=>
   have:r=0:=by
    have:=iJ (show[(0:Int),0,0,0,0,0,0][k]?=some r by simpa using hr)
    simpa using this
   rw[this];rfl
open Classical in
def dY(e:Int) (ms:List ByteArray) (fs:List FD) (t:TD):ID×Bool:=
 if e=0/\t.2.2.2.2.2.2.2.1=1/\vW ms fs 32 t then atR fs t.2.1 t.2.2.1 else((0,0,0,0,0,0,0,0,()),false)
open Classical in
def jY(e:Int) (ms:List ByteArray) (fs:List FD) (bound:Int) (t:TD) (result:Int):TD×Int:=
 if dI e bound≠0 then(zT,dI e bound) else if¬vW ms fs bound t then(zT,1) else if t.2.2.2.2.2.2.2.1≠1 then(zT,30) else if dh result=false then(zT,2)
 else(eH fs bound 256 (gI t (atR fs t.2.1 t.2.2.1).1 result),0)
end
end Go.Proofs.YtjhenjhcbcalpaaGreatDoor
