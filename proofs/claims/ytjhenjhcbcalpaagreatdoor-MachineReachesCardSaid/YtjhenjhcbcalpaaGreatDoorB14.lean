/- Part 14 of the proof. Conditions: the rows'. -/
import Derived.Test.YtjhenjhcbcalpaaGreatDoorB13
set_option linter.unusedSimpArgs false
set_option linter.unusedVariables false
set_option maxRecDepth 1000000
set_option maxHeartbeats 8000000
namespace Go.Proofs.YtjhenjhcbcalpaaGreatDoor
open Go Go.l9
noncomputable section
def Ah(n:Nat) (x:Int):Int:=if x.tmod (n:Int) < 0 then x.tmod (n:Int)+n else x.tmod (n:Int)
theorem UF{n:Nat} (h:n≠0) (x:Int):0<=Ah n x/\Ah n x < n:=by
 unfold Ah;have h1:=Int.tmod_lt_of_pos x (show(0:Int) < n by omega)
 have h2:=Int.lt_tmod_of_pos x (show(0:Int) < n by omega)
 split<;>omega
def nO(vs:List VD) (ms cs:List ByteArray) (fs:List FD) (ts:List SD) (bound:Int):List Int->ZD->ZD×Bool
 | [],z=>(z,true)
 | x :: l,z=>if fZ vs ms cs fs ts z.1 z.2.1 z.2.2.1=[] then(z,true)
   else if(fH vs ms cs fs ts bound z ((fZ vs ms cs fs ts z.1 z.2.1 z.2.2.1).getD (Ah (fZ vs ms cs fs ts z.1 z.2.1 z.2.2.1).length x).toNat 0)).2.2≠0 then(z,false)
   else nO vs ms cs fs ts bound l (fH vs ms cs fs ts bound z ((fZ vs ms cs fs ts z.1 z.2.1 z.2.2.1).getD (Ah (fZ vs ms cs fs ts z.1 z.2.1 z.2.2.1).length x).toNat 0)).1
section
variable {vs:List VD}{ms cs:List ByteArray}{fs:List FD}{ts:List SD}{bound:Int}{z:ZD}
theorem Inv.v32(I:Inv vs ms cs fs ts bound z):VS vs ms cs fs ts 32 z.1 z.2.1 z.2.2.1:=ahv I.ok I.va
theorem UG(I:Inv vs ms cs fs ts bound z){x:Int}:x∈fZ vs ms cs fs ts z.1 z.2.1 z.2.2.1↔∃t i,t∈z.1/\t.1=x/\fO (aC vs ms cs fs ts).1 ms fs t=(i,true)/\CG z.1 z.2.1 t i=true:=by
 unfold fZ;rw[if_pos (iT.2 I.v32)];unfold zW;rw[Jl];constructor
 .rintro⟨t,ht,rfl⟩;obtain⟨h1,h2⟩:=Xi.1 ht;unfold WA at h2;rw[bY]at h2;exact⟨t,_,h1,rfl,Prod.ext rfl h2.1,h2.2⟩
 .rintro⟨t,i,h1,rfl,h2,h3⟩;exact⟨t,Xi.2 ⟨h1,by unfold WA;rw[h2];simpa using h3⟩,rfl⟩
theorem UH(I:Inv vs ms cs fs ts bound z):(fZ vs ms cs fs ts z.1 z.2.1 z.2.2.1).length<=z.1.length:=by
 unfold fZ;rw[if_pos (iT.2 I.v32)];unfold zW;rw[WR];exact Xd _ _
theorem DY(I:Inv vs ms cs fs ts bound z) (hl:z.1.length<=60){t:TD}{i:ID} (hm:t∈z.1) (hp:fO (aC vs ms cs fs ts).1 ms fs t=(i,true)) (he:CG z.1 z.2.1 t i=true):
 (fH vs ms cs fs ts bound z t.1).2=(labS z.2.1 t i,0)/\Inv vs ms cs fs ts bound (fH vs ms cs fs ts bound z t.1).1/\(fH vs ms cs fs ts bound z t.1).1.1.length=z.1.length+(if(labS z.2.1 t i).2.2.1=16 then 1 else 0):=by
 have hft:=mP I.va.2.2.2 hm;obtain⟨ok0,nw0⟩:=amB I hl hm hp he;have h0:=(DX I hl hm hp).2.2.2.2;have h:=amx I.ok I.va hft hp he ((UC I.fm (by rw[BJ];exact h0)).2 ok0) nw0
 obtain⟨t',i',acT,hp',_,_,_,ee,_,hlen,_⟩:=Gu I.r8 (by omega) (I.bm hl) h
 rw[hft]at acT;cases acT;rw[hp]at hp';cases hp';exact⟨Prod.ext ee h,acS I hl h,hlen⟩
theorem OA(I:Inv vs ms cs fs ts bound z){t:TD}{i:ID} (hm:t∈z.1) (hp:fO (aC vs ms cs fs ts).1 ms fs t=(i,true)):uY vs ms cs fs ts z.1 z.2.1 z.2.2.1 t.1=(labS z.2.1 t i,true):=by
 unfold uY;rw[if_pos (iT.2 I.v32)];unfold jo;rw[mP I.va.2.2.2 hm];simp only[hp];rfl
theorem OB(I:Inv vs ms cs fs ts bound z) (hl:z.1.length<=60) (hne:fZ vs ms cs fs ts z.1 z.2.1 z.2.2.1≠[]){k:Nat} (hk:k < (fZ vs ms cs fs ts z.1 z.2.1 z.2.2.1).length):
 (fH vs ms cs fs ts bound z ((fZ vs ms cs fs ts z.1 z.2.1 z.2.2.1).getD k 0)).2.2=0/\Inv vs ms cs fs ts bound (fH vs ms cs fs ts bound z ((fZ vs ms cs fs ts z.1 z.2.1 z.2.2.1).getD k 0)).1/\(fH vs ms cs fs ts bound z ((fZ vs ms cs fs ts z.1 z.2.1 z.2.2.1).getD k 0)).1.1.length<=z.1.length+1:=by
 have hm:(fZ vs ms cs fs ts z.1 z.2.1 z.2.2.1).getD k 0∈fZ vs ms cs fs ts z.1 z.2.1 z.2.2.1:=by
  rw[Jf,kQ hk];exact List.getElem_mem hk
 obtain⟨t,i,h1,h2,h3,h4⟩:=(UG I).1 hm;rw[<-h2];obtain⟨a,b,c⟩:=DY I hl h1 h3 h4;exact⟨by rw[a],b,by rw[c];split<;>omega⟩
theorem UJ:∀(l:List Int){z:ZD},Inv vs ms cs fs ts bound z->z.1.length+l.length<=60->(nO vs ms cs fs ts bound l z).2=true/\Inv vs ms cs fs ts bound (nO vs ms cs fs ts bound l z).1/\(nO vs ms cs fs ts bound l z).1.1.length<=z.1.length+l.length
 | [],z,I,h=>⟨rfl,I,by simp[nO]⟩
 | x :: l,z,I,h=>by
   simp only[sV]at h;rw[nO];split
   .exact⟨rfl,I,by simp⟩
   .rename_i hne;have hn:(fZ vs ms cs fs ts z.1 z.2.1 z.2.2.1).length≠0:=λq=>hne (List.length_eq_zero_iff.1 q)
    have hp:=UF hn x;obtain⟨a,b,c⟩:=OB I (by omega) hne (k:=(Ah (fZ vs ms cs fs ts z.1 z.2.1 z.2.2.1).length x).toNat) (by omega)
    rw[if_neg (by omega)]
    obtain⟨p,q,r⟩:=UJ l b (by omega)
    exact⟨p,q,by simp only[sV];omega⟩
end
theorem acU{vs:List VD}{ms cs:List ByteArray}{fs:List FD}{ts:List SD}{bound:Int}{z:ZD} (h:fZ vs ms cs fs ts z.1 z.2.1 z.2.2.1=[]) (l:List Int):nO vs ms cs fs ts bound l z=(z,true):=by
 cases l with
 | nil=>rfl
 | cons x l=>rw[nO,if_pos h]
theorem acV{vs:List VD}{ms cs:List ByteArray}{fs:List FD}{ts:List SD}{bound:Int}{z:ZD}{x y:Int}{l:List Int} (h:fZ vs ms cs fs ts z.1 z.2.1 z.2.2.1≠[]) (hy:y=(fZ vs ms cs fs ts z.1 z.2.1 z.2.2.1).getD (Ah (fZ vs ms cs fs ts z.1 z.2.1 z.2.2.1).length x).toNat 0)
 (h2:(fH vs ms cs fs ts bound z y).2.2=0):nO vs ms cs fs ts bound (x :: l) z=nO vs ms cs fs ts bound l (fH vs ms cs fs ts bound z y).1:=by
 subst hy;rw[nO,if_neg h,if_neg (by omega)]
theorem UK{S:ZD×Bool}{a:ZD}{b:Bool} (h:S=(a,b)):rT [BI S.1,cB S.2] [BI a,cB b]:=by subst h;exact⟨rfl,rfl⟩
theorem Inv.bb{vs:List VD}{ms cs:List ByteArray}{fs:List FD}{ts:List SD}{bound:Int}{z:ZD} (I:Inv vs ms cs fs ts bound z):zX z.2.2.1:=by rw[I.va.2.1];exact⟨by decide,λb hb=>nomatch hb⟩
abbrev acW:CT:={ ps:=[oW,.int .i64,.sl (.int .i64)],pre:=λd=>bnd (d.1,())/\bQ (aC d.1.1 d.1.2.1 d.1.2.2.1 d.1.2.2.2.1 d.1.2.2.2.2.1).1 d.2.1=0/\d.1.2.2.2.2.1.length<=20/\d.2.2.1.length<=40,res:=λd=>([],.iJ [BI ((nO d.1.1 d.1.2.1 d.1.2.2.1 d.1.2.2.2.1 d.1.2.2.2.2.1 d.2.1 d.2.2.1 (pG d.1.1 d.1.2.1 d.1.2.2.1 d.1.2.2.2.1 d.1.2.2.2.2.1 d.2.1).1).1),.c (.v (.bool ((nO d.1.1 d.1.2.1 d.1.2.2.1 d.1.2.2.2.1 d.1.2.2.2.2.1 d.2.1 d.2.2.1 (pG d.1.1 d.1.2.1 d.1.2.2.1 d.1.2.2.2.1 d.1.2.2.2.2.1 d.2.1).1).2)))]) }
abbrev ao0(vs:List VD) (ms cs:List ByteArray) (fs:List FD) (ts:List SD) (bound:Int) (pk:List Int):Nat->Option (St->jK):=λk=>match k with
 | 5=>some λ_=>.inv { α:=Nat×ZD,slots:=λa=>[(10,.c (.v (.int .i64 a.1)))],res:=λa=>[(2,bZ (a.2).1 (a.2).2.1.1 (a.2).2.1.2.1 (a.2).2.1.2.2.1 (a.2).2.1.2.2.2.1 (a.2).2.2.1)],inv:=λa=>a.1<=pk.length/\nO vs ms cs fs ts bound pk (pG vs ms cs fs ts bound).1=nO vs ms cs fs ts bound (pk.drop a.1) a.2/\Inv vs ms cs fs ts bound a.2/\a.2.1.length<=20+a.1,meas:=λa=>pk.length - a.1 }
 | _=>none
theorem amD(vs:List VD) (ms cs:List ByteArray) (fs:List FD) (ts:List SD) (bound:Int) (pk:List Int) (aG:acW.pre ((vs,ms,cs,fs,ts,()),bound,pk,())):
 let Gh:=bnd ((vs,ms,cs,fs,ts,()),());let z17:=pG vs ms cs fs ts bound;let yg:=nO vs ms cs fs ts bound pk z17.fst;let z11:=[BI (yg.fst),cB (yg.snd)];let z6:=λ(x:Nat×ZD)=>x.fst<=pk.length/\nO vs ms cs fs ts bound pk z17.fst=nO vs ms cs fs ts bound (List.drop x.fst pk) x.snd/\Inv vs ms cs fs ts bound x.snd/\x.snd.fst.length<=20+x.fst;let Gg:=bP vs ms cs fs ts;let z5:=λ(x:Nat×ZD)=>[g0 Gg,g0 (ak.blk 37 uZ),g0 (ak.blk 37 [SC.sl dS x.snd.fst,SC.sl I6 x.snd.snd.fst.fst,SC.sl I6 x.snd.snd.fst.snd.fst,SC.sl I6.sl x.snd.snd.fst.snd.snd.fst,SC.sl I6 x.snd.snd.fst.snd.snd.snd.fst,SC.sl zV x.snd.snd.snd.fst])];let z12:=λ(x:Nat×ZD)=>fZ vs ms cs fs ts x.snd.fst x.snd.snd.fst x.snd.snd.snd.fst;let z9:=λ(x:Nat×ZD)=>rT z11 [BI x.snd,cB true];let z7:=λ(d:Int) (x:Nat×ZD)=>d.tmod (↑(z12 x).length:Int)+(↑(z12 x).length:Int);let z10:=λ(x:Nat×ZD)=>Gh/\iF x.snd.fst/\List.length x.snd.fst<=999999/\qF x.snd.snd.fst=true/\zX x.snd.snd.snd.fst;let nS:=λ(x:Nat×ZD) (bJ:Int)=>fH vs ms cs fs ts bound x.snd bJ;let z13:=λ(x:Nat×ZD) (bJ:Int)=>!decide ((nS x bJ).snd.snd=0);let z8:=λ(x:Nat×ZD)=>rT z11 [BI x.snd,cB false];let z4:=λ(x:Nat×ZD) (bJ:Int)=>(iR ((x.fst:Int)+(1:Int))/\∃(x':Nat×ZD),(z6 x')/\(cI ((x.fst:Int)+(1:Int))=cI (x'.fst:Int)/\True)/\[g0 Gg,g0 (ak.blk 37 uZ),g0 (ak.blk 37 [SC.sl dS (nS x bJ).fst.fst,SC.sl I6 (nS x bJ).fst.snd.fst.fst,SC.sl I6 (nS x bJ).fst.snd.fst.snd.fst,SC.sl I6.sl (nS x bJ).fst.snd.fst.snd.snd.fst,SC.sl I6 (nS x bJ).fst.snd.fst.snd.snd.snd.fst,SC.sl zV (nS x bJ).fst.snd.snd.fst])]=(z5 x')/\pk.length - x'.fst < pk.length - x.fst);let z2:=λ(x:Nat×ZD) (bJ:Int)=>(z10 x)/\br (z13 x bJ) (z8 x) (z4 x bJ)/\br (z13 x bJ) (z8 x) (z4 x bJ);let z3:=λ(x:Nat×ZD) (bJ:Int)=>(z10 x)/\br (z13 x bJ) (z8 x) (z4 x bJ);let z1:=λ(x:Nat×ZD) (bJ:Int)=>(z3 x bJ)/\(z10 x)/\br (z13 x bJ) (z8 x) (z4 x bJ);Gh/\br (!decide (z17.snd=0)) (rT z11 [BI (z17.fst),cB false]) ((∃(x:Nat×ZD),(z6 x)/\(cI 0=cI (x.fst:Int)/\True)/\[g0 Gg,g0 (ak.blk 37 uZ),g0 (ak.blk 37 [SC.sl dS z17.fst.fst,SC.sl I6 z17.fst.snd.fst.fst,SC.sl I6 z17.fst.snd.fst.snd.fst,SC.sl I6.sl z17.fst.snd.fst.snd.snd.fst,SC.sl I6 z17.fst.snd.fst.snd.snd.snd.fst,SC.sl zV z17.fst.snd.snd.fst])]=(z5 x))/\∀(x:Nat×ZD),x.fst<=pk.length/\nO vs ms cs fs ts bound pk z17.fst=nO vs ms cs fs ts bound (List.drop x.fst pk) x.snd/\Inv vs ms cs fs ts bound x.snd/\x.snd.fst.length<=20+x.fst->br (decide ((x.fst:Int) < (pk.length:Int))) ((Gh/\iF x.snd.fst/\bK x.snd.snd.fst)/\br (decide ((↑(z12 x).length:Int)=(0:Int))) (z9 x) ((0<=(x.fst:Int)/\(x.fst:Int) < (pk.length:Int))/\∀(d:Int),pk[(x.fst:Int).toNat]?=some d->(↑(z12 x).length:Int)≠(0:Int)/\br (decide (d.tmod (↑(z12 x).length:Int) < (0:Int))) (iR (z7 d x)/\(0<=d.tmod (↑(z12 x).length:Int)+(↑(z12 x).length:Int)/\d.tmod (↑(z12 x).length:Int)+(↑(z12 x).length:Int) < (↑(z12 x).length:Int))/\∀(bJ:Int),(z12 x)[(z7 d x).toNat]?=some bJ->(z2 x bJ)/\(z1 x bJ)/\(z3 x bJ)/\(z10 x)/\br (z13 x bJ) (z8 x) (z4 x bJ)) ((0<=d.tmod (↑(z12 x).length:Int)/\d.tmod (↑(z12 x).length:Int) < (↑(z12 x).length:Int))/\∀(bJ:Int),(z12 x)[(d.tmod (↑(z12 x).length:Int)).toNat]?=some bJ->(z2 x bJ)/\(z1 x bJ)/\(z3 x bJ)/\(z10 x)/\br (z13 x bJ) (z8 x) (z4 x bJ)))) (z9 x)):=by
 conv=>zeta
 delta uZ iR iN;obtain⟨hb,hs,hts,hpk⟩:bnd ((vs,ms,cs,fs,ts,()),())/\bQ (aC vs ms cs fs ts).1 bound=0/\ts.length<=20/\pk.length<=40:=aG;have hS:pG vs ms cs fs ts bound=((mM (aC vs ms cs fs ts).1 fs bound ts,(pF vs ms cs fs ts).1,[],()),0):=by unfold pG;rw[if_neg (by omega)]
 have I0:Inv vs ms cs fs ts bound (pG vs ms cs fs ts bound).1:=by rw[hS];exact UD hs
 have hl0:(pG vs ms cs fs ts bound).1.1.length<=20:=by rw[hS];show(mM _ _ _ _).length<=20;rw[KY];exact hts
 have h0:(pG vs ms cs fs ts bound).2=0:=by rw[hS]
 generalize pG vs ms cs fs ts bound=S at I0 hl0 h0 ⊢;obtain⟨z0,e0⟩:=S;dsimp only at I0 hl0 h0 ⊢;refine⟨hb,ah.2 ⟨λh=>by rw[h0]at h;simp at h,λ_=>⟨⟨(0,z0),⟨by simp,rfl,I0,by simpa using hl0⟩,⟨rfl,trivial⟩,rfl⟩,λx hx=>?_⟩⟩⟩
 obtain⟨k,z⟩:=x;obtain⟨hk,hr,I,hl⟩:=hx;dsimp only at hk hr I hl ⊢;have QV:z.1.length<=60:=by omega
 refine ah.2 ⟨λg=>⟨⟨hb,I.bt QV,I.bm QV⟩,ah.2 ⟨λg2=>UK ?_,λg2=>?_⟩⟩,λg=>UK ?_⟩
 .rw[hr];exact acU (List.length_eq_zero_iff.1 (by have:=OL g2;omega)) _
 .have g:(k:Int) < (pk.length:Int):=OL g;have g2:¬((fZ vs ms cs fs ts z.1 z.2.1 z.2.2.1).length:Int)=0:=A92 g2;have hne:fZ vs ms cs fs ts z.1 z.2.1 z.2.2.1≠[]:=λq=>g2 (by rw[q];rfl)
  have hn:(fZ vs ms cs fs ts z.1 z.2.1 z.2.2.1).length≠0:=by omega
  refine⟨⟨by omega,g⟩,λd hd=>⟨g2,?_⟩⟩
  have hpr:=UF hn d;have hd:pk[k]?=some d:=hd;have hdr:pk.drop k=d :: pk.drop (k+1):=by
   have gX:k < pk.length:=by omega
   rw[List.drop_eq_getElem_cons gX];rw[kQ gX]at hd;rw[D5 hd]
  have P:bnd ((vs,ms,cs,fs,ts,()),())/\iF z.1/\z.1.length<=999999/\qF z.2.1=true/\zX z.2.2.1:=⟨hb,I.bt QV,by omega,I.few QV,I.bb⟩
  have key:∀d1,(fZ vs ms cs fs ts z.1 z.2.1 z.2.2.1)[(Ah (fZ vs ms cs fs ts z.1 z.2.1 z.2.2.1).length d).toNat]?=some d1->(fH vs ms cs fs ts bound z d1).2.2=0/\Inv vs ms cs fs ts bound (fH vs ms cs fs ts bound z d1).1/\(fH vs ms cs fs ts bound z d1).1.1.length<=20+(k+1)/\nO vs ms cs fs ts bound pk z0=nO vs ms cs fs ts bound (pk.drop (k+1)) (fH vs ms cs fs ts bound z d1).1:=by
   intro d1 hd1;have e:d1=(fZ vs ms cs fs ts z.1 z.2.1 z.2.2.1).getD (Ah (fZ vs ms cs fs ts z.1 z.2.1 z.2.2.1).length d).toNat 0:=by rw[Jf,hd1];rfl
   obtain⟨p1,p2,p3⟩:=OB I QV hne (k:=(Ah (fZ vs ms cs fs ts z.1 z.2.1 z.2.2.1).length d).toNat) (by omega)
   rw[<-e]at p1 p2 p3;exact⟨p1,p2,by omega,by rw[hr,hdr];exact acV hne e p1⟩
  refine ah.2 ⟨λg3=>?_,λg3=>?_⟩
  .have g3:=OL g3;have ep:d.tmod ((fZ vs ms cs fs ts z.1 z.2.1 z.2.2.1).length:Int)+((fZ vs ms cs fs ts z.1 z.2.1 z.2.2.1).length:Int)=Ah (fZ vs ms cs fs ts z.1 z.2.1 z.2.2.1).length d:=by unfold Ah;rw[if_pos g3]
   have hle:=UH I;rw[ep];refine⟨ay.2 (by omega),hpr,λd1 hd1=>?_⟩
   obtain⟨p1,p2,p3,p4⟩:=key d1 hd1
   repeat' (first | exact P | exact ah.2 ⟨λh=>by rw[p1]at h;simp at h,λ_=>⟨ay.2 (by omega),(k+1,(fH vs ms cs fs ts bound z d1).1),⟨by show k+1<=_;omega,p4,p2,p3⟩,⟨rfl,trivial⟩,rfl,by show pk.length - (k+1) < pk.length - k;omega⟩⟩ | (refine And.intro ?_ ?_))
  .have g3:=A92 g3;have ep:d.tmod ((fZ vs ms cs fs ts z.1 z.2.1 z.2.2.1).length:Int)=Ah (fZ vs ms cs fs ts z.1 z.2.1 z.2.2.1).length d:=by unfold Ah;rw[if_neg g3]
   rw[ep];refine⟨hpr,λd1 hd1=>?_⟩
   obtain⟨p1,p2,p3,p4⟩:=key d1 hd1
   repeat' (first | exact P | exact ah.2 ⟨λh=>by rw[p1]at h;simp at h,λ_=>⟨ay.2 (by omega),(k+1,(fH vs ms cs fs ts bound z d1).1),⟨by show k+1<=_;omega,p4,p2,p3⟩,⟨rfl,trivial⟩,rfl,by show pk.length - (k+1) < pk.length - k;omega⟩⟩ | (refine And.intro ?_ ?_))
 .rw[hr];have g:¬(k:Int) < (pk.length:Int):=A92 g;rw[UL (by omega)];rfl
theorem ahz:aU aS.gd 27 acW:=
 dY (cx:=aS) (n:=68) (cl:=[(12,Uu),(19,Gn),(21,Ox)]) (rc:=[]) au ⟨Uw,KU,KX,trivial⟩ Tryz.func27 λd hd=>by
  obtain⟨⟨vs,ms,cs,fs,ts,⟨⟩⟩,bound,pk,⟨⟩⟩:=d;exact aP (ao0 vs ms cs fs ts bound pk) (amD vs ms cs fs ts bound pk hd) (by kernel_rfl)
end
end Go.Proofs.YtjhenjhcbcalpaaGreatDoor
