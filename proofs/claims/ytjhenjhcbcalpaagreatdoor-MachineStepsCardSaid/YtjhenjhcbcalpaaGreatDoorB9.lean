/- Part 9 of the proof. Conditions: the rows'. -/
import Derived.Test.YtjhenjhcbcalpaaGreatDoorB8
set_option linter.unusedSimpArgs false
set_option linter.unusedVariables false
set_option maxRecDepth 1000000
set_option maxHeartbeats 8000000
namespace Go.Proofs.YtjhenjhcbcalpaaGreatDoor
open Go Go.jw
noncomputable section
abbrev LG:CT:={ ps:=[.int .i64],pre:=λd=>True,res:=λd=>([],.one (.c (.v (.int .i64 (aH d.1))))) }
theorem aho(n:Int):
 iU≠(0:Int)/\br (decide (n.tmod iU < (0:Int))) (iR (n.tmod iU+iU)/\br (decide (2147483647 < n.tmod iU+iU)) (iR (n.tmod iU+iU - iU)/\qI (aH n) (n.tmod iU+iU - iU)) (qI (aH n) (n.tmod iU+iU))) (br (decide (2147483647 < n.tmod iU)) (iR (n.tmod iU - iU)/\qI (aH n) (n.tmod iU - iU)) (qI (aH n) (n.tmod iU))):=by
 delta qI iR iU;have hw:=ab5 n;unfold ab4 at hw;have hr:-4294967296 < n.tmod 4294967296/\n.tmod 4294967296 < 4294967296:=by
  rw[Gv n (by omega)];split<;>omega
 refine⟨by decide,aJ.2 ⟨λh=>⟨au.2 (by omega),aJ.2 ⟨λh2=>⟨au.2 (by omega),rfl,?_⟩,λh2=>⟨rfl,?_⟩⟩⟩,λh=>aJ.2 ⟨λh2=>⟨au.2 (by omega),rfl,?_⟩,λh2=>⟨rfl,?_⟩⟩⟩⟩
 .rw[if_pos h,if_pos h2]at hw;rw[<-hw]
 .rw[if_pos h,if_neg h2]at hw;rw[<-hw]
 .rw[if_neg h,if_pos h2]at hw;rw[<-hw]
 .rw[if_neg h,if_neg h2]at hw;rw[<-hw]
theorem O7:aN aK.gd 193 LG:=
 jG (cx:=aK) (n:=15) (cl:=[]) ay trivial Tryz.func193 λd hd=>by
  obtain⟨n,⟨⟩⟩:=d;exact aI (λ_=>none) (aho n) (by kernel_rfl)
abbrev acD:CT:={ ps:=[.bool],pre:=λd=>True,res:=λd=>([],.one (.c (.v (.int .i64 (if d.1=true then 1 else 0))))) }
theorem ahp(b:Bool):
 let z1:=if b=true then(1:Int) else(0:Int);br b (qI z1 (1:Int)) (qI z1 (0:Int)):=by
 conv=>zeta
 delta qI;rw[ah];cases b<;>simp
theorem acE:aN aK.gd 195 acD:=
 jG (cx:=aK) (n:=4) (cl:=[]) ay trivial Tryz.func195 λd hd=>by
  obtain⟨b,⟨⟩⟩:=d;exact aI (λ_=>none) (ahp b) (by kernel_rfl)
abbrev acF:CT:={ ps:=[.int .i64,.int .i64,.arr 4 (.int .i64)],pre:=λd=>(-2147483648<=d.1/\d.1<=2147483647)/\(-2147483648<=d.2.1/\d.2.1<=2147483647)/\(∀v∈d.2.2.1,v=0\/v=1),res:=λd=>([],.one (.c (.v (.int .i64 (aH (dY (d.1 % 4294967296).toNat (d.2.1 % 4294967296).toNat d.2.2.1 32)))))) }
abbrev anh(x y:Int) (rs:List Int):Nat->Option (St->iE):=λk=>match k with
 | 8=>some λ_=>.inv { α:=Nat,slots:=λi=>[(9,.c (.v (.int .i64 i))),(7,.c (.v (.int .i64 (dY (x % 4294967296).toNat (y % 4294967296).toNat rs i)))),(8,.c (.v (.int .i64 ((2 ^ i:Nat):Int)))),(0,.c (.v (.int .i64 (((x % 4294967296).toNat / 2 ^ i:Nat):Int)))),(1,.c (.v (.int .i64 (((y % 4294967296).toNat / 2 ^ i:Nat):Int))))],res:=λ_=>[],inv:=λi=>i<=32,meas:=λi=>32 - i }
 | _=>none
theorem ahq(x y:Int) (rs:List Int) (aA:acF.pre (x,y,rs,())):
 br (decide (x < (0:Int))) (nM IntKind.i64 (x+(4294967296:Int))/\br (decide (y < (0:Int))) (nM IntKind.i64 (y+(4294967296:Int))/\(∃x_1,x_1<=(32:Nat)/\(SV.c (SC.v (Value.int IntKind.i64 (0:Int)))=SV.c (SC.v (Value.int IntKind.i64 (x_1:Int)))/\SV.c (SC.v (Value.int IntKind.i64 (0:Int)))=SV.c (SC.v (Value.int IntKind.i64 (dY (x % (4294967296:Int)).toNat (y % (4294967296:Int)).toNat rs x_1)))/\SV.c (SC.v (Value.int IntKind.i64 (1:Int)))=SV.c (SC.v (Value.int IntKind.i64 (↑((2:Nat) ^ x_1):Int)))/\SV.c (SC.v (Value.int IntKind.i64 (x+(4294967296:Int))))=SV.c (SC.v (Value.int IntKind.i64 (↑((x % (4294967296:Int)).toNat / (2:Nat) ^ x_1):Int)))/\SV.c (SC.v (Value.int IntKind.i64 (y+(4294967296:Int))))=SV.c (SC.v (Value.int IntKind.i64 (↑((y % (4294967296:Int)).toNat / (2:Nat) ^ x_1):Int)))/\True)/\[(([]:Go.jw.Gd),aj.obj (203:Nat) (Sh.arr (4:Nat) gZ) rs)]=[(([]:Go.jw.Gd),aj.obj (203:Nat) (Sh.arr (4:Nat) gZ) rs)])/\∀(x_1:Nat),x_1<=(32:Nat)->br (decide ((x_1:Int) < (32:Int))) ((2:Int)≠(0:Int)/\nM IntKind.i64 ((2:Int) * (↑((x % (4294967296:Int)).toNat / (2:Nat) ^ x_1):Int).tmod (2:Int))/\(2:Int)≠(0:Int)/\nM IntKind.i64 ((2:Int) * (↑((x % (4294967296:Int)).toNat / (2:Nat) ^ x_1):Int).tmod (2:Int)+(↑((y % (4294967296:Int)).toNat / (2:Nat) ^ x_1):Int).tmod (2:Int))/\((0:Int)<=(2:Int) * (↑((x % (4294967296:Int)).toNat / (2:Nat) ^ x_1):Int).tmod (2:Int)+(↑((y % (4294967296:Int)).toNat / (2:Nat) ^ x_1):Int).tmod (2:Int)/\(2:Int) * (↑((x % (4294967296:Int)).toNat / (2:Nat) ^ x_1):Int).tmod (2:Int)+(↑((y % (4294967296:Int)).toNat / (2:Nat) ^ x_1):Int).tmod (2:Int) < (4:Int))/\((2:Int) * (↑((x % (4294967296:Int)).toNat / (2:Nat) ^ x_1):Int).tmod (2:Int)+(↑((y % (4294967296:Int)).toNat / (2:Nat) ^ x_1):Int).tmod (2:Int)).toNat < (4:Nat)/\∀(d:Int),rs[((2:Int) * (↑((x % (4294967296:Int)).toNat / (2:Nat) ^ x_1):Int).tmod (2:Int)+(↑((y % (4294967296:Int)).toNat / (2:Nat) ^ x_1):Int).tmod (2:Int)).toNat]?=some d->nM IntKind.i64 ((↑((2:Nat) ^ x_1):Int) * d)/\nM IntKind.i64 (dY (x % (4294967296:Int)).toNat (y % (4294967296:Int)).toNat rs x_1+(↑((2:Nat) ^ x_1):Int) * d)/\(2:Int)≠(0:Int)/\nM IntKind.i64 ((↑((x % (4294967296:Int)).toNat / (2:Nat) ^ x_1):Int).tdiv (2:Int))/\(2:Int)≠(0:Int)/\nM IntKind.i64 ((↑((y % (4294967296:Int)).toNat / (2:Nat) ^ x_1):Int).tdiv (2:Int))/\nM IntKind.i64 ((2:Int) * (↑((2:Nat) ^ x_1):Int))/\nM IntKind.i64 ((x_1:Int)+(1:Int))/\∃x',x'<=(32:Nat)/\(SV.c (SC.v (Value.int IntKind.i64 ((x_1:Int)+(1:Int))))=SV.c (SC.v (Value.int IntKind.i64 (x':Int)))/\SV.c (SC.v (Value.int IntKind.i64 (dY (x % (4294967296:Int)).toNat (y % (4294967296:Int)).toNat rs x_1+(↑((2:Nat) ^ x_1):Int) * d)))=SV.c (SC.v (Value.int IntKind.i64 (dY (x % (4294967296:Int)).toNat (y % (4294967296:Int)).toNat rs x')))/\SV.c (SC.v (Value.int IntKind.i64 ((2:Int) * (↑((2:Nat) ^ x_1):Int))))=SV.c (SC.v (Value.int IntKind.i64 (↑((2:Nat) ^ x'):Int)))/\SV.c (SC.v (Value.int IntKind.i64 ((↑((x % (4294967296:Int)).toNat / (2:Nat) ^ x_1):Int).tdiv (2:Int))))=SV.c (SC.v (Value.int IntKind.i64 (↑((x % (4294967296:Int)).toNat / (2:Nat) ^ x'):Int)))/\SV.c (SC.v (Value.int IntKind.i64 ((↑((y % (4294967296:Int)).toNat / (2:Nat) ^ x_1):Int).tdiv (2:Int))))=SV.c (SC.v (Value.int IntKind.i64 (↑((y % (4294967296:Int)).toNat / (2:Nat) ^ x'):Int)))/\True)/\[(([]:Go.jw.Gd),aj.obj (203:Nat) (Sh.arr (4:Nat) gZ) rs)]=[(([]:Go.jw.Gd),aj.obj (203:Nat) (Sh.arr (4:Nat) gZ) rs)]/\(32:Nat) - x' < (32:Nat) - x_1) (True/\([]:List Go.jw.aj)=[]/\aW.one (SV.c (SC.v (Value.int IntKind.i64 (aH (dY (Int.toNat (x % (4294967296:gZ.den))) (Int.toNat (y % (4294967296:gZ.den))) rs (32:Nat))))))=aW.one (SV.c (SC.v (Value.int IntKind.i64 (aH (dY (x % (4294967296:Int)).toNat (y % (4294967296:Int)).toNat rs x_1))))))) ((∃x_1,x_1<=(32:Nat)/\(SV.c (SC.v (Value.int IntKind.i64 (0:Int)))=SV.c (SC.v (Value.int IntKind.i64 (x_1:Int)))/\SV.c (SC.v (Value.int IntKind.i64 (0:Int)))=SV.c (SC.v (Value.int IntKind.i64 (dY (x % (4294967296:Int)).toNat (y % (4294967296:Int)).toNat rs x_1)))/\SV.c (SC.v (Value.int IntKind.i64 (1:Int)))=SV.c (SC.v (Value.int IntKind.i64 (↑((2:Nat) ^ x_1):Int)))/\SV.c (SC.v (Value.int IntKind.i64 (x+(4294967296:Int))))=SV.c (SC.v (Value.int IntKind.i64 (↑((x % (4294967296:Int)).toNat / (2:Nat) ^ x_1):Int)))/\SV.c (SC.v (Value.int IntKind.i64 y))=SV.c (SC.v (Value.int IntKind.i64 (↑((y % (4294967296:Int)).toNat / (2:Nat) ^ x_1):Int)))/\True)/\[(([]:Go.jw.Gd),aj.obj (203:Nat) (Sh.arr (4:Nat) gZ) rs)]=[(([]:Go.jw.Gd),aj.obj (203:Nat) (Sh.arr (4:Nat) gZ) rs)])/\∀(x_1:Nat),x_1<=(32:Nat)->br (decide ((x_1:Int) < (32:Int))) ((2:Int)≠(0:Int)/\nM IntKind.i64 ((2:Int) * (↑((x % (4294967296:Int)).toNat / (2:Nat) ^ x_1):Int).tmod (2:Int))/\(2:Int)≠(0:Int)/\nM IntKind.i64 ((2:Int) * (↑((x % (4294967296:Int)).toNat / (2:Nat) ^ x_1):Int).tmod (2:Int)+(↑((y % (4294967296:Int)).toNat / (2:Nat) ^ x_1):Int).tmod (2:Int))/\((0:Int)<=(2:Int) * (↑((x % (4294967296:Int)).toNat / (2:Nat) ^ x_1):Int).tmod (2:Int)+(↑((y % (4294967296:Int)).toNat / (2:Nat) ^ x_1):Int).tmod (2:Int)/\(2:Int) * (↑((x % (4294967296:Int)).toNat / (2:Nat) ^ x_1):Int).tmod (2:Int)+(↑((y % (4294967296:Int)).toNat / (2:Nat) ^ x_1):Int).tmod (2:Int) < (4:Int))/\((2:Int) * (↑((x % (4294967296:Int)).toNat / (2:Nat) ^ x_1):Int).tmod (2:Int)+(↑((y % (4294967296:Int)).toNat / (2:Nat) ^ x_1):Int).tmod (2:Int)).toNat < (4:Nat)/\∀(d:Int),rs[((2:Int) * (↑((x % (4294967296:Int)).toNat / (2:Nat) ^ x_1):Int).tmod (2:Int)+(↑((y % (4294967296:Int)).toNat / (2:Nat) ^ x_1):Int).tmod (2:Int)).toNat]?=some d->nM IntKind.i64 ((↑((2:Nat) ^ x_1):Int) * d)/\nM IntKind.i64 (dY (x % (4294967296:Int)).toNat (y % (4294967296:Int)).toNat rs x_1+(↑((2:Nat) ^ x_1):Int) * d)/\(2:Int)≠(0:Int)/\nM IntKind.i64 ((↑((x % (4294967296:Int)).toNat / (2:Nat) ^ x_1):Int).tdiv (2:Int))/\(2:Int)≠(0:Int)/\nM IntKind.i64 ((↑((y % (4294967296:Int)).toNat / (2:Nat) ^ x_1):Int).tdiv (2:Int))/\nM IntKind.i64 ((2:Int) * (↑((2:Nat) ^ x_1):Int))/\nM IntKind.i64 ((x_1:Int)+(1:Int))/\∃x',x'<=(32:Nat)/\(SV.c (SC.v (Value.int IntKind.i64 ((x_1:Int)+(1:Int))))=SV.c (SC.v (Value.int IntKind.i64 (x':Int)))/\SV.c (SC.v (Value.int IntKind.i64 (dY (x % (4294967296:Int)).toNat (y % (4294967296:Int)).toNat rs x_1+(↑((2:Nat) ^ x_1):Int) * d)))=SV.c (SC.v (Value.int IntKind.i64 (dY (x % (4294967296:Int)).toNat (y % (4294967296:Int)).toNat rs x')))/\SV.c (SC.v (Value.int IntKind.i64 ((2:Int) * (↑((2:Nat) ^ x_1):Int))))=SV.c (SC.v (Value.int IntKind.i64 (↑((2:Nat) ^ x'):Int)))/\SV.c (SC.v (Value.int IntKind.i64 ((↑((x % (4294967296:Int)).toNat / (2:Nat) ^ x_1):Int).tdiv (2:Int))))=SV.c (SC.v (Value.int IntKind.i64 (↑((x % (4294967296:Int)).toNat / (2:Nat) ^ x'):Int)))/\SV.c (SC.v (Value.int IntKind.i64 ((↑((y % (4294967296:Int)).toNat / (2:Nat) ^ x_1):Int).tdiv (2:Int))))=SV.c (SC.v (Value.int IntKind.i64 (↑((y % (4294967296:Int)).toNat / (2:Nat) ^ x'):Int)))/\True)/\[(([]:Go.jw.Gd),aj.obj (203:Nat) (Sh.arr (4:Nat) gZ) rs)]=[(([]:Go.jw.Gd),aj.obj (203:Nat) (Sh.arr (4:Nat) gZ) rs)]/\(32:Nat) - x' < (32:Nat) - x_1) (True/\([]:List Go.jw.aj)=[]/\aW.one (SV.c (SC.v (Value.int IntKind.i64 (aH (dY (Int.toNat (x % (4294967296:gZ.den))) (Int.toNat (y % (4294967296:gZ.den))) rs (32:Nat))))))=aW.one (SV.c (SC.v (Value.int IntKind.i64 (aH (dY (x % (4294967296:Int)).toNat (y % (4294967296:Int)).toNat rs x_1)))))))) (br (decide (y < (0:Int))) (nM IntKind.i64 (y+(4294967296:Int))/\(∃x_1,x_1<=(32:Nat)/\(SV.c (SC.v (Value.int IntKind.i64 (0:Int)))=SV.c (SC.v (Value.int IntKind.i64 (x_1:Int)))/\SV.c (SC.v (Value.int IntKind.i64 (0:Int)))=SV.c (SC.v (Value.int IntKind.i64 (dY (x % (4294967296:Int)).toNat (y % (4294967296:Int)).toNat rs x_1)))/\SV.c (SC.v (Value.int IntKind.i64 (1:Int)))=SV.c (SC.v (Value.int IntKind.i64 (↑((2:Nat) ^ x_1):Int)))/\SV.c (SC.v (Value.int IntKind.i64 x))=SV.c (SC.v (Value.int IntKind.i64 (↑((x % (4294967296:Int)).toNat / (2:Nat) ^ x_1):Int)))/\SV.c (SC.v (Value.int IntKind.i64 (y+(4294967296:Int))))=SV.c (SC.v (Value.int IntKind.i64 (↑((y % (4294967296:Int)).toNat / (2:Nat) ^ x_1):Int)))/\True)/\[(([]:Go.jw.Gd),aj.obj (203:Nat) (Sh.arr (4:Nat) gZ) rs)]=[(([]:Go.jw.Gd),aj.obj (203:Nat) (Sh.arr (4:Nat) gZ) rs)])/\∀(x_1:Nat),x_1<=(32:Nat)->br (decide ((x_1:Int) < (32:Int))) ((2:Int)≠(0:Int)/\nM IntKind.i64 ((2:Int) * (↑((x % (4294967296:Int)).toNat / (2:Nat) ^ x_1):Int).tmod (2:Int))/\(2:Int)≠(0:Int)/\nM IntKind.i64 ((2:Int) * (↑((x % (4294967296:Int)).toNat / (2:Nat) ^ x_1):Int).tmod (2:Int)+(↑((y % (4294967296:Int)).toNat / (2:Nat) ^ x_1):Int).tmod (2:Int))/\((0:Int)<=(2:Int) * (↑((x % (4294967296:Int)).toNat / (2:Nat) ^ x_1):Int).tmod (2:Int)+(↑((y % (4294967296:Int)).toNat / (2:Nat) ^ x_1):Int).tmod (2:Int)/\(2:Int) * (↑((x % (4294967296:Int)).toNat / (2:Nat) ^ x_1):Int).tmod (2:Int)+(↑((y % (4294967296:Int)).toNat / (2:Nat) ^ x_1):Int).tmod (2:Int) < (4:Int))/\((2:Int) * (↑((x % (4294967296:Int)).toNat / (2:Nat) ^ x_1):Int).tmod (2:Int)+(↑((y % (4294967296:Int)).toNat / (2:Nat) ^ x_1):Int).tmod (2:Int)).toNat < (4:Nat)/\∀(d:Int),rs[((2:Int) * (↑((x % (4294967296:Int)).toNat / (2:Nat) ^ x_1):Int).tmod (2:Int)+(↑((y % (4294967296:Int)).toNat / (2:Nat) ^ x_1):Int).tmod (2:Int)).toNat]?=some d->nM IntKind.i64 ((↑((2:Nat) ^ x_1):Int) * d)/\nM IntKind.i64 (dY (x % (4294967296:Int)).toNat (y % (4294967296:Int)).toNat rs x_1+(↑((2:Nat) ^ x_1):Int) * d)/\(2:Int)≠(0:Int)/\nM IntKind.i64 ((↑((x % (4294967296:Int)).toNat / (2:Nat) ^ x_1):Int).tdiv (2:Int))/\(2:Int)≠(0:Int)/\nM IntKind.i64 ((↑((y % (4294967296:Int)).toNat / (2:Nat) ^ x_1):Int).tdiv (2:Int))/\nM IntKind.i64 ((2:Int) * (↑((2:Nat) ^ x_1):Int))/\nM IntKind.i64 ((x_1:Int)+(1:Int))/\∃x',x'<=(32:Nat)/\(SV.c (SC.v (Value.int IntKind.i64 ((x_1:Int)+(1:Int))))=SV.c (SC.v (Value.int IntKind.i64 (x':Int)))/\SV.c (SC.v (Value.int IntKind.i64 (dY (x % (4294967296:Int)).toNat (y % (4294967296:Int)).toNat rs x_1+(↑((2:Nat) ^ x_1):Int) * d)))=SV.c (SC.v (Value.int IntKind.i64 (dY (x % (4294967296:Int)).toNat (y % (4294967296:Int)).toNat rs x')))/\SV.c (SC.v (Value.int IntKind.i64 ((2:Int) * (↑((2:Nat) ^ x_1):Int))))=SV.c (SC.v (Value.int IntKind.i64 (↑((2:Nat) ^ x'):Int)))/\SV.c (SC.v (Value.int IntKind.i64 ((↑((x % (4294967296:Int)).toNat / (2:Nat) ^ x_1):Int).tdiv (2:Int))))=SV.c (SC.v (Value.int IntKind.i64 (↑((x % (4294967296:Int)).toNat / (2:Nat) ^ x'):Int)))/\SV.c (SC.v (Value.int IntKind.i64 ((↑((y % (4294967296:Int)).toNat / (2:Nat) ^ x_1):Int).tdiv (2:Int))))=SV.c (SC.v (Value.int IntKind.i64 (↑((y % (4294967296:Int)).toNat / (2:Nat) ^ x'):Int)))/\True)/\[(([]:Go.jw.Gd),aj.obj (203:Nat) (Sh.arr (4:Nat) gZ) rs)]=[(([]:Go.jw.Gd),aj.obj (203:Nat) (Sh.arr (4:Nat) gZ) rs)]/\(32:Nat) - x' < (32:Nat) - x_1) (True/\([]:List Go.jw.aj)=[]/\aW.one (SV.c (SC.v (Value.int IntKind.i64 (aH (dY (Int.toNat (x % (4294967296:gZ.den))) (Int.toNat (y % (4294967296:gZ.den))) rs (32:Nat))))))=aW.one (SV.c (SC.v (Value.int IntKind.i64 (aH (dY (x % (4294967296:Int)).toNat (y % (4294967296:Int)).toNat rs x_1))))))) ((∃x_1,x_1<=(32:Nat)/\(SV.c (SC.v (Value.int IntKind.i64 (0:Int)))=SV.c (SC.v (Value.int IntKind.i64 (x_1:Int)))/\SV.c (SC.v (Value.int IntKind.i64 (0:Int)))=SV.c (SC.v (Value.int IntKind.i64 (dY (x % (4294967296:Int)).toNat (y % (4294967296:Int)).toNat rs x_1)))/\SV.c (SC.v (Value.int IntKind.i64 (1:Int)))=SV.c (SC.v (Value.int IntKind.i64 (↑((2:Nat) ^ x_1):Int)))/\SV.c (SC.v (Value.int IntKind.i64 x))=SV.c (SC.v (Value.int IntKind.i64 (↑((x % (4294967296:Int)).toNat / (2:Nat) ^ x_1):Int)))/\SV.c (SC.v (Value.int IntKind.i64 y))=SV.c (SC.v (Value.int IntKind.i64 (↑((y % (4294967296:Int)).toNat / (2:Nat) ^ x_1):Int)))/\True)/\[(([]:Go.jw.Gd),aj.obj (203:Nat) (Sh.arr (4:Nat) gZ) rs)]=[(([]:Go.jw.Gd),aj.obj (203:Nat) (Sh.arr (4:Nat) gZ) rs)])/\∀(x_1:Nat),x_1<=(32:Nat)->br (decide ((x_1:Int) < (32:Int))) ((2:Int)≠(0:Int)/\nM IntKind.i64 ((2:Int) * (↑((x % (4294967296:Int)).toNat / (2:Nat) ^ x_1):Int).tmod (2:Int))/\(2:Int)≠(0:Int)/\nM IntKind.i64 ((2:Int) * (↑((x % (4294967296:Int)).toNat / (2:Nat) ^ x_1):Int).tmod (2:Int)+(↑((y % (4294967296:Int)).toNat / (2:Nat) ^ x_1):Int).tmod (2:Int))/\((0:Int)<=(2:Int) * (↑((x % (4294967296:Int)).toNat / (2:Nat) ^ x_1):Int).tmod (2:Int)+(↑((y % (4294967296:Int)).toNat / (2:Nat) ^ x_1):Int).tmod (2:Int)/\(2:Int) * (↑((x % (4294967296:Int)).toNat / (2:Nat) ^ x_1):Int).tmod (2:Int)+(↑((y % (4294967296:Int)).toNat / (2:Nat) ^ x_1):Int).tmod (2:Int) < (4:Int))/\((2:Int) * (↑((x % (4294967296:Int)).toNat / (2:Nat) ^ x_1):Int).tmod (2:Int)+(↑((y % (4294967296:Int)).toNat / (2:Nat) ^ x_1):Int).tmod (2:Int)).toNat < (4:Nat)/\∀(d:Int),rs[((2:Int) * (↑((x % (4294967296:Int)).toNat / (2:Nat) ^ x_1):Int).tmod (2:Int)+(↑((y % (4294967296:Int)).toNat / (2:Nat) ^ x_1):Int).tmod (2:Int)).toNat]?=some d->nM IntKind.i64 ((↑((2:Nat) ^ x_1):Int) * d)/\nM IntKind.i64 (dY (x % (4294967296:Int)).toNat (y % (4294967296:Int)).toNat rs x_1+(↑((2:Nat) ^ x_1):Int) * d)/\(2:Int)≠(0:Int)/\nM IntKind.i64 ((↑((x % (4294967296:Int)).toNat / (2:Nat) ^ x_1):Int).tdiv (2:Int))/\(2:Int)≠(0:Int)/\nM IntKind.i64 ((↑((y % (4294967296:Int)).toNat / (2:Nat) ^ x_1):Int).tdiv (2:Int))/\nM IntKind.i64 ((2:Int) * (↑((2:Nat) ^ x_1):Int))/\nM IntKind.i64 ((x_1:Int)+(1:Int))/\∃x',x'<=(32:Nat)/\(SV.c (SC.v (Value.int IntKind.i64 ((x_1:Int)+(1:Int))))=SV.c (SC.v (Value.int IntKind.i64 (x':Int)))/\SV.c (SC.v (Value.int IntKind.i64 (dY (x % (4294967296:Int)).toNat (y % (4294967296:Int)).toNat rs x_1+(↑((2:Nat) ^ x_1):Int) * d)))=SV.c (SC.v (Value.int IntKind.i64 (dY (x % (4294967296:Int)).toNat (y % (4294967296:Int)).toNat rs x')))/\SV.c (SC.v (Value.int IntKind.i64 ((2:Int) * (↑((2:Nat) ^ x_1):Int))))=SV.c (SC.v (Value.int IntKind.i64 (↑((2:Nat) ^ x'):Int)))/\SV.c (SC.v (Value.int IntKind.i64 ((↑((x % (4294967296:Int)).toNat / (2:Nat) ^ x_1):Int).tdiv (2:Int))))=SV.c (SC.v (Value.int IntKind.i64 (↑((x % (4294967296:Int)).toNat / (2:Nat) ^ x'):Int)))/\SV.c (SC.v (Value.int IntKind.i64 ((↑((y % (4294967296:Int)).toNat / (2:Nat) ^ x_1):Int).tdiv (2:Int))))=SV.c (SC.v (Value.int IntKind.i64 (↑((y % (4294967296:Int)).toNat / (2:Nat) ^ x'):Int)))/\True)/\[(([]:Go.jw.Gd),aj.obj (203:Nat) (Sh.arr (4:Nat) gZ) rs)]=[(([]:Go.jw.Gd),aj.obj (203:Nat) (Sh.arr (4:Nat) gZ) rs)]/\(32:Nat) - x' < (32:Nat) - x_1) (True/\([]:List Go.jw.aj)=[]/\aW.one (SV.c (SC.v (Value.int IntKind.i64 (aH (dY (Int.toNat (x % (4294967296:gZ.den))) (Int.toNat (y % (4294967296:gZ.den))) rs (32:Nat))))))=aW.one (SV.c (SC.v (Value.int IntKind.i64 (aH (dY (x % (4294967296:Int)).toNat (y % (4294967296:Int)).toNat rs x_1)))))))):=by
 delta gZ;obtain⟨hx,hy,hv⟩:(-2147483648<=x/\x<=2147483647)/\(-2147483648<=y/\y<=2147483647)/\(∀v∈rs,v=0\/v=1):=aA;have vi:∀{a b:Int},a=b->SV.c (SC.v (Value.int .i64 a))=SV.c (SC.v (Value.int .i64 b)):=λh=>by rw[h]
 have x0:∀(z:Int),((z % 4294967296).toNat / 2 ^ 0:Nat)=(z % 4294967296).toNat:=λz=>by simp
 have step:∀i:Nat,i<=32->br (decide ((i:Int) < 32)) ((2:Int)≠0/\nM .i64 (2 * ((((x % 4294967296).toNat / 2 ^ i:Nat):Int)).tmod 2)/\(2:Int)≠0/\nM .i64 (2 * ((((x % 4294967296).toNat / 2 ^ i:Nat):Int)).tmod 2+((((y % 4294967296).toNat / 2 ^ i:Nat):Int)).tmod 2)/\(0<=2 * ((((x % 4294967296).toNat / 2 ^ i:Nat):Int)).tmod 2+((((y % 4294967296).toNat / 2 ^ i:Nat):Int)).tmod 2/\2 * ((((x % 4294967296).toNat / 2 ^ i:Nat):Int)).tmod 2+((((y % 4294967296).toNat / 2 ^ i:Nat):Int)).tmod 2 < 4)/\(2 * ((((x % 4294967296).toNat / 2 ^ i:Nat):Int)).tmod 2+((((y % 4294967296).toNat / 2 ^ i:Nat):Int)).tmod 2).toNat < 4 /\
  ∀(d:Int),rs[(2 * ((((x % 4294967296).toNat / 2 ^ i:Nat):Int)).tmod 2+((((y % 4294967296).toNat / 2 ^ i:Nat):Int)).tmod 2).toNat]?=some d->nM .i64 (((2 ^ i:Nat):Int) * d)/\nM .i64 (dY (x % 4294967296).toNat (y % 4294967296).toNat rs i+((2 ^ i:Nat):Int) * d)/\(2:Int)≠0/\nM .i64 ((((x % 4294967296).toNat / 2 ^ i:Nat):Int).tdiv 2)/\(2:Int)≠0/\nM .i64 ((((y % 4294967296).toNat / 2 ^ i:Nat):Int).tdiv 2)/\nM .i64 (2 * ((2 ^ i:Nat):Int))/\nM .i64 ((i:Int)+1) /\
    ∃x':Nat,x'<=32/\(SV.c (SC.v (Value.int .i64 ((i:Int)+1)))=SV.c (SC.v (Value.int .i64 (x':Int)))/\SV.c (SC.v (Value.int .i64 (dY (x % 4294967296).toNat (y % 4294967296).toNat rs i+((2 ^ i:Nat):Int) * d)))=SV.c (SC.v (Value.int .i64 (dY (x % 4294967296).toNat (y % 4294967296).toNat rs x')))/\SV.c (SC.v (Value.int .i64 (2 * ((2 ^ i:Nat):Int))))=SV.c (SC.v (Value.int .i64 ((2 ^ x':Nat):Int)))/\SV.c (SC.v (Value.int .i64 ((((x % 4294967296).toNat / 2 ^ i:Nat):Int).tdiv 2)))=SV.c (SC.v (Value.int .i64 (((x % 4294967296).toNat / 2 ^ x':Nat):Int)))/\SV.c (SC.v (Value.int .i64 ((((y % 4294967296).toNat / 2 ^ i:Nat):Int).tdiv 2)))=SV.c (SC.v (Value.int .i64 (((y % 4294967296).toNat / 2 ^ x':Nat):Int)))/\True)/\[(([]:Go.jw.Gd),aj.obj 203 (.arr 4 (.int .i64)) rs)]=[(([]:Go.jw.Gd),aj.obj 203 (.arr 4 (.int .i64)) rs)]/\32 - x' < 32 - i) (True/\([]:List Go.jw.aj)=[]/\aW.one (SV.c (SC.v (Value.int .i64 (aH (dY (x % 4294967296).toNat (y % 4294967296).toNat rs 32)))))=aW.one (SV.c (SC.v (Value.int .i64 (aH (dY (x % 4294967296).toNat (y % 4294967296).toNat rs i)))))):=by
  intro i hi;have hr:=Jg (X:=(x % 4294967296).toNat) (Y:=(y % 4294967296).toNat) hv i;have hX:(x % 4294967296).toNat < 4294967296:=by omega
  have hY:(y % 4294967296).toNat < 4294967296:=by omega
  have hb:dY (x % 4294967296).toNat (y % 4294967296).toNat rs (i+1)=dY (x % 4294967296).toNat (y % 4294967296).toNat rs i+2 ^ i * rs.getD (2 * ((x % 4294967296).toNat / 2 ^ i % 2)+(y % 4294967296).toNat / 2 ^ i % 2) 0:=rfl;generalize (x % 4294967296).toNat=X at *;generalize (y % 4294967296).toNat=Y at *;have hc:(2:Int) ^ i=((2 ^ i:Nat):Int):=by push_cast;rfl
  rw[hc]at hr hb;have hu:X / 2 ^ (i+1)=X / 2 ^ i / 2:=by rw[Nat.pow_succ,Nat.div_div_eq_div_mul]
  have hw:Y / 2 ^ (i+1)=Y / 2 ^ i / 2:=by rw[Nat.pow_succ,Nat.div_div_eq_div_mul]
  have lx:X / 2 ^ i<=X:=Nat.div_le_self _ _;have ly:Y / 2 ^ i<=Y:=Nat.div_le_self _ _;have hp1:2 ^ (i+1)=2 * 2 ^ i:=by rw[Nat.pow_succ];omega
  refine aJ.2 ⟨λh=>?_,λh=>⟨trivial,rfl,?_⟩⟩
  .have hp:2 ^ i<=2147483648:=by
    have:=Nat.pow_le_pow_right (n:=2) (by omega) (show i<=31 by omega)
    simpa using this
   generalize X / 2 ^ i=u at *;generalize Y / 2 ^ i=w at *;have t1:((u:Int)).tmod 2=((u % 2:Nat):Int):=by rw[akf (by omega)];omega
   have t2:((w:Int)).tmod 2=((w % 2:Nat):Int):=by rw[akf (by omega)];omega
   have t3:((u:Int)).tdiv 2=((u / 2:Nat):Int):=by rw[A75 (by omega)];omega
   have t4:((w:Int)).tdiv 2=((w / 2:Nat):Int):=by rw[A75 (by omega)];omega
   rw[t1,t2,t3,t4];have ei:(2 * ((u % 2:Nat):Int)+((w % 2:Nat):Int)).toNat=2 * (u % 2)+w % 2:=by omega
   rw[ei];refine⟨by decide,au.2 (by omega),by decide,au.2 (by omega),by omega,by omega,λd hd=>?_⟩
   have hd1:=hv d (gQ hd);have hg:rs.getD (2 * (u % 2)+w % 2) 0=d:=by rw[Il,hd];rfl
   rw[hg]at hb;have hm:((2 ^ i:Nat):Int) * d=0\/((2 ^ i:Nat):Int) * d=((2 ^ i:Nat):Int):=by
    rcases hd1 with e | e
    .left;rw[e];simp
    .right;rw[e];simp
   refine⟨au.2 (by omega),au.2 (by omega),by decide,au.2 (by omega),by decide,au.2 (by omega),au.2 (by omega),au.2 (by omega),i+1,by omega,⟨rfl,vi hb.symm,vi (by rw[hp1];omega),vi (by rw[hu]),vi (by rw[hw]),trivial⟩,rfl,by omega⟩
  .have:i=32:=by omega
   rw[this]
 refine aJ.2 ⟨λh=>⟨au.2 (by omega),aJ.2 ⟨λh2=>⟨au.2 (by omega),⟨0,by omega,⟨rfl,rfl,rfl,vi (by rw[x0];omega),vi (by rw[x0];omega),trivial⟩,rfl⟩,step⟩,λh2=>⟨⟨0,by omega,⟨rfl,rfl,rfl,vi (by rw[x0];omega),vi (by rw[x0];omega),trivial⟩,rfl⟩,step⟩⟩⟩,
  λh=>aJ.2 ⟨λh2=>⟨au.2 (by omega),⟨0,by omega,⟨rfl,rfl,rfl,vi (by rw[x0];omega),vi (by rw[x0];omega),trivial⟩,rfl⟩,step⟩,λh2=>⟨⟨0,by omega,⟨rfl,rfl,rfl,vi (by rw[x0];omega),vi (by rw[x0];omega),trivial⟩,rfl⟩,step⟩⟩⟩
theorem acG:aN aK.gd 194 acF:=
 bV (cx:=aK) (n:=42) (cl:=[(193,LG)]) (rc:=[]) ay ⟨O7,trivial⟩ Tryz.func194 λd hd=>by
  obtain⟨x,y,rs,⟨⟩⟩:=d;exact aI (anh x y rs) (ahq x y rs hd) (by kernel_rfl)
abbrev SA:CT:={ ps:=[.int .i64,.int .i64,.int .i64],pre:=λd=>True,res:=λd=>([],.gY [.c (.v (.int .i64 (dQ d.1 d.2.1 d.2.2.1).1)),.c (.v (.int .i64 (dQ d.1 d.2.1 d.2.2.1).2))]) }
theorem ahr(f a b:Int):
 let z1:=[cI ((dQ f a b).fst),cI ((dQ f a b).snd)];let z2:=(-2147483648)<=aH a/\aH a<=2147483647;let z3:=(-2147483648)<=aH b/\aH b<=2147483647;let z4:=[(0:Int),(0:Int),(0:Int),(1:Int)];let z7:=Int.toNat (aH a % iU);let z8:=Int.toNat (aH b % iU);let z5:=[(0:Int),(1:Int),(1:Int),(1:Int)];let z6:=[(0:Int),(1:Int),(1:Int),(0:Int)];True/\True/\br (decide (f=1)) (iR (aH a+aH b)/\True/\rT z1 [cI (aH (aH a+aH b)),cI 0]) (br (decide (f=2)) (iR (aH a - aH b)/\True/\rT z1 [cI (aH (aH a - aH b)),cI 0]) (br (decide (f=3)) (iR (aH a * aH b)/\True/\rT z1 [cI (aH (aH a * aH b)),cI 0]) (br (decide (f=4)) ((z2/\z3/\∀(v:Int),v∈z4->v=0\/v=1)/\rT z1 [cI (aH (dY z7 z8 z4 32)),cI 0]) (br (decide (f=5)) ((z2/\z3/\∀(v:Int),v∈z5->v=0\/v=1)/\rT z1 [cI (aH (dY z7 z8 z5 32)),cI 0]) (br (decide (f=6)) ((z2/\z3/\∀(v:Int),v∈z6->v=0\/v=1)/\rT z1 [cI (aH (dY z7 z8 z6 32)),cI 0]) (br (decide (f=7)) (True/\rT z1 [cI (if decide (aH a=aH b)=true then(1:Int) else(0:Int)),cI 0]) (br (decide (f=8)) (True/\rT z1 [cI (if(!decide (aH a=aH b))=true then(1:Int) else(0:Int)),cI 0]) (br (decide (f=9)) (True/\rT z1 [cI (if decide (aH a < aH b)=true then(1:Int) else(0:Int)),cI 0]) (br (decide (f=10)) (True/\rT z1 [cI (if decide (aH a<=aH b)=true then(1:Int) else(0:Int)),cI 0]) (rT z1 [cI 0,cI 8])))))))))):=by
 conv=>zeta
 delta cI rT iR iU;have ha:=o8 a;have hb:=o8 b;have hm:=ajT ha hb;have b1:=ab6 (x:=aH a) (y:=aH b);have b2:=ag3 (x:=aH a) (y:=aH b);have b3:=ab7 (x:=aH a) (y:=aH b);unfold dQ
 refine⟨trivial,trivial,aJ.2 ⟨λh=>⟨au.2 (by omega),trivial,rfl,by rw[if_pos h]⟩,λn1=>aJ.2 ⟨λh=>⟨au.2 (by omega),trivial,rfl,by rw[if_neg n1,if_pos h]⟩,λn2=>aJ.2 ⟨λh=>⟨au.2 (by omega),trivial,rfl,by rw[if_neg n1,if_neg n2,if_pos h]⟩,λn3=>aJ.2 ⟨λh=>⟨⟨ha,hb,λv hv=>by simp at hv;omega⟩,rfl,by rw[if_neg n1,if_neg n2,if_neg n3,if_pos h];exact oW (λz=>aW.gY [SV.c (SC.v (Value.int .i64 z)),SV.c (SC.v (Value.int .i64 0))]) b1.symm⟩,λn4=>aJ.2 ⟨λh=>⟨⟨ha,hb,λv hv=>by simp at hv;omega⟩,rfl,by rw[if_neg n1,if_neg n2,if_neg n3,if_neg n4,if_pos h];exact oW (λz=>aW.gY [SV.c (SC.v (Value.int .i64 z)),SV.c (SC.v (Value.int .i64 0))]) b2.symm⟩,λn5=>aJ.2 ⟨λh=>⟨⟨ha,hb,λv hv=>by simp at hv;omega⟩,rfl,by rw[if_neg n1,if_neg n2,if_neg n3,if_neg n4,if_neg n5,if_pos h];exact oW (λz=>aW.gY [SV.c (SC.v (Value.int .i64 z)),SV.c (SC.v (Value.int .i64 0))]) b3.symm⟩,λn6=>aJ.2 ⟨λh=>⟨trivial,rfl,by simp[h]⟩,λn7=>aJ.2 ⟨λh=>⟨trivial,rfl,by simp[h]⟩,λn8=>aJ.2 ⟨λh=>⟨trivial,rfl,by simp[h]⟩,λn9=>aJ.2 ⟨λh=>⟨trivial,rfl,by simp[h]⟩,λn10=>⟨rfl,by simp[n1,n2,n3,n4,n5,n6,n7,n8,n9,n10]⟩⟩⟩⟩⟩⟩⟩⟩⟩⟩⟩⟩
theorem O8:aN aK.gd 159 SA:=
 bV (cx:=aK) (n:=75) (cl:=[(193,LG),(195,acD),(194,acF)]) (rc:=[]) ay ⟨O7,acE,acG,trivial⟩ Tryz.func159 λd hd=>by
  obtain⟨f,a,b,⟨⟩⟩:=d;exact aI (λ_=>none) (ahr f a b) (by kernel_rfl)
abbrev SB:CT:={ ps:=[.int .i64],pre:=λd=>True,res:=λd=>([],vB (jm d.1)) }
theorem ahs(op:Int):
 qB (jm op) (decide (8<=op) && decide (op<=22)):=by
 delta qB;refine⟨rfl,?_⟩;rw[show jm op=(decide (8<=op) && decide (op<=22)) by unfold jm;rw[Et];simp]
theorem O9:aN aK.gd 152 SB:=
 jG (cx:=aK) (n:=9) (cl:=[]) ay trivial Tryz.func152 λd hd=>by
  obtain⟨op,⟨⟩⟩:=d;exact aI (λ_=>none) (ahs op) (by kernel_rfl)
abbrev acH:CT:={ ps:=[jT],pre:=λd=>True,res:=λd=>([],.gY [.c (.v (.int .i64 (jo d.1).1)),.c (.v (.bool (jo d.1).2))]) }
theorem aht(op a b c obj n fo ord:Int):
 let z3:=pY op a b c obj n fo ord=0;let z2:=jo (op,a,b,c,obj,n,fo,ord,());let z1:=[cI (z2.fst),cB (z2.snd)];True/\((!!decide z3)=true->True)/\br (!decide z3 || !gK op (65:Int)) (rT z1 [cI 0,cB false]) (rT z1 [cI a,cB true]):=by
 conv=>zeta
 delta cI cB rT;rw[(UN op).1];refine⟨trivial,λ_=>trivial,ah.2 ⟨λh=>?_,λh=>?_⟩⟩
 .have e:jo (op,a,b,c,obj,n,fo,ord,())=(0,false):=by
   unfold jo;rw[if_pos];rw[wX]at h;rcases h with q | q
   .left;simpa using q
   .right;simpa using q
  rw[e];exact⟨rfl,rfl⟩
 .have e:jo (op,a,b,c,obj,n,fo,ord,())=(a,true):=by
   unfold jo;rw[if_neg];rw[lM]at h;rintro(q | q)
   .exact q (by simpa using h.1)
   .have:=h.2;rw[q]at this;cases this
  rw[e];exact⟨rfl,rfl⟩
theorem acI:aN aK.gd 124 acH:=
 jG (cx:=aK) (n:=15) (cl:=[(176,amc),(177,al7)]) ay ⟨Ox,Ot,trivial⟩ Tryz.func124 λd hd=>by
  obtain⟨⟨op,a,b,c,obj,n,fo,ord,⟨⟩⟩,⟨⟩⟩:=d;exact aI (λ_=>none) (aht op a b c obj n fo ord) (by kernel_rfl)
abbrev Jk:CT:={ ps:=[.int .i64],pre:=λd=>d.1<=9223372036854775807,res:=λd=>([],vB (decide (0<=aU d.1))) }
abbrev aqz(id:Int):Nat->Option (St->iE):=λk=>match k with
 | 2=>some λ_=>.inv { α:=Nat×Int,slots:=λx=>[(3,.c (.v (.int .i64 x.1))),(0,.c (.v (.int .i64 x.2)))],res:=λ_=>[],inv:=λx=>x.1<=5/\x.2<=9223372036854775807/\aU id=if x.2 < 0 then -1 else dZ (5 - x.1) x.1 x.2,meas:=λx=>5 - x.1 }
 | _=>none
theorem ani(id:Int) (aA:Jk.pre (id,())):
 let z1:=λ(x:Nat×Int)=>x.fst<=5/\x.snd<=9223372036854775807/\aU id=if x.snd < 0 then(-1:Int) else dZ (5 - x.fst) (x.fst:Int) x.snd;let z2:=qB (decide (0<=aU id)) false;(∃(x:Nat×Int),(z1 x)/\(cI 0=cI (x.fst:Int)/\cI id=cI x.snd/\True)/\([]:List dP)=[])/\∀(x:Nat×Int),(z1 x)->br (decide ((x.fst:Int)<=(4:Int))) (br (decide (x.snd < 0)) z2 (br (decide (x.snd < 8)) (qB (decide (0<=aU id)) true) ((8:Int)≠(0:Int)/\br (decide (7<=x.snd.tmod (8:Int))) z2 ((8:Int)≠(0:Int)/\iR (x.snd.tdiv (8:Int))/\iR (x.snd.tdiv (8:Int) - (1:Int))/\iR ((x.fst:Int)+(1:Int))/\∃(x':Nat×Int),(z1 x')/\(cI ((x.fst:Int)+(1:Int))=cI (x'.fst:Int)/\cI (x.snd.tdiv (8:Int) - (1:Int))=cI x'.snd/\True)/\([]:List dP)=[]/\5 - x'.fst < 5 - x.fst)))) z2:=by
 conv=>zeta
 delta dP cI qB iR;have hp:id<=9223372036854775807:=aA;refine⟨⟨(0,id),⟨by omega,hp,rfl⟩,⟨rfl,rfl,trivial⟩,rfl⟩,λx hx=>?_⟩
 obtain⟨k,v⟩:=x;obtain⟨x1,x2,x3⟩:=hx;have x1:k<=5:=x1;have x2:v<=9223372036854775807:=x2;have x3:aU id=if v < 0 then -1 else dZ (5 - k) k v:=x3
 refine aJ.2 ⟨λh=>aJ.2 ⟨λh2=>?_,λh2=>aJ.2 ⟨λh3=>?_,λh3=>⟨by decide,aJ.2 ⟨λh4=>?_,λh4=>?_⟩⟩⟩⟩,λh=>?_⟩
 .have h2:v < 0:=h2;rw[if_pos h2]at x3;rw[x3];exact⟨rfl,rfl⟩
 all_goals first | (have h:k<=4:=by(have:(k:Int)<=4:=h);omega) | skip
 all_goals first | (have h2:¬v < 0:=h2) | skip
 .have h3:v < 8:=h3;rw[if_neg h2]at x3;obtain⟨m,hm⟩:∃m,5 - k=m+1:=⟨4 - k,by omega⟩
  rw[hm,dZ,if_pos h3]at x3;rw[x3,show decide ((0:Int)<=k)=true from vg (by omega)];exact⟨rfl,rfl⟩
 .have h3:¬v < 8:=h3;have h4:7<=v.tmod 8:=h4;rw[if_neg h2]at x3;obtain⟨m,hm⟩:∃m,5 - k=m+1:=⟨4 - k,by omega⟩
  rw[hm,dZ,if_neg h3,if_pos h4]at x3;rw[x3];exact⟨rfl,rfl⟩
 .have h3:¬v < 8:=h3;have h4:¬7<=v.tmod 8:=h4;rw[if_neg h2]at x3;obtain⟨m,hm⟩:∃m,5 - k=m+1:=⟨4 - k,by omega⟩
  rw[hm,dZ,if_neg h3,if_neg h4]at x3;have e:v.tdiv 8=v / 8:=A75 (by omega)
  refine⟨by decide,au.2 (show(-9223372036854775808:Int)<=v.tdiv 8/\v.tdiv 8<=9223372036854775807 by omega),au.2 (show(-9223372036854775808:Int)<=v.tdiv 8 - 1/\v.tdiv 8 - 1<=9223372036854775807 by omega),au.2 (show(-9223372036854775808:Int)<=(k:Int)+1/\(k:Int)+1<=9223372036854775807 by omega),(k+1,v.tdiv 8 - 1),⟨show k+1<=5 by omega,show v.tdiv 8 - 1<=9223372036854775807 by omega,?_⟩,⟨rfl,rfl,trivial⟩,rfl,show 5 - (k+1) < 5 - k by omega⟩
  show aU id=if v.tdiv 8 - 1 < 0 then -1 else dZ (5 - (k+1)) ((k+1:Nat):Int) (v.tdiv 8 - 1)
  rw[if_neg (by omega),x3,show 5 - (k+1)=m by omega];rfl
 .have h:¬k<=4:=by
   have:¬(k:Int)<=4:=h;omega
  rw[show 5 - k=0 by omega]at x3
  have:aU id = -1:=by rw[x3];split<;>rfl
  rw[this];exact⟨rfl,rfl⟩
theorem D9:aN aK.gd 80 Jk:=
 jG (cx:=aK) (n:=18) (cl:=[]) ay trivial Tryz.func80 λd hd=>by
  obtain⟨id,⟨⟩⟩:=d;exact aI (aqz id) (ani id hd) (by kernel_rfl)
abbrev Vj:CT:={ ps:=[.int .i64],pre:=λd=>d.1<=9223372036854775807,res:=λd=>([],.one (.c (.v (.int .i64 (iL d.1))))) }
abbrev anj(id:Int):Nat->Option (St->iE):=λk=>match k with
 | 4=>some λ_=>.inv { α:=Nat×Int,slots:=λx=>[(3,.c (.v (.int .i64 x.1))),(0,.c (.v (.int .i64 x.2)))],res:=λ_=>[],inv:=λx=>x.1<=4/\0<=x.2/\x.2<=9223372036854775807/\0<=aU id/\dZ (5 - x.1) x.1 x.2=aU id,meas:=λx=>x.2.toNat }
 | _=>none
theorem ahu(id:Int) (aA:Vj.pre (id,())):
 let z1:=λ(x:Nat×Int)=>x.fst<=4/\0<=x.snd/\x.snd<=9223372036854775807/\0<=aU id/\dZ (5 - x.fst) (x.fst:Int) x.snd=aU id;id<=9223372036854775807/\br (!decide (0<=aU id)) (qI (iL id) (0:Int)) ((∃(x:Nat×Int),(z1 x)/\(cI 0=cI (x.fst:Int)/\cI id=cI x.snd/\True)/\([]:List dP)=[])/\∀(x:Nat×Int),x.fst<=4/\0<=x.snd/\x.snd<=9223372036854775807/\0<=aU id/\dZ (5 - x.fst) (x.fst:Int) x.snd=aU id->br (decide (8<=x.snd)) ((8:Int)≠(0:Int)/\iR (x.snd.tdiv (8:Int))/\iR (x.snd.tdiv (8:Int) - (1:Int))/\iR ((x.fst:Int)+(1:Int))/\∃(x':Nat×Int),(z1 x')/\(cI ((x.fst:Int)+(1:Int))=cI (x'.fst:Int)/\cI (x.snd.tdiv (8:Int) - (1:Int))=cI x'.snd/\True)/\([]:List dP)=[]/\x'.snd.toNat < x.snd.toNat) (qI (iL id) (x.fst:Int))):=by
 conv=>zeta
 delta dP cI qI iR;have hp:id<=9223372036854775807:=aA;refine⟨hp,ah.2 ⟨λh=>?_,λh=>?_⟩⟩
 .have h:¬0<=aU id:=by simpa using h
  have e:iL id=0:=by unfold iL;rw[if_pos (by omega)]
  rw[e];exact⟨rfl,rfl⟩
 have h:0<=aU id:=by simpa using h
 have hl:=nC h;have em:iL id=aU id:=by unfold iL;rw[if_neg (by omega)]
 refine⟨⟨(0,id),⟨by omega,hl.1,hp,h,by unfold aU;rw[if_neg (by omega)];rfl⟩,⟨rfl,rfl,trivial⟩,rfl⟩,λx hx=>?_⟩
 obtain⟨k,v⟩:=x;obtain⟨x1,x2,x3,_,x4⟩:=hx;have x1:k<=4:=x1;have x2:0<=v:=x2;have x3:v<=9223372036854775807:=x3;have x4:dZ (5 - k) k v=aU id:=x4;obtain⟨m,hm⟩:∃m,5 - k=m+1:=⟨4 - k,by omega⟩
 rw[hm,dZ]at x4;refine aJ.2 ⟨λh2=>?_,λh2=>?_⟩
 .have h2:¬v < 8:=by
   have:8<=v:=h2;omega
  rw[if_neg h2]at x4;split at x4
  .omega
  have e:v.tdiv 8=v / 8:=A75 x2;have hm0:m≠0:=by
   intro q;subst q;simp[dZ]at x4;omega
  refine⟨by decide,au.2 (show(-9223372036854775808:Int)<=v.tdiv 8/\v.tdiv 8<=9223372036854775807 by omega),au.2 (show(-9223372036854775808:Int)<=v.tdiv 8 - 1/\v.tdiv 8 - 1<=9223372036854775807 by omega),au.2 (show(-9223372036854775808:Int)<=(k:Int)+1/\(k:Int)+1<=9223372036854775807 by omega),(k+1,v.tdiv 8 - 1),⟨show k+1<=4 by omega,show 0<=v.tdiv 8 - 1 by omega,show v.tdiv 8 - 1<=9223372036854775807 by omega,h,?_⟩,⟨rfl,rfl,trivial⟩,rfl,show(v.tdiv 8 - 1).toNat < v.toNat by omega⟩
  show dZ (5 - (k+1)) ((k+1:Nat):Int) (v.tdiv 8 - 1)=aU id;rw[<-x4,show 5 - (k+1)=m by omega];rfl
 .have h2:v < 8:=by
   have:¬8<=v:=h2;omega
  rw[if_pos h2]at x4;rw[em,<-x4];exact⟨rfl,rfl⟩
theorem Pe:aN aK.gd 196 Vj:=
 jG (cx:=aK) (n:=15) (cl:=[(80,Jk)]) ay ⟨D9,trivial⟩ Tryz.func196 λd hd=>by
  obtain⟨id,⟨⟩⟩:=d;exact aI (anj id) (ahu id hd) (by kernel_rfl)
abbrev Vk:CT:={ ps:=[bD],pre:=λd=>d.1.1<=9223372036854775807,res:=λd=>([],.gY [.c (.v (.int .i64 (dB d.1.1 d.1.2.2.2.2.2.1).1)),.c (.v (.bool (dB d.1.1 d.1.2.2.2.2.2.1).2))]) }
theorem ahv(id fn pc:Int) (rg:List Int) (st ch ph su fa:Int) (he:List Int) (aA:Vk.pre ((id,fn,pc,rg,st,ch,ph,su,fa,he,()),())):
 let z1:=[cI ((dB id ch).fst),cB ((dB id ch).snd)];id<=9223372036854775807/\((!!decide (0<=aU id))=true->id<=9223372036854775807)/\br (!decide (0<=aU id) || decide (iL id=4) || decide (ch < 0) || decide (7<=ch)) (rT z1 [cI 0,cB false]) (iR (id+1)/\iR ((8:Int) * (id+1))/\iR ((8:Int) * (id+1)+ch)/\rT z1 [cI ((8:Int) * (id+1)+ch),cB true]):=by
 conv=>zeta
 delta cI cB rT iR;have hp:id<=9223372036854775807:=aA;refine⟨hp,λ_=>hp,ah.2 ⟨λh=>?_,λh=>?_⟩⟩
 .have e:dB id ch=(0,false):=by
   unfold dB;rw[if_pos];unfold iL at h;simp only[wX,Ep,dG,A8]at h;split at h<;>omega
  rw[e];exact⟨rfl,rfl⟩
 .simp only[lM,uP,dG,A8]at h;obtain⟨⟨⟨h1,h2⟩,h3⟩,h4⟩:=h;unfold iL at h2;rw[if_neg (by omega)]at h2
  have e:dB id ch=(8 * (id+1)+ch,true):=by
   unfold dB;rw[if_neg (by omega)]
  have:=nC h1;rw[e];exact⟨au.2 (by omega),au.2 (by omega),au.2 (by omega),rfl,rfl⟩
theorem Pg:aN aK.gd 160 Vk:=
 jG (cx:=aK) (n:=31) (cl:=[(80,Jk),(196,Vj)]) ay ⟨D9,Pe,trivial⟩ Tryz.func160 λd hd=>by
  obtain⟨⟨id,fn,pc,rg,st,ch,ph,su,fa,he,⟨⟩⟩,⟨⟩⟩:=d;exact aI (λ_=>none) (ahv id fn pc rg st ch ph su fa he hd) (by kernel_rfl)
abbrev vZ:CT:={ ps:=[.sl (.int .i64),.int .i64],pre:=λd=>d.1.length<=1000000,res:=λd=>([],vB (dM d.1 d.2.1)) }
abbrev ank(l:List Int) (x:Int):Nat->Option (St->iE):=λk=>match k with
 | 2=>some λ_=>.inv { α:=Nat,slots:=λk=>[(5,.c (.v (.int .i64 k)))],res:=λk=>[],inv:=λk=>k<=(l).length/\∀j < k,∀y,l[j]?=some y->¬y=x,meas:=λk=>(l).length - k }
 | _=>none
theorem ahw(l:List Int) (x:Int) (aA:vZ.pre (l,x,())):
 let z1:=λ(x_1:Nat)=>(x_1<=l.length/\∀(j:Nat),j < x_1->∀(y:Int),l[j]?=some y->¬y=x);(∃x_1,(z1 x_1)/\(cI 0=cI (x_1:Int)/\True)/\([]:List dP)=[])/\∀(x_1:Nat),(z1 x_1)->br (decide ((x_1:Int) < (l.length:Int))) ((0<=(x_1:Int)/\(x_1:Int) < (l.length:Int))/\∀(d:Int),l[(x_1:Int).toNat]?=some d->br (decide (d=x)) (qB (dM l x) true) (iR ((x_1:Int)+(1:Int))/\∃x',(x'<=l.length/\∀(j:Nat),j < x'->∀(y:Int),l[j]?=some y->¬y=x)/\(cI ((x_1:Int)+(1:Int))=cI (x':Int)/\True)/\([]:List dP)=[]/\l.length - x' < l.length - x_1)) (qB (dM l x) false):=by
 conv=>zeta
 delta dP cI qB iR;have hp:l.length<=1000000:=aA;refine⟨⟨0,⟨by omega,λj hj=>by omega⟩,⟨rfl,trivial⟩,rfl⟩,λk hk=>ah.2 ⟨λh=>?_,λh=>?_⟩⟩
 .simp only[dG]at h;have hN:(k:Int).toNat=k:=by omega
  rw[hN];refine⟨by omega,λd hd=>ah.2 ⟨λh2=>⟨rfl,?_⟩,λh2=>⟨au.2 (by omega),k+1,⟨by omega,λj hj y hy=>?_⟩,⟨rfl,trivial⟩,rfl,by omega⟩⟩⟩
  .have e:dM l x=true:=by
    unfold dM;exact MR.2 ⟨d,gQ hd,h2⟩
   rw[e]
  .by_cases gu:j=k
   .subst gu;rw[hd]at hy;cases hy;simpa using h2
   .exact hk.2 j (by omega) y hy
 .simp only[A8]at h;have e:dM l x=false:=by
   unfold dM;rw[Wi];intro i hi;obtain⟨j,hj⟩:=yT hi;simpa using hk.2 j (by have:=(eX.1 hj).1;omega) i hj
  rw[e];exact⟨rfl,rfl⟩
theorem Ph:aN aK.gd 191 vZ:=
 jG (cx:=aK) (n:=18) (cl:=[]) ay trivial Tryz.func191 λd hd=>by
  obtain⟨l,x,⟨⟩⟩:=d;exact aI (ank l x) (ahw l x hd) (by kernel_rfl)
abbrev SE:CT:={ ps:=[.sl (.int .i64),.int .i64],pre:=λd=>d.1.length<=100000,res:=λd=>([.row 3 (.int .i64) (d.1.filter (λx=>decide (x < d.2.1))++[d.2.1]++d.1.filter (λx=>decide (d.2.1 < x)))],.one (.c (.row 0))) }
abbrev anl(l:List Int) (n:Int):Nat->Option (St->iE):=λk=>match k with
 | 3=>some λ_=>.inv { α:=Nat,slots:=λk=>[(6,.c (.v (.int .i64 k))),(5,.c (.row 0))],res:=λk=>[(0,.row 3 (.int .i64) ((l.take k).filter λx=>decide (x < n)))],inv:=λk=>k<=l.length,meas:=λk=>l.length - k,nil:=[(5,3,.int .i64)] }
 | 9=>some λ_=>.inv { α:=Nat,slots:=λk=>[(7,.c (.v (.int .i64 k))),(5,.c (.row 0))],res:=λk=>[(0,.row 3 (.int .i64) (l.filter (λx=>decide (x < n))++[n]++(l.take k).filter λx=>decide (n < x)))],inv:=λk=>k<=l.length,meas:=λk=>l.length - k,drop:=[30] }
 | _=>none
theorem ahx(l:List Int) (n:Int) (aA:SE.pre (l,n,())):
 let z2:=λ(x:Nat)=>0<=(x:Int)/\(x:Int) < (l.length:Int);let z3:=λ(x:Nat)=>(x:Int)+(1:Int);let z1:=λ(x x':Nat)=>cI (z3 x)=cI (x':Int)/\SV.c (SC.row 0)=SV.c (SC.row 0)/\True;(∃x,x<=l.length/\(cI 0=cI (x:Int)/\SV.c (SC.row 0)=SV.c (SC.row 0)/\True)/\[g0 (aj.row 3 I6 [])]=[g0 (aj.row 3 I6 (List.filter (λx=>decide (x < n)) (List.take x l)))])/\∀(x:Nat),x<=l.length->br (decide ((x:Int) < (l.length:Int))) ((z2 x)/\∀(d:Int),l[(x:Int).toNat]?=some d->br (decide (d < n)) ((z2 x)/\∀(d:Int),l[(x:Int).toNat]?=some d->jY (List.length (List.filter (λx=>decide (x < n)) (List.take x l))+List.length ([d])) 8/\iR (z3 x)/\∃x',x'<=l.length/\(z1 x x')/\[g0 (aj.row 3 I6 (List.filter (λx=>decide (x < n)) (List.take x l)++[d]))]=[g0 (aj.row 3 I6 (List.filter (λx=>decide (x < n)) (List.take x' l)))]/\l.length - x' < l.length - x) (iR (z3 x)/\∃x',x'<=l.length/\(z1 x x')/\[g0 (aj.row 3 I6 (List.filter (λx=>decide (x < n)) (List.take x l)))]=[g0 (aj.row 3 I6 (List.filter (λx=>decide (x < n)) (List.take x' l)))]/\l.length - x' < l.length - x)) (jY (List.length (List.filter (λx=>decide (x < n)) (List.take x l))+List.length ([n])) 8/\(∃x_1,x_1<=l.length/\(cI 0=cI (x_1:Int)/\SV.c (SC.row 0)=SV.c (SC.row 0)/\True)/\[g0 (aj.row 3 I6 (List.filter (λx=>decide (x < n)) (List.take x l)++[n])),g0 (aj.row 3 I6 [n])]=[g0 (aj.row 3 I6 (List.filter (λx=>decide (x < n)) l++[n]++List.filter (λx=>decide (n < x)) (List.take x_1 l))),g0 (aj.row 3 I6 [n])])/\∀(x:Nat),x<=l.length->br (decide ((x:Int) < (l.length:Int))) ((z2 x)/\∀(d:Int),l[(x:Int).toNat]?=some d->br (decide (n < d)) ((z2 x)/\∀(d:Int),l[(x:Int).toNat]?=some d->jY (List.length ((List.filter (λx=>decide (x < n)) l++[n]++List.filter (λx=>decide (n < x)) (List.take x l)))+List.length ([d])) 8/\iR (z3 x)/\∃x',x'<=l.length/\(z1 x x')/\[g0 (aj.row 3 I6 ((List.filter (λx=>decide (x < n)) l++[n]++List.filter (λx=>decide (n < x)) (List.take x l))++[d])),g0 (aj.row 3 I6 [n])]=[g0 (aj.row 3 I6 (List.filter (λx=>decide (x < n)) l++[n]++List.filter (λx=>decide (n < x)) (List.take x' l))),g0 (aj.row 3 I6 [n])]/\l.length - x' < l.length - x) (iR (z3 x)/\∃x',x'<=l.length/\(z1 x x')/\[g0 (aj.row 3 I6 (List.filter (λx=>decide (x < n)) l++[n]++List.filter (λx=>decide (n < x)) (List.take x l))),g0 (aj.row 3 I6 [n])]=[g0 (aj.row 3 I6 (List.filter (λx=>decide (x < n)) l++[n]++List.filter (λx=>decide (n < x)) (List.take x' l))),g0 (aj.row 3 I6 [n])]/\l.length - x' < l.length - x)) ([aj.row 3 I6 (List.filter (λx=>decide (x < (l,n,()).snd.fst)) l++[n]++List.filter (λx=>decide ((l,n,()).snd.fst < x)) l)]=[aj.row 3 I6 (List.filter (λx=>decide (x < n)) l++[n]++List.filter (λx=>decide (n < x)) (List.take x l))]/\aW.one (SV.c (SC.row 0))=aW.one (SV.c (SC.row 0)))):=by
 conv=>zeta
 delta cI g0 I6 iR;have hp:l.length<=100000:=aA;have fl:∀(q:Int->Bool) (k:Nat),((l.take k).filter q).length<=100000:=λq k=>oh (X6 _ _) (by rw[kH];omega)
 have fl2:∀(q:Int->Bool),(l.filter q).length<=100000:=λq=>oh (X6 _ _) hp
 have stp:∀(q:Int->Bool) (k:Nat) (d:Int),l[k]?=some d->(l.take (k+1)).filter q=(l.take k).filter q++(if q d=true then[d] else[]):=λq k d hd=>by
  rw[Hf,hd,Qh,Wh]
  congr 1
  simp only[aer,aeu]
 refine⟨⟨0,by omega,⟨rfl,rfl,trivial⟩,rfl⟩,λk hk=>aJ.2 ⟨λh=>?_,λh=>?_⟩⟩
 .refine⟨by omega,λd hd=>aJ.2 ⟨λh2=>⟨by omega,λd2 hd2=>⟨?_,au.2 (by omega),k+1,by omega,⟨rfl,rfl,trivial⟩,?_,by omega⟩⟩,λh2=>⟨au.2 (by omega),k+1,by omega,⟨rfl,rfl,trivial⟩,?_,by omega⟩⟩⟩
  .have:=fl (λx=>decide (x < n)) k
   rw[bJ];simp only[sZ,AY];omega
  .have hd:l[k]?=some d:=hd;have hd2:l[k]?=some d2:=hd2;rw[hd]at hd2;cases hd2;rw[stp _ k d hd,if_pos (vg h2)]
  .have hd:l[k]?=some d:=hd;rw[stp _ k d hd,if_neg (by simpa using h2),JE]
 .have hk:l.take k=l:=qV (by omega)
  rw[hk];have f1:=fl2 (λx=>decide (x < n))
  refine⟨?_,⟨0,by omega,⟨rfl,rfl,trivial⟩,by simp⟩,λm hm=>aJ.2 ⟨λh=>?_,λh=>?_⟩⟩
  .rw[bJ];simp only[sZ,AY];omega
  .refine⟨by omega,λd hd=>aJ.2 ⟨λh2=>⟨by omega,λd2 hd2=>⟨?_,au.2 (by omega),m+1,by omega,⟨rfl,rfl,trivial⟩,?_,by omega⟩⟩,λh2=>⟨au.2 (by omega),m+1,by omega,⟨rfl,rfl,trivial⟩,?_,by omega⟩⟩⟩
   .have:=fl (λx=>decide (n < x)) m
    rw[bJ];simp only[kK,sZ,AY];omega
   .have hd:l[m]?=some d:=hd;have hd2:l[m]?=some d2:=hd2;rw[hd]at hd2;cases hd2;rw[stp _ m d hd,if_pos (vg h2)];simp
   .have hd:l[m]?=some d:=hd;rw[stp _ m d hd,if_neg (by simpa using h2),JE]
  .rw[qV (by omega)];exact⟨rfl,rfl⟩
theorem acJ:aN aK.gd 125 SE:=
 bV (cx:=aK) (n:=51) (cl:=[]) (rc:=[]) ay trivial Tryz.func125 λd hd=>by
  obtain⟨l,n,⟨⟩⟩:=d;exact aI (anl l n) (ahx l n hd) (by kernel_rfl)
abbrev SG:CT:={ ps:=[.sl (.int .i64),.int .i64],pre:=λd=>d.1.length<=100000,res:=λd=>([.row 3 (.int .i64) (d.1.filter (λx=>decide (x≠d.2.1)))],.one (.c (.row 0))) }
abbrev ano(l:List Int) (n:Int):Nat->Option (St->iE):=λk=>match k with
 | 3=>some λ_=>.inv { α:=Nat,slots:=λk=>[(6,.c (.v (.int .i64 k))),(5,.c (.row 0))],res:=λk=>[(0,.row 3 (.int .i64) ((l.take k).filter λx=>decide (x≠n)))],inv:=λk=>k<=l.length,meas:=λk=>l.length - k,nil:=[(5,3,.int .i64)] }
 | _=>none
theorem ahy(l:List Int) (n:Int) (aA:SG.pre (l,n,())):
 let z2:=λ(x:Nat)=>0<=(x:Int)/\(x:Int) < (l.length:Int);let z1:=λ(x x':Nat)=>cI ((x:Int)+(1:Int))=cI (x':Int)/\SV.c (SC.row 0)=SV.c (SC.row 0)/\True;(∃x,x<=l.length/\(cI 0=cI (x:Int)/\SV.c (SC.row 0)=SV.c (SC.row 0)/\True)/\[g0 (aj.row 3 I6 [])]=[g0 (aj.row 3 I6 (List.filter (λx=>decide (x≠n)) (List.take x l)))])/\∀(x:Nat),x<=l.length->br (decide ((x:Int) < (l.length:Int))) ((z2 x)/\∀(d:Int),l[(x:Int).toNat]?=some d->br (!decide (d=n)) ((z2 x)/\∀(d:Int),l[(x:Int).toNat]?=some d->jY (List.length (List.filter (λx=>decide (x≠n)) (List.take x l))+List.length ([d])) 8/\iR ((x:Int)+(1:Int))/\∃x',x'<=l.length/\(z1 x x')/\[g0 (aj.row 3 I6 (List.filter (λx=>decide (x≠n)) (List.take x l)++[d]))]=[g0 (aj.row 3 I6 (List.filter (λx=>decide (x≠n)) (List.take x' l)))]/\l.length - x' < l.length - x) (iR ((x:Int)+(1:Int))/\∃x',x'<=l.length/\(z1 x x')/\[g0 (aj.row 3 I6 (List.filter (λx=>decide (x≠n)) (List.take x l)))]=[g0 (aj.row 3 I6 (List.filter (λx=>decide (x≠n)) (List.take x' l)))]/\l.length - x' < l.length - x)) ([aj.row 3 I6 (List.filter (λx=>decide (x≠(l,n,()).snd.fst)) l)]=[aj.row 3 I6 (List.filter (λx=>decide (x≠n)) (List.take x l))]/\aW.one (SV.c (SC.row 0))=aW.one (SV.c (SC.row 0))):=by
 conv=>zeta
 delta cI g0 I6 iR;have hp:l.length<=100000:=aA;have fl:∀(q:Int->Bool) (k:Nat),((l.take k).filter q).length<=100000:=λq k=>oh (X6 _ _) (by rw[kH];omega)
 have stp:∀(q:Int->Bool) (k:Nat) (d:Int),l[k]?=some d->(l.take (k+1)).filter q=(l.take k).filter q++(if q d=true then[d] else[]):=λq k d hd=>by
  rw[Hf,hd,Qh,Wh]
  congr 1
  simp only[aer,aeu]
 refine⟨⟨0,by omega,⟨rfl,rfl,trivial⟩,rfl⟩,λk hk=>aJ.2 ⟨λh=>?_,λh=>?_⟩⟩
 .refine⟨by omega,λd hd=>ah.2 ⟨λh2=>⟨by omega,λd2 hd2=>⟨?_,au.2 (by omega),k+1,by omega,⟨rfl,rfl,trivial⟩,?_,by omega⟩⟩,λh2=>⟨au.2 (by omega),k+1,by omega,⟨rfl,rfl,trivial⟩,?_,by omega⟩⟩⟩
  .have:=fl (λx=>decide (x≠n)) k
   rw[bJ];simp only[sZ,AY];omega
  .have hd:l[k]?=some d:=hd;have hd2:l[k]?=some d2:=hd2;rw[hd]at hd2;cases hd2;rw[stp _ k d hd,if_pos (by simpa using h2)]
  .have hd:l[k]?=some d:=hd;rw[stp _ k d hd,if_neg (by simpa using h2),JE]
 .rw[qV (by omega)];exact⟨rfl,rfl⟩
theorem acK:aN aK.gd 126 SG:=
 bV (cx:=aK) (n:=27) (cl:=[]) (rc:=[.row 3 (.int .i64)]) ay trivial Tryz.func126 λd hd=>by
  obtain⟨l,n,⟨⟩⟩:=d;exact aI (ano l n) (ahy l n hd) (by kernel_rfl)
abbrev LH:CT:={ ps:=[.int .i64],pre:=λd=>True,res:=λd=>([],vB (bY d.1)) }
theorem anp(n:Int):
 qB (bY n) (decide ((-2147483648)<=n) && decide (n<=2147483647)):=by
 delta qB;refine⟨rfl,?_⟩;rw[show bY n=(decide (-2147483648<=n) && decide (n<=2147483647)) by unfold bY;rw[Et];simp]
theorem LJ:aN aK.gd 81 LH:=
 jG (cx:=aK) (n:=9) (cl:=[]) ay trivial Tryz.func81 λd hd=>by
  obtain⟨n,⟨⟩⟩:=d;exact aI (λ_=>none) (anp n) (by kernel_rfl)
abbrev BU:CT:={ ps:=[oQ,bD],pre:=λd=>0<=d.2.1.2.1/\d.2.1.2.1 < d.1.2.2.2.1.length,res:=λd=>([],.one (.c (.sl jT (codeF d.1.2.2.2.1 d.2.1.2.1)))) }
theorem ahz(vs:List VD) (ms cs:List ByteArray) (fs:List FD) (ts:List SD) (id fn pc:Int) (rg:List Int) (st ch ph su fa:Int) (he:List Int) (aA:BU.pre ((vs,ms,cs,fs,ts,()),(id,fn,pc,rg,st,ch,ph,su,fa,he,()),())):
 (0<=fn/\fn < (fs.length:Int))/\∀(d:ByteArray×(jT.sl.pair Sh.unit).den),fs[fn.toNat]?=some d->rE (aW.one (SV.c (SC.sl jT (codeF fs fn)))) (aW.one (SV.c (SC.sl jT d.snd.fst))):=by
 delta rE I6;have hp:0<=fn/\fn < (fs.length:Int):=aA;refine⟨hp,λd hd=>⟨rfl,?_⟩⟩
 obtain⟨y,hy,ey⟩:=pq hp;rw[hd]at hy;cases hy;rw[ey]
theorem Ar:aN aK.gd 123 BU:=
 bV (cx:=aK) (n:=12) (cl:=[]) (rc:=[]) ay trivial Tryz.func123 λd hd=>by
  obtain⟨⟨vs,ms,cs,fs,ts,⟨⟩⟩,⟨id,fn,pc,rg,st,ch,ph,su,fa,he,⟨⟩⟩,⟨⟩⟩:=d;exact aI (λ_=>none) (ahz vs ms cs fs ts id fn pc rg st ch ph su fa he hd) (by kernel_rfl)
abbrev Vl:CT:={ ps:=[bD,jT],pre:=λd=>d.1.2.2.2.2.2.2.2.2.2.1.length<=1000000/\d.1.1<=9223372036854775807,res:=λd=>([],.one (.c (.v (.int .i64 (iW d.1.1 d.1.2.2.2.2.2.1 d.1.2.2.2.2.2.2.1 d.1.2.2.2.2.2.2.2.2.2.1 d.2.1))))) }
theorem ahA(id fn pc:Int) (rg:List Int) (st ch ph su fa:Int) (he:List Int) (op a b c obj n fo ord:Int) (aA:Vl.pre ((id,fn,pc,rg,st,ch,ph,su,fa,he,()),(op,a,b,c,obj,n,fo,ord,()),())):
 let z2:=iW id ch ph he (op,a,b,c,obj,n,fo,ord,());let z1:=qI z2 (0:Int);br (!decide (ph=0)) z1 ((decide (op=16)=true->he.length<=1000000)/\((decide (op=18) && !(decide (op=16) && !dM he obj))=true->he.length<=1000000)/\br (decide (op=16) && !dM he obj || decide (op=18) && !dM he n) (qI z2 (27:Int)) (br (decide (op=21)) (id<=9223372036854775807/\br (!(dB id ch).snd) (qI z2 (28:Int)) z1) z1)):=by
 conv=>zeta
 delta qI;obtain⟨h1,h2⟩:he.length<=1000000/\id<=9223372036854775807:=aA;unfold iW;refine ah.2 ⟨λh=>⟨rfl,?_⟩,λh=>⟨λ_=>h1,λ_=>h1,ah.2 ⟨λq=>⟨rfl,?_⟩,λq=>aJ.2 ⟨λq2=>⟨h2,ah.2 ⟨λq3=>⟨rfl,?_⟩,λq3=>⟨rfl,?_⟩⟩⟩,λq2=>⟨rfl,?_⟩⟩⟩⟩⟩
 .have h:ph≠0:=by simpa using h
  rw[if_pos h]
 all_goals
  have h:¬ph≠0:=by simpa using h
  rw[if_neg h]
 .by_cases e:op=18
  .subst e;simp at q;simp[q]
  .by_cases e2:op=16
   .subst e2;simp at q;simp[q]
   .simp[e,e2]at q
 .subst q2;simp at q3;simp[q3]
 .subst q2;simp at q3;simp[q3]
 .by_cases e:op=18
  .subst e;simp at q;simp[q]
  .by_cases e2:op=16
   .subst e2;simp at q;simp[q]
   .simp[e,e2,q2]
theorem Pj:aN aK.gd 153 Vl:=
 bV (cx:=aK) (n:=44) (cl:=[(191,vZ),(160,Vk)]) (rc:=[]) ay ⟨Ph,Pg,trivial⟩ Tryz.func153 λd hd=>by
  obtain⟨⟨id,fn,pc,rg,st,ch,ph,su,fa,he,⟨⟩⟩,⟨op,a,b,c,obj,n,fo,ord,⟨⟩⟩,⟨⟩⟩:=d;exact aI (λ_=>none) (ahA id fn pc rg st ch ph su fa he op a b c obj n fo ord hd) (by kernel_rfl)
abbrev ajY:CT:={ ps:=[bD,.int .i64],pre:=λd=>True,res:=λd=>([],.one (.dat bD (Aj d.1 3 d.2.1))) }
theorem ahB(id fn pc:Int) (rg:List Int) (st ch ph su fa:Int) (he:List Int) (er:Int):
 rE (aW.one (SV.dat bD (Aj (id,fn,pc,rg,st,ch,ph,su,fa,he,()) (3:Int) er))) (aW.one (SV.dat bD ((id,fn,pc,rg,st,ch,ph,(3:Int),er,he,())))):=by
 delta rE I6;exact⟨rfl,rfl⟩
theorem acL:aN aK.gd 154 ajY:=
 bV (cx:=aK) (n:=9) (cl:=[]) (rc:=[.data bD]) ay trivial Tryz.func154 λd hd=>by
  obtain⟨⟨id,fn,pc,rg,st,ch,ph,su,fa,he,⟨⟩⟩,er,⟨⟩⟩:=d;exact aI (λ_=>none) (ahB id fn pc rg st ch ph su fa he er) (by kernel_rfl)
abbrev SH:CT:={ ps:=[bD,jT],pre:=λd=>(0<=d.2.1.2.1/\d.2.1.2.1 < 8)/\(0<=d.2.1.2.2.1/\d.2.1.2.2.1 < 8)/\(0<=d.2.1.2.2.2.1/\d.2.1.2.2.2.1 < 8)/\(0<=d.1.2.2.1/\d.1.2.2.1<=1000000)/\(d.2.1.1=3->(dQ d.2.1.2.2.2.2.2.2.1 (d.1.2.2.2.1.getD d.2.1.2.2.1.toNat 0) (d.1.2.2.2.1.getD d.2.1.2.2.2.1.toNat 0)).2=0)/\¬(d.2.1.1=6/\d.1.2.2.2.1.getD d.2.1.2.2.1.toNat 0=0)/\d.2.1.1≠7,res:=λd=>([],.one (.dat bD (dW d.1 d.2.1).1)) }
theorem ahC(id fn pc:Int) (rg:List Int) (st ch ph su fa:Int) (he:List Int) (op a b c obj n fo ord:Int) (aA:SH.pre ((id,fn,pc,rg,st,ch,ph,su,fa,he,()),(op,a,b,c,obj,n,fo,ord,()),())):
 let z3:=aW.one (SV.dat bD (dW (id,fn,pc,rg,st,ch,ph,su,fa,he,()) (op,a,b,c,obj,n,fo,ord,())).fst);let z2:=rE z3 (aW.one (SV.dat bD ((id,fn,n,rg,st,ch,ph,su,fa,he,()))));let z1:=rE z3 (aW.one (SV.dat bD ((id,fn,pc+1,rg,st,ch,ph,su,fa,he,()))));iR (pc+1)/\br (decide (op=1)) ((0<=a/\a < 8)/\a.toNat < 8/\rE z3 (aW.one (SV.dat bD ((id,fn,pc+1,rg.set a.toNat n,st,ch,ph,su,fa,he,()))))) (br (decide (op=2)) ((0<=b/\b < 8)/\b.toNat < 8/\∀(d:Int),rg[b.toNat]?=some d->(0<=a/\a < 8)/\a.toNat < 8/\rE z3 (aW.one (SV.dat bD ((id,fn,pc+1,rg.set a.toNat d,st,ch,ph,su,fa,he,()))))) (br (decide (op=3)) ((0<=b/\b < 8)/\b.toNat < 8/\∀(d:Int),rg[b.toNat]?=some d->(0<=c/\c < 8)/\c.toNat < 8/\∀(dH:Int),rg[c.toNat]?=some dH->True/\(0<=a/\a < 8)/\a.toNat < 8/\rE z3 (aW.one (SV.dat bD ((id,fn,pc+1,rg.set a.toNat (dQ fo d dH).fst,st,ch,ph,su,fa,he,()))))) (br (decide (op=4)) z2 (br (decide (op=5)) ((0<=b/\b < 8)/\b.toNat < 8/\∀(d:Int),rg[b.toNat]?=some d->br (!decide (d=0)) z2 z1) z1)))):=by
 conv=>zeta
 delta rE I6 iR;obtain⟨hA,hB,hC,⟨hp0,hp1⟩,h33,h66,h77⟩:(0<=a/\a < 8)/\(0<=b/\b < 8)/\(0<=c/\c < 8)/\(0<=pc/\pc<=1000000)/\(op=3->(dQ fo (rg.getD b.toNat 0) (rg.getD c.toNat 0)).2=0)/\¬(op=6/\rg.getD b.toNat 0=0)/\op≠7:=aA;have hA8:a.toNat < 8:=by omega
 have hB8:b.toNat < 8:=by omega
 have hC8:c.toNat < 8:=by omega
 have gd:∀{x d:Int},rg[x.toNat]?=some d->rg.getD x.toNat 0=d:=λhd=>by rw[Il,hd];rfl
 refine⟨au.2 (by omega),aJ.2 ⟨λh=>?_,λh=>aJ.2 ⟨λh2=>?_,λh2=>aJ.2 ⟨λh3=>?_,λh3=>aJ.2 ⟨λh4=>?_,λh4=>aJ.2 ⟨λh5=>?_,λh5=>?_⟩⟩⟩⟩⟩⟩
 .have e:dW (id,fn,pc,rg,st,ch,ph,su,fa,he,()) (op,a,b,c,obj,n,fo,ord,())=((id,fn,pc+1,rg.set a.toNat n,st,ch,ph,su,fa,he,()),true):=by simp only[dW,if_pos h]
  rw[e];exact⟨hA,hA8,rfl,rfl⟩
 .refine⟨hB,hB8,λd hd=>?_⟩
  have e:dW (id,fn,pc,rg,st,ch,ph,su,fa,he,()) (op,a,b,c,obj,n,fo,ord,())=((id,fn,pc+1,rg.set a.toNat d,st,ch,ph,su,fa,he,()),true):=by simp only[dW,if_neg h,if_pos h2,gd hd]
  rw[e];exact⟨hA,hA8,rfl,rfl⟩
 .refine⟨hB,hB8,λd hd=>⟨hC,hC8,λd1 hd1=>⟨trivial,hA,hA8,rfl,?_⟩⟩⟩
  have h8:=h33 h3;rw[gd hd,gd hd1]at h8;have e:dW (id,fn,pc,rg,st,ch,ph,su,fa,he,()) (op,a,b,c,obj,n,fo,ord,())=((id,fn,pc+1,rg.set a.toNat (dQ fo d d1).1,st,ch,ph,su,fa,he,()),true):=by simp only[dW,if_neg h,if_neg h2,if_pos h3,gd hd,gd hd1,if_pos h8]
  rw[e]
 .have e:dW (id,fn,pc,rg,st,ch,ph,su,fa,he,()) (op,a,b,c,obj,n,fo,ord,())=((id,fn,n,rg,st,ch,ph,su,fa,he,()),true):=by simp only[dW,if_neg h,if_neg h2,if_neg h3,if_pos h4]
  rw[e];exact⟨rfl,rfl⟩
 .refine⟨hB,hB8,λd hd=>ah.2 ⟨λh8=>?_,λh8=>?_⟩⟩
  .have h8:¬d=0:=by simpa using h8
   have e:dW (id,fn,pc,rg,st,ch,ph,su,fa,he,()) (op,a,b,c,obj,n,fo,ord,())=((id,fn,n,rg,st,ch,ph,su,fa,he,()),true):=by simp only[dW,if_neg h,if_neg h2,if_neg h3,if_neg h4,if_pos h5,gd hd,if_neg h8]
   rw[e];exact⟨rfl,rfl⟩
  .have h8:d=0:=by simpa using h8
   have e:dW (id,fn,pc,rg,st,ch,ph,su,fa,he,()) (op,a,b,c,obj,n,fo,ord,())=((id,fn,pc+1,rg,st,ch,ph,su,fa,he,()),true):=by simp only[dW,if_neg h,if_neg h2,if_neg h3,if_neg h4,if_pos h5,gd hd,if_pos h8]
   rw[e];exact⟨rfl,rfl⟩
 .have e:dW (id,fn,pc,rg,st,ch,ph,su,fa,he,()) (op,a,b,c,obj,n,fo,ord,())=((id,fn,pc+1,rg,st,ch,ph,su,fa,he,()),true):=by simp only[dW,if_neg h,if_neg h2,if_neg h3,if_neg h4,if_neg h5,if_neg h77];rw[if_neg h66]
  rw[e];exact⟨rfl,rfl⟩
theorem acM:aN aK.gd 155 SH:=
 bV (cx:=aK) (n:=72) (cl:=[(159,SA)]) (rc:=[.data bD]) ay ⟨O8,trivial⟩ Tryz.func155 λd hd=>by
  obtain⟨⟨id,fn,pc,rg,st,ch,ph,su,fa,he,⟨⟩⟩,⟨op,a,b,c,obj,n,fo,ord,⟨⟩⟩,⟨⟩⟩:=d;exact aI (λ_=>none) (ahC id fn pc rg st ch ph su fa he op a b c obj n fo ord hd) (by kernel_rfl)
abbrev GL:CT:={ ps:=[oQ,.int .i64],pre:=λd=>bnd (d.1,()),res:=λd=>([],.one (.c (.v (.int .i64 (bQ (aB d.1.1 d.1.2.1 d.1.2.2.1 d.1.2.2.2.1 d.1.2.2.2.2.1).1 d.2.1))))) }
theorem anq(vs:List VD) (ms cs:List ByteArray) (fs:List FD) (ts:List SD) (bound:Int) (aA:GL.pre ((vs,ms,cs,fs,ts,()),bound,())):
 let z2:=aB vs ms cs fs ts;let z1:=bQ z2.fst bound;(vs.length<=1000000/\ms.length<=1000000/\cs.length<=1000000/\fs.length<=1000000/\ts.length<=1000000/\(∀(x:ByteArray×(jT.sl.pair Sh.unit).den),x∈fs->List.length x.snd.fst<=1000000)/\(dR fs).length<=1000000)/\br (!decide (z2.fst=0)) (qI z1 (z2.fst)) (br (decide (bound < 1) || decide (32 < bound)) (qI z1 (2:Int)) (qI z1 (0:Int))):=by
 conv=>zeta
 delta qI I6;have hb:bnd ((vs,ms,cs,fs,ts,()),()):=aA;refine⟨hb,ah.2 ⟨λh=>?_,λh=>ah.2 ⟨λh2=>?_,λh2=>?_⟩⟩⟩
 .have h:(aB vs ms cs fs ts).1≠0:=by simpa using h
  unfold bQ;rw[if_pos h];exact⟨rfl,rfl⟩
 .have h:¬(aB vs ms cs fs ts).1≠0:=by simpa using h
  have h2:bound < 1\/32 < bound:=by simpa using h2
  unfold bQ;rw[if_neg h,if_pos h2];exact⟨rfl,rfl⟩
 .have h:¬(aB vs ms cs fs ts).1≠0:=by simpa using h
  have h2:¬(bound < 1\/32 < bound):=by simp only[lM,A8]at h2;omega
  unfold bQ;rw[if_neg h,if_neg h2];exact⟨rfl,rfl⟩
theorem LK:aN aK.gd 79 GL:=
 jG (cx:=aK) (n:=23) (cl:=[(66,Gn)]) ay ⟨Lc,trivial⟩ Tryz.func79 λd hd=>by
  obtain⟨⟨vs,ms,cs,fs,ts,⟨⟩⟩,bound,⟨⟩⟩:=d;exact aI (λ_=>none) (anq vs ms cs fs ts bound hd) (by kernel_rfl)
abbrev SI:CT:={ ps:=[oQ,.int .i64,bD],pre:=λd=>True/\d.2.2.1.2.2.2.2.2.2.2.2.2.1.length<=1000000/\d.2.2.1.1<=9223372036854775807/\d.2.2.1.2.2.2.1.length=8,res:=λd=>([],vB (jd d.1.2.1 d.1.2.2.2.1 d.2.1 d.2.2.1)) }
abbrev anr(vs:List VD) (ms cs:List ByteArray) (fs:List FD) (ts:List SD) (bound id fn pc:Int) (rg:List Int) (st ch ph su fa:Int) (he:List Int):Nat->Option (St->iE):=λk=>match k with
 | 4=>some λ_=>.inv { α:=Nat,slots:=λk=>[(7,.c (.v (.int .i64 k)))],res:=λ_=>[],inv:=λk=>k<=8/\∀j < k,∀r,rg[j]?=some r->bY r=true,meas:=λk=>8 - k }
 | 11=>some λ_=>.inv { α:=Nat,slots:=λk=>[(8,.c (.v (.int .i64 k)))],res:=λ_=>[],inv:=λk=>k<=he.length/\(∀j < k,∀m,he[j]?=some m->0<=m/\m < ms.length)/\∀j,j+1 < k->∀x y,he[j]?=some x->he[j+1]?=some y->x < y,meas:=λk=>he.length - k }
 | _=>none
theorem ahD(vs:List VD) (ms cs:List ByteArray) (fs:List FD) (ts:List SD) (bound id fn pc:Int) (rg:List Int) (st ch ph su fa:Int) (he:List Int) (aA:SI.pre ((vs,ms,cs,fs,ts,()),bound,(id,fn,pc,rg,st,ch,ph,su,fa,he,()),())):
 let z8:=(id,fn,pc,rg,st,ch,ph,su,fa,he,());let z4:=jd ms fs bound z8;let z3:=qB z4 false;let z1:=[g0 (aj.blk 27 [SC.sl Gj vs,SC.sl Sh.str ms,SC.sl Sh.str cs,SC.sl CY fs,SC.sl mO ts]),g0 (aj.obj 56 bD z8)];let z10:=λ(x:Nat)=>(x:Int)+(1:Int);let z2:=λ(x:Nat) (d dH:Int)=>decide (0 < (x:Int)) && !(decide (d < 0) || decide ((ms.length:Int)<=dH));let z9:=0<=fn/\fn < (fs.length:Int);let z7:=0<=pc/\pc < (↑(codeF fs fn).length:Int);let z6:=λ(d:ID)=>decide (d.fst=18)=true->he.length<=1000000;let z5:=λ(d:ID)=>decide (d.fst=18) && !dM he d.snd.snd.snd.snd.snd.fst;id<=9223372036854775807/\((!(!decide (0<=aU id) || decide (fn < 0) || decide ((fs.length:Int)<=fn) || decide (pc < 0)))=true->0<=fn/\fn < (fs.length:Int))/\br (!decide (0<=aU id) || decide (fn < 0) || decide ((fs.length:Int)<=fn) || decide (pc < 0) || decide ((↑(codeF fs fn).length:Int) < pc)) z3 ((∃x,(x<=8/\∀(j:Nat),j < x->∀(r:Int),rg[j]?=some r->bY r=true)/\(cI 0=cI (x:Int)/\True)/\sm z1)/\∀(x:Nat),(x<=8/\∀(j:Nat),j < x->∀(r:Int),rg[j]?=some r->bY r=true)->br (decide ((x:Int) < (8:Int))) ((0<=(x:Int)/\(x:Int) < (8:Int))/\(x:Int).toNat < 8/\∀(d:Int),rg[(x:Int).toNat]?=some d->True/\br (!bY d) z3 (iR (z10 x)/\∃x',(x'<=8/\∀(j:Nat),j < x'->∀(r:Int),rg[j]?=some r->bY r=true)/\(cI (z10 x)=cI (x':Int)/\True)/\sm z1/\8 - x' < 8 - x)) (((decide (0 < ch) && !(decide (st < 0) || decide (bound < st) || decide (ch < 0) || decide (7 < ch)))=true->id<=9223372036854775807)/\br (decide (st < 0) || decide (bound < st) || decide (ch < 0) || decide (7 < ch) || decide (0 < ch) && decide (iL id=4)) z3 ((∃x,(x<=he.length/\(∀(j:Nat),j < x->∀(m:Int),he[j]?=some m->0<=m/\m < (ms.length:Int))/\∀(j:Nat),j+1 < x->∀(x y:Int),he[j]?=some x->he[j+1]?=some y->x < y)/\(cI 0=cI (x:Int)/\True)/\sm z1)/\∀(x:Nat),(x<=he.length/\(∀(j:Nat),j < x->∀(m:Int),he[j]?=some m->0<=m/\m < (ms.length:Int))/\∀(j:Nat),j+1 < x->∀(x y:Int),he[j]?=some x->he[j+1]?=some y->x < y)->br (decide ((x:Int) < (he.length:Int))) ((0<=(x:Int)/\(x:Int) < (he.length:Int))/\∀(d:Int),he[(x:Int).toNat]?=some d->((!decide (d < 0))=true->0<=(x:Int)/\(x:Int) < (he.length:Int))/\∀(dH:Int),((!decide (d < 0))=true->he[(x:Int).toNat]?=some dH)->((z2 x d dH)=true->iR ((x:Int) - (1:Int)))/\((z2 x d dH)=true->0<=(x:Int) - (1:Int)/\(x:Int) - 1 < (he.length:Int))/\∀(dN:Int),((z2 x d dH)=true->he[((x:Int) - (1:Int)).toNat]?=some dN)->((z2 x d dH)=true->0<=(x:Int)/\(x:Int) < (he.length:Int))/\∀(d_3:Int),((z2 x d dH)=true->he[(x:Int).toNat]?=some d_3)->br (decide (d < 0) || decide ((ms.length:Int)<=dH) || decide (0 < (x:Int)) && decide (d_3<=dN)) z3 (iR (z10 x)/\∃x',(x'<=he.length/\(∀(j:Nat),j < x'->∀(m:Int),he[j]?=some m->0<=m/\m < (ms.length:Int))/\∀(j:Nat),j+1 < x'->∀(x y:Int),he[j]?=some x->he[j+1]?=some y->x < y)/\(cI (z10 x)=cI (x':Int)/\True)/\sm z1/\he.length - x' < he.length - x)) (br (decide (ph=0)) (qB z4 true) (((!(!decide (ph=1) && !decide (ph=2)))=true->0<=fn/\fn < (fs.length:Int))/\br (!decide (ph=1) && !decide (ph=2) || decide (pc=(↑(codeF fs fn).length:Int))) z3 ((z9/\z7/\∀(d:ID),(codeF fs fn)[pc.toNat]?=some d->(z6 d)/\qB z4 (z5 d))/\z9/\z7/\∀(d:ID),(codeF fs fn)[pc.toNat]?=some d->(z6 d)/\qB z4 (z5 d))))))):=by
 conv=>zeta
 delta cI g0 qB sm I6 iR;obtain⟨_,yN,hid,hrg⟩:True/\he.length<=1000000/\id<=9223372036854775807/\rg.length=8:=aA;have both:∀{A:Prop},A->A/\A:=λq=>⟨q,q⟩
 have fF:¬bH ms fs bound (id,fn,pc,rg,st,ch,ph,su,fa,he,())->([]:List Go.jw.aj)=[]/\aW.one (SV.c (SC.v (Value.bool (jd ms fs bound (id,fn,pc,rg,st,ch,ph,su,fa,he,())))))=aW.one (SV.c (SC.v (Value.bool false))):=λq=>⟨rfl,by rw[xJ q]⟩
 refine⟨hid,λg=>by
  simp only[Ep,lM,A8,uP,dG]at g;show(0:Int)<=fn/\fn < (fs.length:Int);omega,ah.2 ⟨λh=>?_,λh=>?_⟩⟩
 .refine fF λq=>?_
  obtain⟨q1,q2,q3,_⟩:=q;simp only[wX,Ep,dG,A8]at h;omega
 simp only[lM,uP,dG,A8]at h;obtain⟨⟨⟨⟨h1,h2⟩,h3⟩,h4⟩,h5⟩:=h;have hfn:0<=fn/\fn < (fs.length:Int):=by omega
 have hpc:0<=pc/\pc<=((codeF fs fn).length:Int):=by omega
 refine⟨⟨0,⟨by omega,λj hj=>by omega⟩,⟨rfl,trivial⟩,rfl⟩,λk hk=>ah.2 ⟨λh=>?_,λh=>?_⟩⟩
 .simp only[dG]at h;refine⟨by omega,by omega,λd hd=>⟨trivial,ah.2 ⟨λh6=>?_,λh6=>⟨au.2 (by omega),k+1,⟨by omega,λj hj r hr=>?_⟩,⟨rfl,trivial⟩,rfl,by omega⟩⟩⟩⟩
  .refine fF λq=>?_
   have:=q.2.2.2.1 k (by omega) d hd
   rw[this]at h6;cases h6
  .by_cases gu:j=k
   .subst gu;have hd:rg[j]?=some d:=hd;rw[hd]at hr;cases hr;simpa using h6
   .exact hk.2 j (by omega) r hr
 simp only[A8]at h;have hr:∀k < 8,∀r,rg[k]?=some r->bY r=true:=λj hj r hr=>hk.2 j (by omega) r hr
 have hdm:iL id=aU id:=by unfold iL;rw[if_neg (by omega)]
 rw[hdm];refine⟨λ_=>hid,ah.2 ⟨λh7=>?_,λh7=>?_⟩⟩
 .refine fF λq=>?_
  obtain⟨_,_,_,_,q5,q6,q7,_⟩:=q;simp at h7;omega
 simp only[lM,Yd,A8]at h7;obtain⟨⟨⟨⟨a1,a2⟩,a3⟩,a4⟩,a5⟩:=h7;refine⟨⟨0,⟨by omega,λj hj=>by omega,λj hj=>by omega⟩,⟨rfl,trivial⟩,rfl⟩,λm hm=>ah.2 ⟨λh8=>?_,λh8=>?_⟩⟩
 .simp only[dG]at h8;refine⟨by omega,λd hd=>⟨λ_=>by omega,λd1 hd1=>⟨λ_=>au.2 (by omega),λg=>by simp at g;omega,λd2 hd2=>⟨λ_=>by omega,λd3 hd3=>ah.2 ⟨λh9=>?_,λh9=>⟨au.2 (by omega),m+1,⟨by omega,λj hj r hr=>?_,λj hj x y hx hy=>?_⟩,⟨rfl,trivial⟩,rfl,by omega⟩⟩⟩⟩⟩⟩
  .refine fF λq=>?_
   have hd:he[m]?=some d:=hd;have hq:=q.2.2.2.2.2.2.2.1 d (gQ hd);have hd1:=hd1 (by simp;omega)
   have hd1:he[m]?=some d1:=hd1;rw[hd]at hd1;cases hd1
   by_cases m0:m=0
   .subst m0;simp at h9;omega
   have g:(decide (0 < (m:Int)) && !(decide (d < 0) || decide ((ms.length:Int)<=d)))=true:=by simp;omega
   have hd2:=hd2 g;have hd3:=hd3 g;rw[show((m:Int) - 1).toNat=m - 1 by omega]at hd2
   have hd2:he[m - 1]?=some d2:=hd2;have hd3:he[m - 1+1]?=some d3:=by rw[show m - 1+1=m by omega];exact hd3
   have:=Lm q.2.2.2.2.2.2.1 hd2 hd3;simp at h9;omega
  all_goals
   have hd:he[m]?=some d:=hd;have q0:0<=d:=by simp at h9;omega
   have hd1:=hd1 (by simp;omega)
   have hd1:he[m]?=some d1:=hd1;rw[hd]at hd1;cases hd1
  .by_cases gu:j=m
   .subst gu;rw[hd]at hr;cases hr;simp at h9;omega
   .exact hm.2.1 j (by omega) r hr
  .by_cases gu:j+1=m
   .have g:(decide (0 < (m:Int)) && !(decide (d < 0) || decide ((ms.length:Int)<=d)))=true:=by simp at h9 ⊢;omega
    have hd2:=hd2 g;have hd3:=hd3 g;rw[show((m:Int) - 1).toNat=j by omega]at hd2
    have hd2:he[j]?=some d2:=hd2;have hd3:he[m]?=some d3:=hd3;rw[gu,hd]at hy;cases hy;rw[hd]at hd3;cases hd3;rw[hd2]at hx;cases hx;simp at h9;omega
   .exact hm.2.2 j (by omega) x y hx hy
 simp only[A8]at h8;have hmm:∀m∈he,0<=m/\m < (ms.length:Int):=λy hy=>by
  obtain⟨j,hj⟩:=yT hy;exact hm.2.1 j (by have:=(eX.1 hj).1;omega) y hj
 have hss:SS he:=Gy λj x y hx hy=>hm.2.2 j (by have:=(eX.1 hy).1;omega) x y hx hy
 have base:(ph=0\/((ph=1\/ph=2)/\∃i,lS fs fn pc=some i/\i.1=18/\dM he i.2.2.2.2.2.1=false))↔bH ms fs bound (id,fn,pc,rg,st,ch,ph,su,fa,he,()):=
  ⟨λq=>⟨by omega,hfn,hpc,hr,by omega,⟨by omega,by omega,λe=>by omega⟩,hss,hmm,q⟩,λq=>q.2.2.2.2.2.2.2.2⟩
 have fB:∀b:Bool,(b=true↔(ph=0\/((ph=1\/ph=2)/\∃i,lS fs fn pc=some i/\i.1=18/\dM he i.2.2.2.2.2.1=false)))->aW.one (SV.c (SC.v (Value.bool (jd ms fs bound (id,fn,pc,rg,st,ch,ph,su,fa,he,())))))=aW.one (SV.c (SC.v (Value.bool b))):=λb hb=>by
  have:jd ms fs bound (id,fn,pc,rg,st,ch,ph,su,fa,he,())=b:=by
   rw[Et,hb,base,kF]
  rw[this]
 refine aJ.2 ⟨λh9=>⟨rfl,fB _ (by simp[h9])⟩,λh9=>⟨λ_=>hfn,ah.2 ⟨λg=>⟨rfl,fB _ ?_⟩,λg=>both ⟨hfn,?_,λd hd=>⟨λ_=>yN,rfl,fB _ ?_⟩⟩⟩⟩⟩
 .by_cases g2:pc=((codeF fs fn).length:Int)
  .have ha:lS fs fn pc=none:=uD (by omega)
   simp[h9,ha]
  .simp[g2]at g;simp[h9,g]
 .simp at g;omega
 .have ha:lS fs fn pc=some d:=hd;simp at g;have:ph=1\/ph=2:=by omega
  simp[h9,ha,this]
theorem acN:aN aK.gd 175 SI:=
 bV (cx:=aK) (n:=161) (cl:=[(80,Jk),(123,BU),(81,LH),(196,Vj),(191,vZ)]) (rc:=[]) ay ⟨D9,Ar,LJ,Pe,Ph,trivial⟩ Tryz.func175 λd hd=>by
  obtain⟨⟨vs,ms,cs,fs,ts,⟨⟩⟩,bound,⟨id,fn,pc,rg,st,ch,ph,su,fa,he,⟨⟩⟩,⟨⟩⟩:=d;exact aI (anr vs ms cs fs ts bound id fn pc rg st ch ph su fa he) (ahD vs ms cs fs ts bound id fn pc rg st ch ph su fa he hd) (by kernel_rfl)
theorem acO{id fn pc st ch ph su fa:Int}{rg he:List Int}{u:Unit}{i:ID} (h:i.1=7):dW (id,fn,pc,rg,st,ch,ph,su,fa,he,u) i=((id,fn,pc,rg,st,ch,ph,2,0,he,()),false):=by
 obtain⟨op,a,b,c,obj,n,f,ord,u2⟩:=i;have h:op=7:=h;subst h;simp[dW]
theorem SK{id fn pc st ch ph su fa:Int}{rg he:List Int}{u:Unit}{i:ID} (h:i.1=6) (h0:rg.getD i.2.2.1.toNat 0=0):dW (id,fn,pc,rg,st,ch,ph,su,fa,he,u) i=((id,fn,pc,rg,st,ch,ph,3,26,he,()),false):=by
 obtain⟨op,a,b,c,obj,n,f,ord,u2⟩:=i;have h:op=6:=h;have h0:rg.getD b.toNat 0=0:=h0;subst h;simp only[dW];rw[if_neg (by decide),if_neg (by decide),if_neg (by decide),if_neg (by decide),if_neg (by decide),if_pos ⟨trivial,h0⟩]
theorem acP{id fn pc st ch ph su fa:Int}{rg he:List Int}{u:Unit}{i:ID} (h7:i.1≠7) (h6:¬(i.1=6/\rg.getD i.2.2.1.toNat 0=0)):(dW (id,fn,pc,rg,st,ch,ph,su,fa,he,u) i).2=true:=by
 obtain⟨op,a,b,c,obj,n,f,ord,u2⟩:=i;have h7:op≠7:=h7;have h6:¬(op=6/\rg.getD b.toNat 0=0):=h6;simp only[dW];rw[if_neg h6,if_neg h7]
 repeat' split
 all_goals rfl
theorem acQ{f a b:Int} (h:1<=f/\f<=10):(dQ f a b).2=0:=by
 unfold dQ
 repeat' split
 all_goals first | rfl | omega
abbrev LM:CT:={ ps:=[oQ,.int .i64,bD],pre:=λd=>(aB d.1.1 d.1.2.1 d.1.2.2.1 d.1.2.2.2.1 d.1.2.2.2.2.1).1=0/\bH d.1.2.1 d.1.2.2.2.1 d.2.1 d.2.2.1/\d.2.2.1.2.2.2.2.2.2.2.2.1=0/\d.2.2.1.2.2.2.2.2.2.2.2.2.1.length<=1000000/\d.2.2.1.1<=9223372036854775807/\d.2.2.1.2.2.2.1.length=8,res:=λd=>([],.one (.dat bD (eG d.1.2.2.2.1 d.2.1 256 d.2.2.1))) }
abbrev aqA(vs:List VD) (ms cs:List ByteArray) (fs:List FD) (ts:List SD) (bound id fn pc:Int) (rg:List Int) (st ch ph su fa:Int) (he:List Int):Nat->Option (St->iE):=λk=>match k with
 | 4=>some λ_=>.inv { α:=Nat×TD,slots:=λx=>[(7,.c (.v (.int .i64 x.1)))],res:=λx=>[(1,.obj 56 bD x.2)],inv:=λx=>x.1<=256/\bH ms fs bound x.2/\x.2.2.2.2.2.2.2.2.2.2.1=he/\x.2.1=id/\x.2.2.2.2.1.length=8/\x.2.2.2.2.2.2.2.2.2.1=0/\eG fs bound (256 - x.1) x.2=eG fs bound 256 (id,fn,pc,rg,st,ch,ph,su,fa,he,()),meas:=λx=>257 - x.1 }
 | _=>none
theorem ant(vs:List VD) (ms cs:List ByteArray) (fs:List FD) (ts:List SD) (bound id fn pc:Int) (rg:List Int) (st ch ph su fa:Int) (he:List Int) (aA:LM.pre ((vs,ms,cs,fs,ts,()),bound,(id,fn,pc,rg,st,ch,ph,su,fa,he,()),())):
 let z10:=(id,fn,pc,rg,st,ch,ph,su,fa,he,());let z3:=λ(x:Nat×TD)=>x.fst<=256/\bH ms fs bound x.snd/\x.snd.snd.snd.snd.snd.snd.snd.snd.snd.snd.fst=he/\x.snd.fst=id/\x.snd.snd.snd.snd.fst.length=8/\x.snd.snd.snd.snd.snd.snd.snd.snd.snd.fst=0/\eG fs bound (256 - x.fst) x.snd=eG fs bound 256 z10;let z7:=[SC.sl Gj vs,SC.sl Sh.str ms,SC.sl Sh.str cs,SC.sl CY fs,SC.sl mO ts];let z4:=λ(x:Nat×TD)=>[g0 (aj.blk 27 z7),g0 (aj.obj 56 bD x.snd),g0 (aj.obj 56 bD ((0:Int),(0:Int),(0:Int),List.replicate 8 (0:Int),(0:Int),(0:Int),(0:Int),(0:Int),(0:Int),[],())),g0 aj.gone];let z9:=λ(x:Nat×TD)=>0<=x.snd.snd.fst/\x.snd.snd.fst < (fs.length:Int);let z11:=λ(x:Nat×TD)=>codeF fs x.snd.snd.fst;let z8:=eG fs bound 256 z10;let z12:=aW.one (SV.dat bD z8);let z5:=λ(x:Nat×TD)=>rE z12 (aW.one (SV.dat bD ((x.2.fst,x.2.2.fst,x.2.2.2.fst,x.2.2.2.2.fst,x.2.2.2.2.2.fst,x.2.2.2.2.2.2.fst,x.2.2.2.2.2.2.2.fst,(2:Int),x.2.2.2.2.2.2.2.2.snd))));let z6:=λ(x:Nat×TD)=>0<=x.snd.snd.snd.fst/\x.snd.snd.snd.fst < (↑(z11 x).length:Int);let z2:=λ(x:Nat×TD) (d:ID)=>(List.length x.snd.snd.snd.snd.snd.snd.snd.snd.snd.snd.fst<=1000000/\x.snd.fst<=9223372036854775807)/\br (!decide (iW x.snd.fst x.snd.snd.snd.snd.snd.snd.fst x.snd.snd.snd.snd.snd.snd.snd.fst x.snd.snd.snd.snd.snd.snd.snd.snd.snd.snd.fst d=0)) (True/\rE z12 (aW.one (SV.dat bD (Aj x.snd (3:Int) (iW x.snd.fst x.snd.snd.snd.snd.snd.snd.fst x.snd.snd.snd.snd.snd.snd.snd.fst x.snd.snd.snd.snd.snd.snd.snd.snd.snd.snd.fst d))))) (br (decide (x.snd.snd.snd.snd.snd.fst=bound)) (rE z12 (aW.one (SV.dat bD ((x.2.fst,x.2.2.fst,x.2.2.2.fst,x.2.2.2.2.fst,x.2.2.2.2.2.fst,x.2.2.2.2.2.2.fst,x.2.2.2.2.2.2.2.fst,(4:Int),x.2.2.2.2.2.2.2.2.snd))))) (rE z12 (aW.one (SV.dat bD (x.snd)))));let z1:=λ(x:Nat×TD) (d:ID)=>br (decide ((x.fst:Int)=(256:Int))) (True/\rE z12 (aW.one (SV.dat bD (Aj x.snd (3:Int) (29:Int))))) (br (decide (d.fst=7)) (z5 x) ((decide (d.fst=6)=true->0<=d.snd.snd.fst/\d.snd.snd.fst < 8)/\(decide (d.fst=6)=true->Int.toNat d.snd.snd.fst < 8)/\∀(dH:Int),(decide (d.fst=6)=true->(x.2.2.2.2.fst,8,0).fst[Int.toNat d.snd.snd.fst]?=some dH)->br (decide (d.fst=6) && decide (dH=(0:Int))) (True/\rE z12 (aW.one (SV.dat bD (Aj x.snd (3:Int) (26:Int))))) (((0<=d.snd.fst/\d.snd.fst < 8)/\(0<=d.snd.snd.fst/\d.snd.snd.fst < 8)/\(0<=d.snd.snd.snd.fst/\d.snd.snd.snd.fst < 8)/\(0<=x.snd.snd.snd.fst/\x.snd.snd.snd.fst<=1000000)/\(d.fst=3->(dQ (d.snd.snd.snd.snd.snd.snd.fst,d.snd.snd.snd.snd.snd.snd.snd.fst,()).fst (List.getD x.snd.snd.snd.snd.fst (Int.toNat d.snd.snd.fst) (0:Int)) (List.getD x.snd.snd.snd.snd.fst (Int.toNat d.snd.snd.snd.fst) (0:Int))).snd=0)/\¬(d.fst=6/\List.getD x.snd.snd.snd.snd.fst (Int.toNat d.snd.snd.fst) (0:Int)=(0:Int))/\d.fst≠7)/\iR ((x.fst:Int)+(1:Int))/\∃(x':Nat×TD),(z3 x')/\(cI ((x.fst:Int)+(1:Int))=cI (x'.fst:Int)/\True)/\[g0 (aj.blk 27 z7),g0 (aj.obj 56 bD ((dW x.snd d).fst)),g0 (aj.obj 56 bD ((0:Int),(0:Int),(0:Int),List.replicate 8 (0:Int),(0:Int),(0:Int),(0:Int),(0:Int),(0:Int),[],())),g0 aj.gone]=(z4 x')/\257 - x'.fst < 257 - x.fst)));jY (0+List.length (he)) 8/\(∃(x:Nat×TD),(z3 x)/\(cI 0=cI (x.fst:Int)/\True)/\[g0 (aj.blk 27 z7),g0 (aj.obj 56 bD (id,fn,pc,rg,st,ch,ph,su,fa,([]++he),())),g0 (aj.obj 56 bD ((0:Int),(0:Int),(0:Int),List.replicate 8 (0:Int),(0:Int),(0:Int),(0:Int),(0:Int),(0:Int),[],())),g0 aj.gone]=(z4 x))/\∀(x:Nat×TD),x.fst<=256/\bH ms fs bound x.snd/\x.snd.snd.snd.snd.snd.snd.snd.snd.snd.snd.fst=he/\x.snd.fst=id/\x.snd.snd.snd.snd.fst.length=8/\x.snd.snd.snd.snd.snd.snd.snd.snd.snd.fst=0/\eG fs bound (256 - x.fst) x.snd=eG fs bound 256 z10->(z9 x)/\br (decide (x.snd.snd.snd.fst=(↑(z11 x).length:Int))) (z5 x) (((z9 x)/\(z6 x)/\∀(d:ID),(z11 x)[Int.toNat x.snd.snd.snd.fst]?=some d->True/\br (jm d.fst) (z2 x d) (z1 x d))/\(z9 x)/\(z6 x)/\∀(d:ID),(z11 x)[Int.toNat x.snd.snd.snd.fst]?=some d->True/\br (jm d.fst) (z2 x d) (z1 x d)):=by
 conv=>zeta
 delta cI g0 rE I6 iR;obtain⟨hc,hF,hf0,yN,hid,hrg⟩:(aB vs ms cs fs ts).1=0/\bH ms fs bound (id,fn,pc,rg,st,ch,ph,su,fa,he,())/\fa=0/\he.length<=1000000/\id<=9223372036854775807/\rg.length=8:=aA;have both:∀{A:Prop},A->A/\A:=λq=>⟨q,q⟩
 refine⟨bJ.2 (by omega),⟨(0,(id,fn,pc,rg,st,ch,ph,su,fa,he,())),⟨by omega,hF,rfl,rfl,hrg,hf0,rfl⟩,⟨rfl,trivial⟩,rfl⟩,λx hx=>?_⟩
 obtain⟨k,id',fn',pc',D6,st',ch',Ji,OL,U0,he',⟨⟩⟩:=x;obtain⟨x1,x2,x3,x4,x5,x7,x6⟩:=hx;have x1:k<=256:=x1;have x3:he'=he:=x3;have x4:id'=id:=x4;have x5:D6.length=8:=x5;have x7:U0=0:=x7;have x6:eG fs bound (256 - k) (id',fn',pc',D6,st',ch',Ji,OL,U0,he',())=eG fs bound 256 (id,fn,pc,rg,st,ch,ph,su,fa,he,()):=x6;have x2:bH ms fs bound (id',fn',pc',D6,st',ch',Ji,OL,U0,he',()):=x2;subst x3;subst x4;subst x7;rw[<-x6];have hfn:=x2.2.1;have hpc:=x2.2.2.1;refine⟨hfn,aJ.2 ⟨λh=>?_,λh=>both ⟨hfn,⟨hpc.1,?_⟩,λi ha=>?_⟩⟩⟩
 .have ha:lS fs fn' pc'=none:=by
   have h:pc'=((codeF fs fn').length:Int):=h;exact uD (by omega)
  rw[OZ ha];exact⟨rfl,rfl⟩
 .have h:¬pc'=((codeF fs fn').length:Int):=h;show pc' < ((codeF fs fn').length:Int);omega
 have ha:lS fs fn' pc'=some i:=ha;have hci:=(nH (xI hc hfn ha)).1;obtain⟨r1,r2,r3,r4⟩:=kP hci;have h64:=uq hc hfn;refine⟨trivial,ah.2 ⟨λhv=>?_,λhv=>?_⟩⟩
 .have hv:jm i.1=true:=hv;rw[U8 ha hv];refine⟨⟨yN,hid⟩,ah.2 ⟨λh1=>?_,λh1=>aJ.2 ⟨λh2=>?_,λh2=>?_⟩⟩⟩
  .have h1:iW id' ch' Ji he' i≠0:=by simpa using h1
   rw[if_pos h1];exact⟨trivial,rfl,rfl⟩
  .have h1:¬iW id' ch' Ji he' i≠0:=by simpa using h1
   have h2:st'=bound:=h2;rw[if_neg h1,if_pos h2];exact⟨rfl,rfl⟩
  .have h1:¬iW id' ch' Ji he' i≠0:=by simpa using h1
   have h2:¬st'=bound:=h2;rw[if_neg h1,if_neg h2];exact⟨rfl,rfl⟩
 .have hv:jm i.1=false:=hv;refine aJ.2 ⟨λh1=>?_,λh1=>?_⟩
  .have h1:k=256:=by
    have:(k:Int)=256:=h1;omega
   rw[h1,show 256 - 256=0 from rfl,O1 ha hv]
   exact⟨trivial,rfl,rfl⟩
  .have h1:¬k=256:=by
    have:¬(k:Int)=256:=h1;omega
   obtain⟨m,hm⟩:∃m,256 - k=m+1:=⟨255 - k,by omega⟩
   rw[hm,O4 ha hv];have hk:=Am (id',fn',pc',D6,st',ch',Ji,OL,0,he',()) i;have hlen:=D8 (id',fn',pc',D6,st',ch',Ji,OL,0,he',()) i;have hfo:=yH hc x2 ha hv;refine aJ.2 ⟨λh7=>?_,λh7=>⟨λ_=>r2,λ_=>by omega,λd1 hd1=>ah.2 ⟨λg=>?_,λg=>?_⟩⟩⟩
   .rw[acO h7];exact⟨rfl,rfl⟩
   .rw[cZ]at g;have h6:i.1=6:=MI g.1;have h0:d1=0:=MI g.2;have hd1:D6[i.2.2.1.toNat]?=some d1:=hd1 (vg h6);have e0:D6.getD i.2.2.1.toNat 0=0:=by rw[Il,hd1];exact h0
    rw[SK h6 e0];exact⟨trivial,rfl,rfl⟩
   .have h6:¬(i.1=6/\D6.getD i.2.2.1.toNat 0=0):=λq=>by
     have hd1:D6[i.2.2.1.toNat]?=some d1:=hd1 (vg q.1);have e0:D6.getD i.2.2.1.toNat 0=d1:=by rw[Il,hd1];rfl
     have:=q.2;rw[e0]at this;rw[Yd]at g;rcases g with g | g
     .exact absurd q.1 (A86 g)
     .exact absurd this (A86 g)
    have hmo:=acP (id:=id') (fn:=fn') (pc:=pc') (st:=st') (ch:=ch') (ph:=Ji) (su:=OL) (fa:=0) (he:=he') (u:=()) h7 h6;refine⟨⟨r1,r2,r3,⟨hpc.1,show pc'<=1000000 by omega⟩,λh3=>acQ (ag4 hci h3),h6,h7⟩,au.2 (show(-9223372036854775808:Int)<=(k:Int)+1/\(k:Int)+1<=9223372036854775807 by omega),(k+1,(dW (id',fn',pc',D6,st',ch',Ji,OL,0,he',()) i).1),⟨show k+1<=256 by omega,hfo,hk.2.2.2.2.2.1,hk.1,hlen.trans x5,(hk.2.2.2.2.2.2 hmo).2,?_⟩,⟨rfl,trivial⟩,rfl,show 257 - (k+1) < 257 - k by omega⟩
    show eG fs bound (256 - (k+1)) _=_;rw[if_pos hmo,show 256 - (k+1)=m by omega]
theorem Vm:aN aK.gd 82 LM:=
 bV (cx:=aK) (n:=75) (cl:=[(123,BU),(152,SB),(153,Vl),(154,ajY),(155,SH)]) (rc:=[.data bD]) ay ⟨Ar,O9,Pj,acL,acM,trivial⟩ Tryz.func82 λd hd=>by
  obtain⟨⟨vs,ms,cs,fs,ts,⟨⟩⟩,bound,⟨id,fn,pc,rg,st,ch,ph,su,fa,he,⟨⟩⟩,⟨⟩⟩:=d;exact aI (aqA vs ms cs fs ts bound id fn pc rg st ch ph su fa he) (ant vs ms cs fs ts bound id fn pc rg st ch ph su fa he hd) (by kernel_rfl)
abbrev Vo:CT:={ ps:=[oQ,.int .i64,bD],pre:=λd=>bnd (d.1,())/\d.2.2.1.2.2.2.2.2.2.2.2.2.1.length<=1000000/\d.2.2.1.1<=9223372036854775807/\d.2.2.1.2.2.2.1.length=8,res:=λd=>([],vB (decide (bQ (aB d.1.1 d.1.2.1 d.1.2.2.1 d.1.2.2.2.1 d.1.2.2.2.2.1).1 d.2.1=0) && nD d.1.2.1 d.1.2.2.2.1 d.2.1 d.2.2.1)) }
theorem ahE(vs:List VD) (ms cs:List ByteArray) (fs:List FD) (ts:List SD) (bound id fn pc:Int) (rg:List Int) (st ch ph su fa:Int) (he:List Int) (aA:Vo.pre ((vs,ms,cs,fs,ts,()),bound,(id,fn,pc,rg,st,ch,ph,su,fa,he,()),())):
 let z8:=bQ (aB vs ms cs fs ts).fst bound=0;let z7:=(id,fn,pc,rg,st,ch,ph,su,fa,he,());let z4:=decide z8 && nD ms fs bound z7;let z3:=qB z4 false;let z11:=0<=fn/\fn < (fs.length:Int);let z9:=pc=(↑(codeF fs fn).length:Int);let z5:=!decide z9 && (decide (fa=0) && decide (ph=0));let z6:=0<=pc/\pc < (↑(codeF fs fn).length:Int);let z10:=decide (su=1) || decide (su=4);let z2:=λ(d:ID)=>((decide (fa=0) && jm d.fst)=true->he.length<=1000000/\id<=9223372036854775807)/\qB z4 (decide (fa=0) && jm d.fst && decide (iW id ch ph he d=0) && (decide (su=1) && decide (st < bound) || decide (su=4) && decide (1<=st)));let z1:=λ(d:ID)=>br (!decide (su=3) || !decide (ph=0)) z3 (br (decide (fa=26)) ((decide (d.fst=6)=true->0<=d.snd.snd.fst/\d.snd.snd.fst < 8)/\(decide (d.fst=6)=true->Int.toNat d.snd.snd.fst < 8)/\∀(dH:Int),(decide (d.fst=6)=true->rg[Int.toNat d.snd.snd.fst]?=some dH)->qB z4 (decide (d.fst=6) && decide (dH=(0:Int)))) (br (decide (fa=29)) (qB z4 (!jm d.fst)) (((!decide (fa=0) && jm d.fst)=true->he.length<=1000000/\id<=9223372036854775807)/\qB z4 (!decide (fa=0) && jm d.fst && decide (fa=iW id ch ph he d)))));(vs.length<=1000000/\ms.length<=1000000/\cs.length<=1000000/\fs.length<=1000000/\ts.length<=1000000/\(∀(x:ByteArray×(jT.sl.pair Sh.unit).den),x∈fs->List.length x.snd.fst<=1000000)/\(dR fs).length<=1000000)/\((!!decide z8)=true->True/\he.length<=1000000/\id<=9223372036854775807/\rg.length=8)/\br (!decide z8 || !jd ms fs bound z7) z3 (z11/\br (decide (su=2)) ((z5=true->0<=fn/\fn < (fs.length:Int))/\(z5=true->0<=pc/\pc < (↑(codeF fs fn).length:Int))/\∀(d:ID),(z5=true->(codeF fs fn)[pc.toNat]?=some d)->qB z4 (decide (fa=0) && decide (ph=0) && (decide z9 || decide (d.fst=7)))) (br (decide z9) z3 ((z11/\z6/\∀(d:ID),(codeF fs fn)[pc.toNat]?=some d->True/\br z10 (z2 d) (z1 d))/\z11/\z6/\∀(d:ID),(codeF fs fn)[pc.toNat]?=some d->True/\br z10 (z2 d) (z1 d)))):=by
 conv=>zeta
 delta qB I6;obtain⟨hb,yN,hid,hrg⟩:bnd ((vs,ms,cs,fs,ts,()),())/\he.length<=1000000/\id<=9223372036854775807/\rg.length=8:=aA;have both:∀{A:Prop},A->A/\A:=λq=>⟨q,q⟩
 refine⟨hb,λ_=>⟨trivial,yN,hid,hrg⟩,ah.2 ⟨λh=>⟨rfl,?_⟩,λh=>?_⟩⟩
 .have e:(decide (bQ (aB vs ms cs fs ts).1 bound=0) && nD ms fs bound (id,fn,pc,rg,st,ch,ph,su,fa,he,()))=false:=by
   rw[wX]at h;rcases h with q | q
   .rw[show decide (bQ (aB vs ms cs fs ts).1 bound=0)=false by simpa using q];rfl
   .rw[GI λq2=>(by rw[kF.2 q2.1]at q;cases q),Bool.and_false]
  rw[e]
 rw[lM]at h;have hs0:bQ (aB vs ms cs fs ts).1 bound=0:=by simpa using h.1
 have hF:bH ms fs bound (id,fn,pc,rg,st,ch,ph,su,fa,he,()):=kF.1 (by simpa using h.2)
 have hc:=(fO.1 hs0).1;have hfn:=hF.2.1;have hpc:=hF.2.2.1;refine⟨hfn,?_⟩;have W:∀b:Bool,(b=true↔(((su=1/\st < bound\/su=4/\1<=st)/\fa=0/\∃i,lS fs fn pc=some i/\jm i.1=true/\iW id ch ph he i=0) \/
  (su=2/\fa=0/\ph=0/\∀i,lS fs fn pc=some i->i.1=7) \/
  (su=3/\ph=0/\∃i,lS fs fn pc=some i/\(fa=26/\i.1=6/\rg.getD i.2.2.1.toNat 0=0\/fa=29/\jm i.1=false\/fa≠26/\fa≠29/\fa≠0/\iW id ch ph he i=fa)))) ->
   aW.one (SV.c (SC.v (Value.bool (decide (bQ (aB vs ms cs fs ts).1 bound=0) && nD ms fs bound (id,fn,pc,rg,st,ch,ph,su,fa,he,())))))=aW.one (SV.c (SC.v (Value.bool b))):=λb hb=>by
  have:(decide (bQ (aB vs ms cs fs ts).1 bound=0) && nD ms fs bound (id,fn,pc,rg,st,ch,ph,su,fa,he,()))=b:=by
   rw[vg hs0,Hl,Et,hb,jI];exact⟨λq=>q.2,λq=>⟨hF,q⟩⟩
  rw[this]
 refine aJ.2 ⟨λh2=>⟨λ_=>hfn,λg=>?_,λd hd=>⟨rfl,W _ ?_⟩⟩,λh2=>aJ.2 ⟨λhl=>⟨rfl,W _ ?_⟩,λhl=>both ⟨hfn,by omega,λi ha=>⟨trivial,ah.2 ⟨λh3=>⟨λ_=>⟨yN,hid⟩,rfl,W _ ?_⟩,λh3=>ah.2 ⟨λh4=>⟨rfl,W _ ?_⟩,λh4=>aJ.2 ⟨λh5=>⟨λg=>?_,λg=>?_,λd1 hd1=>⟨rfl,W _ ?_⟩⟩,λh5=>aJ.2 ⟨λh6=>⟨rfl,W _ ?_⟩,λh6=>⟨λ_=>⟨yN,hid⟩,rfl,W _ ?_⟩⟩⟩⟩⟩⟩⟩⟩⟩
 .simp at g;omega
 .by_cases hl:pc=((codeF fs fn).length:Int)
  .have ha:lS fs fn pc=none:=uD (by omega)
   rw[vg hl];simp[h2,ha]
  .by_cases g:fa=0/\ph=0
   .have ha:lS fs fn pc=some d:=hd (by simp[g.1,g.2,hl])
    simp[h2,hl,ha,g.1,g.2]
   .have:¬(fa=0/\ph=0/\∀i,lS fs fn pc=some i->i.1=7):=λq=>g ⟨q.1,q.2.1⟩
    simp only[h2];simp only[cZ,dG];constructor
    .intro q;exact absurd ⟨q.1.1,q.1.2⟩ g
    .rintro(q | q | q)
     .omega
     .exact absurd q.2 this
     .omega
 .have ha:lS fs fn pc=none:=uD (by omega)
  simp[ha,h2]
 all_goals
  have ha:lS fs fn pc=some i:=ha;obtain⟨r1,r2,r3,r4⟩:=kP (nH (xI hc hfn ha)).1
 .simp only[ha];simp only[wX,dG]at h3;rcases h3 with e | e<;>(subst e;simp<;>grind)
 .simp only[ha];simp only[lM,A8]at h3;simp only[wX,Ep,A8]at h4;simp[h2,h3.1,h3.2];intro e1 e2;exact absurd e2 (h4.resolve_left (λq=>q e1))
 .exact r2
 .omega
 .simp only[lM,uP,dG]at h4
  by_cases e6:i.1=6
  .have hd1:rg[i.2.2.1.toNat]?=some d1:=hd1 (vg e6);have e0:rg.getD i.2.2.1.toNat 0=d1:=by rw[Il,hd1];rfl
   simp only[ha,h4.1,h4.2,h5,e6];simp only[A97,exists_eq_left',e6,e0];simp
  .simp[ha,h4.1,h4.2,h5,e6]
 .simp only[lM,uP,dG]at h4;simp[ha,h4.1,h4.2,h6]
 .simp only[lM,uP,dG]at h4;have hvo:jm i.1=false->iW id ch ph he i=0:=λq=>by
   unfold iW;have:i.1≠18/\i.1≠16/\i.1≠21:=by
    refine⟨?_,?_,?_⟩<;>(intro e;rw[e]at q;cases q)
   simp[this.1,this.2.1,this.2.2]
  simp only[ha,h4.1,h4.2];cases hv:jm i.1 with
  | false=>
    have:=hvo hv;simp[h5,h6,this];rw[h4.2]at this;intro q1 q2;rw[this]at q2;omega
  | true=>
    simp[h5,h6];intro q1;exact eq_comm
theorem Pm:aN aK.gd 122 Vo:=
 bV (cx:=aK) (n:=146) (cl:=[(79,GL),(175,SI),(123,BU),(152,SB),(153,Vl)]) (rc:=[]) ay ⟨LK,acN,Ar,O9,Pj,trivial⟩ Tryz.func122 λd hd=>by
  obtain⟨⟨vs,ms,cs,fs,ts,⟨⟩⟩,bound,⟨id,fn,pc,rg,st,ch,ph,su,fa,he,⟨⟩⟩,⟨⟩⟩:=d;exact aI (λ_=>none) (ahE vs ms cs fs ts bound id fn pc rg st ch ph su fa he hd) (by kernel_rfl)
abbrev SL:CT:={ ps:=[oQ,.int .i64,.int .i64,.int .i64,.int .i64],pre:=λd=>bnd (d.1,())/\d.2.2.1<=9223372036854775807,res:=λd=>([],.gY [.dat bD (newS (aB d.1.1 d.1.2.1 d.1.2.2.1 d.1.2.2.2.1 d.1.2.2.2.2.1).1 d.1.2.2.2.1 d.2.1 d.2.2.1 d.2.2.2.1 d.2.2.2.2.1).1,.c (.v (.int .i64 (newS (aB d.1.1 d.1.2.1 d.1.2.2.1 d.1.2.2.2.1 d.1.2.2.2.2.1).1 d.1.2.2.2.1 d.2.1 d.2.2.1 d.2.2.2.1 d.2.2.2.2.1).2))]) }
theorem anu(vs:List VD) (ms cs:List ByteArray) (fs:List FD) (ts:List SD) (bound id fn arg:Int) (aA:SL.pre ((vs,ms,cs,fs,ts,()),bound,id,fn,arg,())):
 let z4:=aB vs ms cs fs ts;let z3:=newS z4.fst fs bound id fn arg;let z2:=[SV.dat bD z3.fst,cI (z3.snd)];let z1:=rT z2 kq4;(vs.length<=1000000/\ms.length<=1000000/\cs.length<=1000000/\fs.length<=1000000/\ts.length<=1000000/\(∀(x:ByteArray×(jT.sl.pair Sh.unit).den),x∈fs->List.length x.snd.fst<=1000000)/\(dR fs).length<=1000000)/\br (!decide (bQ z4.fst bound=0)) (rT z2 [SV.dat bD (((0:Int),(0:Int),(0:Int),P9,(0:Int),(0:Int),(0:Int),(0:Int),(0:Int),[],())),cI (bQ z4.fst bound)]) (id<=9223372036854775807/\br (!decide (0<=aU id)) z1 (br (decide (fn < 0) || decide ((fs.length:Int)<=fn)) (rT z2 kq1) (True/\br (!bY arg) z1 (((0:Int)<=(0:Int)/\(0:Int) < (8:Int))/\0 < 8/\(z4.fst=0/\bH ms fs bound (id,fn,(0:Int),P9.set 0 arg,(0:Int),(0:Int),(0:Int),(1:Int),(0:Int),[],())/\(0:Int)=(0:Int)/\0<=1000000/\id<=9223372036854775807/\(P9.set 0 arg).length=8)/\rT z2 [SV.dat bD (eG fs bound 256 (id,fn,(0:Int),P9.set 0 arg,(0:Int),(0:Int),(0:Int),(1:Int),(0:Int),[],())),cI 0])))):=by
 conv=>zeta
 delta kq4 P9 kq1 cI rT I6;obtain⟨hb,hid⟩:bnd ((vs,ms,cs,fs,ts,()),())/\id<=9223372036854775807:=aA;refine⟨hb,ah.2 ⟨λh=>?_,λh=>⟨hid,ah.2 ⟨λh2=>?_,λh2=>ah.2 ⟨λh3=>?_,λh3=>⟨trivial,ah.2 ⟨λh4=>?_,λh4=>?_⟩⟩⟩⟩⟩⟩⟩
 .have h:bQ (aB vs ms cs fs ts).1 bound≠0:=by simpa using h
  have e:newS (aB vs ms cs fs ts).1 fs bound id fn arg=(zT,bQ (aB vs ms cs fs ts).1 bound):=by unfold newS;rw[if_pos h]
  rw[e];exact⟨rfl,rfl⟩
 all_goals have h:¬bQ (aB vs ms cs fs ts).1 bound≠0:=by simpa using h
 .have h2:aU id < 0:=by simpa using h2
  have e:newS (aB vs ms cs fs ts).1 fs bound id fn arg=(zT,2):=by unfold newS;rw[if_neg h,if_pos h2]
  rw[e];exact⟨rfl,rfl⟩
 all_goals have h2:¬aU id < 0:=by simpa using h2
 .have h3:fn < 0\/(fs.length:Int)<=fn:=by simpa using h3
  have e:newS (aB vs ms cs fs ts).1 fs bound id fn arg=(zT,11):=by unfold newS;rw[if_neg h,if_neg h2,if_pos h3]
  rw[e];exact⟨rfl,rfl⟩
 all_goals have h3:¬(fn < 0\/(fs.length:Int)<=fn):=by simp only[lM,A8]at h3;omega
 .have h4:bY arg=false:=by simpa using h4
  have e:newS (aB vs ms cs fs ts).1 fs bound id fn arg=(zT,2):=by unfold newS;rw[if_neg h,if_neg h2,if_neg h3,if_pos h4]
  rw[e];exact⟨rfl,rfl⟩
 .have h4:¬bY arg=false:=by simpa using h4
  have e:newS (aB vs ms cs fs ts).1 fs bound id fn arg=(eG fs bound 256 (id,fn,0,[arg,0,0,0,0,0,0,0],0,0,0,1,0,[],()),0):=by unfold newS;rw[if_neg h,if_neg h2,if_neg h3,if_neg h4]
  have hs:=fO.1 (Hg.1 h);rw[e];exact⟨by omega,by omega,⟨hs.1,yM ms hs.2.1 h2 h3 h4,rfl,by omega,hid,rfl⟩,rfl,rfl⟩
theorem ahF:aN aK.gd 36 SL:=
 bV (cx:=aK) (n:=49) (cl:=[(79,GL),(80,Jk),(81,LH),(82,LM)]) (rc:=[.data bD,.keep]) ay ⟨LK,D9,LJ,Vm,trivial⟩ Tryz.func36 λd hd=>by
  obtain⟨⟨vs,ms,cs,fs,ts,⟨⟩⟩,bound,id,fn,arg,⟨⟩⟩:=d;exact aI (λ_=>none) (anu vs ms cs fs ts bound id fn arg hd) (by kernel_rfl)
def GN(i:ID) (r:Int) (rg:List Int):List Int:=if(jo i).2=true then rg.set (jo i).1.toNat r else rg
def Yb(i:ID) (r:Int) (he:List Int):List Int:=if i.1=15\/(i.1=17/\r≠0) then uX he i.2.2.2.2.1 else he
def Ea(i:ID) (r:Int) (he:List Int):List Int:=if i.1=15\/(i.1=17/\r≠0) then uX he i.2.2.2.2.1 else if i.1=16 then yI he i.2.2.2.2.1 else he
def chS(i:ID) (ch:Int):Int:=if i.1=21 then ch+1 else ch
abbrev SN:CT:={ ps:=[oQ,.int .i64,bD,.int .i64],pre:=λd=>bnd (d.1,())/\d.2.2.1.2.2.2.2.2.2.2.2.2.1.length<=1000000/\d.2.2.1.1<=9223372036854775807/\d.2.2.1.2.2.2.1.length=8,res:=λd=>([],.gY [.dat bD (ig (aB d.1.1 d.1.2.1 d.1.2.2.1 d.1.2.2.2.1 d.1.2.2.2.2.1).1 d.1.2.1 d.1.2.2.2.1 d.2.1 d.2.2.1 d.2.2.2.1).1,.c (.v (.int .i64 (ig (aB d.1.1 d.1.2.1 d.1.2.2.1 d.1.2.2.2.1 d.1.2.2.2.2.1).1 d.1.2.1 d.1.2.2.2.1 d.2.1 d.2.2.1 d.2.2.2.1).2))]) }
abbrev aqB(vs:List VD) (ms cs:List ByteArray) (fs:List FD) (ts:List SD) (bound id fn pc:Int) (rg:List Int) (st ch ph su fa:Int) (he:List Int) (r:Int):Nat->Option (St->iE):=λk=>match k with
 | 11=>some λs=>.cut { α:=ID,pad:=1,ren:=[(3,4)],slots:=λ_=>[(11,.c (.own 3 0))],res:=λi=>[(3,.blk 91 [.v (.int .i64 i.1),.v (.int .i64 i.2.1),.v (.int .i64 i.2.2.1),.v (.int .i64 i.2.2.2.1),.v (.int .i64 i.2.2.2.2.1),.v (.int .i64 i.2.2.2.2.2.1),.v (.int .i64 i.2.2.2.2.2.2.1),.v (.int .i64 i.2.2.2.2.2.2.2.1)])],inv:=λi=>lS fs fn pc=some i,meas:=λ_=>0 }
 | 15=>some λs=>.cut { α:=Nat,slots:=λ_=>[],res:=λ_=>[(1,.obj 56 bD (id,fn,pc,GN (sJ jT s 11) r rg,st+1,ch,ph,su,fa,he,()))],inv:=λu=>u=0,meas:=λ_=>0 }
 | 17=>some λs=>.cut { α:=Nat,slots:=λ_=>[],res:=λ_=>[(1,.obj 56 bD (id,fn,pc,GN (sJ jT s 11) r rg,st+1,ch,ph,su,fa,Yb (sJ jT s 11) r he,()))],inv:=λu=>u=0,meas:=λ_=>0 }
 | 19=>some λs=>.cut { α:=Nat,slots:=λ_=>[],res:=λ_=>[(1,.obj 56 bD (id,fn,pc,GN (sJ jT s 11) r rg,st+1,ch,ph,su,fa,Ea (sJ jT s 11) r he,()))],inv:=λu=>u=0,meas:=λ_=>0 }
 | 21=>some λs=>.cut { α:=Nat,slots:=λ_=>[],res:=λ_=>[(1,.obj 56 bD (id,fn,pc,GN (sJ jT s 11) r rg,st+1,chS (sJ jT s 11) ch,ph,su,fa,Ea (sJ jT s 11) r he,()))],inv:=λu=>u=0,meas:=λ_=>0 }
 | _=>none
theorem anv(vs:List VD) (ms cs:List ByteArray) (fs:List FD) (ts:List SD) (bound id fn pc:Int) (rg:List Int) (st ch ph su fa:Int) (he:List Int) (r:Int) (aA:SN.pre ((vs,ms,cs,fs,ts,()),bound,(id,fn,pc,rg,st,ch,ph,su,fa,he,()),r,())):
 let z9:=vs.length<=1000000/\ms.length<=1000000/\cs.length<=1000000/\fs.length<=1000000/\ts.length<=1000000/\(∀(x:ByteArray×(jT.sl.pair Sh.unit).den),x∈fs->List.length x.snd.fst<=1000000)/\(dR fs).length<=1000000;let z21:=aB vs ms cs fs ts;let MN:=bQ z21.fst bound=0;let Qa:=(id,fn,pc,rg,st,ch,ph,su,fa,he,());let z13:=ig z21.fst ms fs bound Qa r;let z10:=[SV.dat bD z13.fst,cI (z13.snd)];let z20:=0<=fn/\fn < (fs.length:Int);let z17:=0<=pc/\pc < (↑(codeF fs fn).length:Int);let BQ:=SV.c (SC.own 3 0)=SV.c (SC.own 3 0)/\True;let qR:=[SC.sl Gj vs,SC.sl Sh.str ms,SC.sl Sh.str cs,SC.sl CY fs,SC.sl mO ts];let z5:=λ(d:ID)=>[g0 (aj.blk 27 qR),g0 (aj.obj 56 bD Qa),g0 (aj.obj 56 bD ((0:Int),(0:Int),(0:Int),List.replicate 8 (0:Int),(0:Int),(0:Int),(0:Int),(0:Int),(0:Int),[],())),g0 (aj.blk 91 [v6 d.fst,v6 d.snd.fst,v6 d.snd.snd.fst,v6 d.snd.snd.snd.fst,v6 d.snd.snd.snd.snd.fst,v6 d.snd.snd.snd.snd.snd.fst,v6 d.snd.snd.snd.snd.snd.snd.fst,v6 d.snd.snd.snd.snd.snd.snd.snd.fst])];let z11:=λ(v:Int×Int×Int×Int×Int×Int×Int×Int×Unit)=>[v6 v.fst,v6 v.snd.fst,v6 v.snd.snd.fst,v6 v.snd.snd.snd.fst,v6 v.snd.snd.snd.snd.fst,v6 v.snd.snd.snd.snd.snd.fst,v6 v.snd.snd.snd.snd.snd.snd.fst,v6 v.snd.snd.snd.snd.snd.snd.snd.fst];let z6:=λ(v:Int×Int×Int×Int×Int×Int×Int×Int×Unit)=>[g0 (aj.blk 27 qR),g0 (aj.obj 56 bD Qa),g0 (aj.obj 56 bD ((0:Int),(0:Int),(0:Int),List.replicate 8 (0:Int),(0:Int),(0:Int),(0:Int),(0:Int),(0:Int),[],())),g0 (aj.blk 91 (z11 v))];let z4:=λ(v:Int×Int×Int×Int×Int×Int×Int×Int×Unit)=>[g0 (aj.blk 27 qR),g0 (aj.obj 56 bD (id,fn,pc,GN v r rg,st+1,ch,ph,su,fa,he,())),g0 (aj.obj 56 bD ((0:Int),(0:Int),(0:Int),List.replicate 8 (0:Int),(0:Int),(0:Int),(0:Int),(0:Int),(0:Int),[],())),g0 (aj.blk 91 (z11 v))];let z2:=λ(v:Int×Int×Int×Int×Int×Int×Int×Int×Unit)=>[g0 (aj.blk 27 qR),g0 (aj.obj 56 bD (id,fn,pc,GN v r rg,st+1,ch,ph,su,fa,Yb v r he,())),g0 (aj.obj 56 bD ((0:Int),(0:Int),(0:Int),List.replicate 8 (0:Int),(0:Int),(0:Int),(0:Int),(0:Int),(0:Int),[],())),g0 (aj.blk 91 (z11 v))];let z3:=λ(v:Int×Int×Int×Int×Int×Int×Int×Int×Unit)=>[g0 (aj.blk 27 qR),g0 (aj.obj 56 bD (id,fn,pc,GN v r rg,st+1,ch,ph,su,fa,Ea v r he,())),g0 (aj.obj 56 bD ((0:Int),(0:Int),(0:Int),List.replicate 8 (0:Int),(0:Int),(0:Int),(0:Int),(0:Int),(0:Int),[],())),g0 (aj.blk 91 (z11 v))];let z1:=λ(v:Int×Int×Int×Int×Int×Int×Int×Int×Unit)=>[g0 (aj.blk 27 qR),g0 (aj.obj 56 bD (id,fn,pc,GN v r rg,st+1,chS v ch,ph,su,fa,Ea v r he,())),g0 (aj.obj 56 bD ((0:Int),(0:Int),(0:Int),List.replicate 8 (0:Int),(0:Int),(0:Int),(0:Int),(0:Int),(0:Int),[],())),g0 (aj.blk 91 (z11 v))];let kV:=λ(v:Int×Int×Int×Int×Int×Int×Int×Int×Unit)=>(Ea v r he,v.snd.snd.snd.snd.snd.fst,());let z12:=λ(v:Int×Int×Int×Int×Int×Int×Int×Int×Unit)=>(id,fn,pc,GN v r rg,st+1,chS v ch,(1:Int),su,fa,List.filter (λx=>decide (x≠(kV v).snd.fst)) (Ea v r he),());let z8:=λ(v:Int×Int×Int×Int×Int×Int×Int×Int×Unit)=>List.filter (λx=>decide (x < (kV v).snd.fst)) (Ea v r he)++[v.snd.snd.snd.snd.snd.fst]++List.filter (λx=>decide ((kV v).snd.fst < x)) (Ea v r he);let z7:=λ(v:Int×Int×Int×Int×Int×Int×Int×Int×Unit)=>(id,fn,pc+1,GN v r rg,st+1,chS v ch,(0:Int),su,fa,(z8 v),());z9 /\
 br (!decide MN) (rT z10 [SV.dat bD (((0:Int),(0:Int),(0:Int),P9,(0:Int),(0:Int),(0:Int),(0:Int),(0:Int),[],())),cI (bQ z21.fst bound)])
  ((z9/\he.length<=1000000/\id<=9223372036854775807/\rg.length=8) /\
    br (!(decide MN && nD ms fs bound Qa)) (rT z10 kq3)
     (br (!decide (su=1)) (rT z10 kq2)
      (True /\
       br (!bY r) (rT z10 kq4)
        (((z20/\z17/\∀(d:ID),(codeF fs fn)[pc.toNat]?=some d->∃v,lS fs fn pc=some v/\BQ/\(z5 d)=(z6 v))/\z20/\z17/\∀(d:ID),(codeF fs fn)[pc.toNat]?=some d->∃v,lS fs fn pc=some v/\BQ/\(z5 d)=(z6 v)) /\
          ∀(v:Int×Int×Int×Int×Int×Int×Int×Int×Unit),
            lS fs fn pc=some v ->
             iR (st+1) /\
              (True/\br (jo v).snd ((0<=(jo v).fst/\(jo v).fst < 8)/\(jo v).fst.toNat < 8/\∃v_1,v_1=0/\True/\[g0 (aj.blk 27 qR),g0 (aj.obj 56 bD (id,fn,pc,rg.set (jo v).fst.toNat r,st+1,ch,ph,su,fa,he,())),g0 (aj.obj 56 bD ((0:Int),(0:Int),(0:Int),List.replicate 8 (0:Int),(0:Int),(0:Int),(0:Int),(0:Int),(0:Int),[],())),g0 (aj.blk 91 (z11 v))]=(z4 v)) (∃v_1,v_1=0/\True/\[g0 (aj.blk 27 qR),g0 (aj.obj 56 bD (id,fn,pc,rg,st+1,ch,ph,su,fa,he,())),g0 (aj.obj 56 bD ((0:Int),(0:Int),(0:Int),List.replicate 8 (0:Int),(0:Int),(0:Int),(0:Int),(0:Int),(0:Int),[],())),g0 (aj.blk 91 (z11 v))]=(z4 v))) /\
               ∀(v_1:Nat),
                 v_1=0 ->
                  br (decide (v.fst=15) || decide (v.fst=17) && !decide (r=0)) (he.length<=100000/\∃v_2,v_2=0/\True/\[g0 (aj.blk 27 qR),g0 (aj.obj 56 bD (id,fn,pc,GN v r rg,st+1,ch,ph,su,fa,(List.filter (λx=>decide (x < (he,v.snd.snd.snd.snd.fst,()).snd.fst)) he++[v.snd.snd.snd.snd.fst]++List.filter (λx=>decide ((he,v.snd.snd.snd.snd.fst,()).snd.fst < x)) he),())),g0 (aj.obj 56 bD ((0:Int),(0:Int),(0:Int),List.replicate 8 (0:Int),(0:Int),(0:Int),(0:Int),(0:Int),(0:Int),[],())),g0 (aj.blk 91 (z11 v))]=(z2 v)) (∃v_2,v_2=0/\True/\(z4 v)=(z2 v)) /\
                   ∀(v_2:Nat),
                     v_2=0 ->
                      br (decide (v.fst=16)) ((Yb v r he).length<=100000/\∃v_3,v_3=0/\True/\[g0 (aj.blk 27 qR),g0 (aj.obj 56 bD (id,fn,pc,GN v r rg,st+1,ch,ph,su,fa,List.filter (λx=>decide (x≠(Yb v r he,v.snd.snd.snd.snd.fst,()).snd.fst)) (Yb v r he),())),g0 (aj.obj 56 bD ((0:Int),(0:Int),(0:Int),List.replicate 8 (0:Int),(0:Int),(0:Int),(0:Int),(0:Int),(0:Int),[],())),g0 (aj.blk 91 (z11 v))]=(z3 v)) (∃v_3,v_3=0/\True/\(z2 v)=(z3 v)) /\
                       ∀(v_3:Nat),
                         v_3=0 ->
                          br (decide (v.fst=21)) (iR (ch+1)/\∃v_4,v_4=0/\True/\[g0 (aj.blk 27 qR),g0 (aj.obj 56 bD (id,fn,pc,GN v r rg,st+1,ch+1,ph,su,fa,Ea v r he,())),g0 (aj.obj 56 bD ((0:Int),(0:Int),(0:Int),List.replicate 8 (0:Int),(0:Int),(0:Int),(0:Int),(0:Int),(0:Int),[],())),g0 (aj.blk 91 (z11 v))]=(z1 v)) (∃v_4,v_4=0/\True/\(z3 v)=(z1 v)) /\
                           ∀(v_4:Nat),v_4=0->br (!decide (v.fst=18)) (iR (pc+1)/\(z21.fst=0/\bH ms fs bound (id,fn,pc+1,GN v r rg,st+1,chS v ch,ph,su,fa,Ea v r he,())/\fa=0/\(Ea v r he).length<=1000000/\id<=9223372036854775807/\(GN v r rg).length=8)/\rT z10 [SV.dat bD (eG fs bound 256 (id,fn,pc+1,GN v r rg,st+1,chS v ch,ph,su,fa,Ea v r he,())),cI 0]) (br (decide (ph=0)) ((Ea v r he).length<=100000/\(z21.fst=0/\bH ms fs bound (z12 v)/\fa=0/\(List.filter (λx=>decide (x≠(kV v).snd.fst)) (Ea v r he)).length<=1000000/\id<=9223372036854775807/\(GN v r rg).length=8)/\rT z10 [SV.dat bD (eG fs bound 256 (z12 v)),cI 0]) (br (decide (ph=1)) ((z21.fst=0/\bH ms fs bound (id,fn,pc,GN v r rg,st+1,chS v ch,(2:Int),su,fa,Ea v r he,())/\fa=0/\(Ea v r he).length<=1000000/\id<=9223372036854775807/\(GN v r rg).length=8)/\rT z10 [SV.dat bD (eG fs bound 256 (id,fn,pc,GN v r rg,st+1,chS v ch,(2:Int),su,fa,Ea v r he,())),cI 0]) ((Ea v r he).length<=100000/\iR (pc+1)/\(z21.fst=0/\bH ms fs bound (z7 v)/\fa=0/\(z8 v).length<=1000000/\id<=9223372036854775807/\(GN v r rg).length=8)/\rT z10 [SV.dat bD (eG fs bound 256 (z7 v)),cI 0]))))))):=by
 conv=>zeta
 delta P9 kq3 kq2 kq4 v6 cI g0 rT I6 iR;obtain⟨hb,yN,hid,hrg⟩:bnd ((vs,ms,cs,fs,ts,()),())/\he.length<=1000000/\id<=9223372036854775807/\rg.length=8:=aA;have both:∀{A:Prop},A->A/\A:=λq=>⟨q,q⟩
 refine⟨hb,ah.2 ⟨λh=>?_,λh=>?_⟩⟩
 .have h:bQ (aB vs ms cs fs ts).1 bound≠0:=by simpa using h
  have e:ig (aB vs ms cs fs ts).1 ms fs bound (id,fn,pc,rg,st,ch,ph,su,fa,he,()) r=(zT,bQ (aB vs ms cs fs ts).1 bound):=by unfold ig;rw[if_pos h]
  rw[e];exact⟨rfl,rfl⟩
 have h:¬bQ (aB vs ms cs fs ts).1 bound≠0:=by simpa using h
 have h0:bQ (aB vs ms cs fs ts).1 bound=0:=Hg.1 h;have hs:=fO.1 h0;refine⟨⟨hb,yN,hid,hrg⟩,ah.2 ⟨λh2=>?_,λh2=>?_⟩⟩
 .have h2:¬rD ms fs bound (id,fn,pc,rg,st,ch,ph,su,fa,he,()):=λq=>by rw[jI.2 q,h0]at h2;cases h2
  have e:ig (aB vs ms cs fs ts).1 ms fs bound (id,fn,pc,rg,st,ch,ph,su,fa,he,()) r=(zT,1):=by unfold ig;rw[if_neg h,if_pos h2]
  rw[e];exact⟨rfl,rfl⟩
 have hV:rD ms fs bound (id,fn,pc,rg,st,ch,ph,su,fa,he,()):=by
  rw[uP,cZ]at h2;exact jI.1 h2.2
 have h2:¬¬rD ms fs bound (id,fn,pc,rg,st,ch,ph,su,fa,he,()):=λq=>q hV
 refine ah.2 ⟨λh3=>?_,λh3=>⟨trivial,ah.2 ⟨λh4=>?_,λh4=>?_⟩⟩⟩
 .have h3:su≠1:=by simpa using h3
  have e:ig (aB vs ms cs fs ts).1 ms fs bound (id,fn,pc,rg,st,ch,ph,su,fa,he,()) r=(zT,30):=by unfold ig;rw[if_neg h,if_neg h2,if_pos h3]
  rw[e];exact⟨rfl,rfl⟩
 all_goals
  have h1:su=1:=by simpa using h3
  have h3:¬su≠1:=λq=>q h1
 .have h4:bY r=false:=by simpa using h4
  have e:ig (aB vs ms cs fs ts).1 ms fs bound (id,fn,pc,rg,st,ch,ph,su,fa,he,()) r=(zT,2):=by unfold ig;rw[if_neg h,if_neg h2,if_neg h3,if_pos h4]
  rw[e];exact⟨rfl,rfl⟩
 have hvr:bY r=true:=by simpa using h4
 have h4:¬bY r=false:=by rw[hvr];simp
 obtain⟨f0,s0,i,ha,vi,oi⟩:=yK hV h1;have ha:lS fs fn pc=some i:=ha;have f0:fa=0:=f0;have s0:st < bound:=s0;have hF:bH ms fs bound (id,fn,pc,rg,st,ch,ph,su,fa,he,()):=hV.1;have hfn:=hF.2.1;have hpc:=hF.2.2.1;have hst:=hF.2.2.2.2.1;have hch:=hF.2.2.2.2.2.1;have hss:SS he:=hF.2.2.2.2.2.2.1;have h64:=uq hs.1 hfn;have iT:pc < ((codeF fs fn).length:Int):=by
  have:=(eX.1 ha).1;omega
 have hci:=(nH (xI hs.1 hfn ha)).1;have hm4:=acw (nU hs.1).1;have h4e:he.length<=4:=mF hF hm4;have leaf:∀t':TD,t'=jU (id,fn,pc,rg,st,ch,ph,su,fa,he,()) i r->(((aB vs ms cs fs ts).1=0/\bH ms fs bound t'/\fa=0/\t'.2.2.2.2.2.2.2.2.2.1.length<=1000000/\id<=9223372036854775807/\t'.2.2.2.1.length=8)/\([]:List Go.jw.aj)=[] /\
  aW.gY [SV.dat bD (ig (aB vs ms cs fs ts).1 ms fs bound (id,fn,pc,rg,st,ch,ph,su,fa,he,()) r).1,SV.c (SC.v (Value.int .i64 (ig (aB vs ms cs fs ts).1 ms fs bound (id,fn,pc,rg,st,ch,ph,su,fa,he,()) r).2))]=aW.gY [SV.dat bD (eG fs bound 256 t'),SV.c (SC.v (Value.int .i64 0))]):=by
  intro t' et;subst et;have hf:=yL hs.1 hV h1 ha hvr;have e:ig (aB vs ms cs fs ts).1 ms fs bound (id,fn,pc,rg,st,ch,ph,su,fa,he,()) r=(eG fs bound 256 (jU (id,fn,pc,rg,st,ch,ph,su,fa,he,()) i r),0):=by
   unfold ig;rw[if_neg h,if_neg h2,if_neg h3,if_neg h4];show(eG fs bound 256 (jU (id,fn,pc,rg,st,ch,ph,su,fa,he,()) (atR fs fn pc).1 r),(0:Int))=_;rw[show atR fs fn pc=(i,true) by unfold atR;rw[ha]]
  rw[e];exact⟨⟨hs.1,hf,f0,oh (mF hf hm4) (by omega),hid,(Lu _ _ _).trans hrg⟩,rfl,rfl⟩
 refine⟨both ⟨hfn,⟨hpc.1,iT⟩,λd hd=>⟨d,hd,⟨rfl,trivial⟩,rfl⟩⟩,λj hj=>?_⟩
 have hj:lS fs fn pc=some j:=hj;rw[ha]at hj;cases hj;have ep:nM .i64 (pc+1):=au.2 (by omega)
 have ec:nM .i64 (ch+1):=au.2 (by omega)
 have l16:i.1=16->Yb i r he=he:=λq=>if_neg (by omega)
 have l18:i.1=18->Ea i r he=he/\chS i ch=ch:=λq=>⟨by unfold Ea;rw[if_neg (by omega),if_neg (by omega)],if_neg (by omega)⟩
 have hlN:(Yb i r he).length<=5:=by
  unfold Yb;split
  .have:(uX he i.2.2.2.2.1).length<=(he++[i.2.2.2.2.1]).length:=OC _;rw[kK]at this;simp at this;omega
  .omega
 refine⟨au.2 (by omega),⟨trivial,ah.2 ⟨λhd=>?_,λhd=>?_⟩⟩,λ_ _=>⟨ah.2 ⟨λq=>?_,λq=>?_⟩,λ_ _=>⟨aJ.2 ⟨λq=>?_,λq=>?_⟩,λ_ _=>⟨aJ.2 ⟨λq=>?_,λq=>?_⟩,λ_ _=>ah.2 ⟨λn18=>?_,λn18=>?_⟩⟩⟩⟩⟩
 .have hr:=O5 hci hd;have e:GN i r rg=rg.set (jo i).1.toNat r:=if_pos hd;exact⟨hr,by omega,0,rfl,trivial,by rw[e]⟩
 .have e:GN i r rg=rg:=if_neg (by rw[hd];simp)
  exact⟨0,rfl,trivial,by rw[e]⟩
 .have q:i.1=15\/(i.1=17/\r≠0):=by simpa using q
  have e:Yb i r he=uX he i.2.2.2.2.1:=if_pos q;refine⟨by omega,0,rfl,trivial,?_⟩
  rw[e,<-U3 hss]
 .have q:¬(i.1=15\/(i.1=17/\r≠0)):=by simpa using q
  have e:Yb i r he=he:=if_neg q;exact⟨0,rfl,trivial,by rw[e]⟩
 .have e1:=l16 q;have e:Ea i r he=yI he i.2.2.2.2.1:=by unfold Ea;rw[if_neg (by omega),if_pos q]
  refine⟨by omega,0,rfl,trivial,?_⟩
  rw[e,e1,<-yJ hss]
 .have e:Ea i r he=Yb i r he:=by unfold Ea Yb;rw[if_neg q]
  exact⟨0,rfl,trivial,by rw[e]⟩
 .have e:chS i ch=ch+1:=if_pos q;exact⟨ec,0,rfl,trivial,by rw[e]⟩
 .have e:chS i ch=ch:=if_neg q;exact⟨0,rfl,trivial,by rw[e]⟩
 .have n18:¬i.1=18:=by simpa using n18
  exact⟨ep,leaf _ (by simp only[jU,if_neg n18];rfl)⟩
 .have q:i.1=18:=by simpa using n18
  obtain⟨e1,e2⟩:=l18 q;rw[e1,e2];refine aJ.2 ⟨λq0=>⟨by omega,?_⟩,λq0=>aJ.2 ⟨λq1=>?_,λq1=>⟨by omega,ep,?_⟩⟩⟩
  .rw[show List.filter (λx=>decide (x≠((he,i.2.2.2.2.2.1,()):List Int×Int×Unit).2.1)) he=yI he i.2.2.2.2.2.1 from yJ hss]
   exact leaf _ (by simp only[jU,if_pos q,if_pos q0];rfl)
  .exact leaf _ (by simp only[jU,if_pos q,if_neg q0,if_pos q1];rfl)
  .rw[show List.filter (λx=>decide (x < ((he,i.2.2.2.2.2.1,()):List Int×Int×Unit).2.1)) he++[i.2.2.2.2.2.1]++List.filter (λx=>decide (((he,i.2.2.2.2.2.1,()):List Int×Int×Unit).2.1 < x)) he=uX he i.2.2.2.2.2.1 from U3 hss]
   exact leaf _ (by simp only[jU,if_pos q,if_neg q0,if_neg q1];rfl)
theorem ahG:aN aK.gd 56 SN:=
 bV (cx:=aK) (n:=130) (cl:=[(79,GL),(122,Vo),(81,LH),(123,BU),(124,acH),(82,LM),(125,SE),(126,SG)]) (rc:=[.data bD,.keep]) ay ⟨LK,Pm,LJ,Ar,acI,Vm,acJ,acK,trivial⟩ Tryz.func56 λd hd=>by
  obtain⟨⟨vs,ms,cs,fs,ts,⟨⟩⟩,bound,⟨id,fn,pc,rg,st,ch,ph,su,fa,he,⟨⟩⟩,r,⟨⟩⟩:=d;exact aI (aqB vs ms cs fs ts bound id fn pc rg st ch ph su fa he r) (anv vs ms cs fs ts bound id fn pc rg st ch ph su fa he r hd) (by kernel_rfl)
instance (l:List Int):Decidable (SS l):=inferInstanceAs (Decidable (l.Pairwise (· < ·)))
abbrev anw:CT:={ ps:=[.sl (.int .i64)],pre:=λd=>d.1.length<=1000000,res:=λd=>([],vB (kU d.1)) }
abbrev anx(l:List Int):Nat->Option (St->iE):=λk=>match k with
 | 2=>some λ_=>.inv { α:=Nat,slots:=λk=>[(3,.c (.v (.int .i64 k)))],res:=λ_=>[],inv:=λk=>(1<=k/\(k<=l.length\/k=1))/\∀j,j+1 < k->∀x y,l[j]?=some x->l[j+1]?=some y->x < y,meas:=λk=>l.length - k }
 | _=>none
theorem ahH(l:List Int) (aA:anw.pre (l,())):
 (∃x,((1<=x/\(x<=l.length\/x=1))/\∀(j:Nat),j+1 < x->∀(x y:Int),l[j]?=some x->l[j+1]?=some y->x < y)/\(cI 1=cI (x:Int)/\True)/\([]:List dP)=[])/\∀(x:Nat),((1<=x/\(x<=l.length\/x=1))/\∀(j:Nat),j+1 < x->∀(x y:Int),l[j]?=some x->l[j+1]?=some y->x < y)->br (decide ((x:Int) < (l.length:Int))) (iR ((x:Int) - (1:Int))/\(0<=(x:Int) - (1:Int)/\(x:Int) - 1 < (l.length:Int))/\∀(d:Int),l[((x:Int) - (1:Int)).toNat]?=some d->(0<=(x:Int)/\(x:Int) < (l.length:Int))/\∀(dH:Int),l[(x:Int).toNat]?=some dH->br (decide (dH<=d)) (qB (kU l) false) (iR ((x:Int)+(1:Int))/\∃x',((1<=x'/\(x'<=l.length\/x'=1))/\∀(j:Nat),j+1 < x'->∀(x y:Int),l[j]?=some x->l[j+1]?=some y->x < y)/\(cI ((x:Int)+(1:Int))=cI (x':Int)/\True)/\([]:List dP)=[]/\l.length - x' < l.length - x)) (qB (kU l) true):=by
 delta dP cI qB iR;have hp:l.length<=1000000:=aA;refine⟨⟨1,⟨⟨by omega,.inr rfl⟩,λj hj=>by omega⟩,⟨rfl,trivial⟩,rfl⟩,λk hk=>ah.2 ⟨λh=>?_,λh=>?_⟩⟩
 .simp only[dG]at h;have hk1:=hk.1.1;refine⟨au.2 (by omega),by omega,λd hd=>⟨by omega,λe he=>?_⟩⟩
  have hd:l[k - 1]?=some d:=by rw[<-hd];congr 1;omega
  have he:l[k]?=some e:=by simpa using he
  have he':l[k - 1+1]?=some e:=by rw[show k - 1+1=k by omega];exact he
  refine ah.2 ⟨λh2=>?_,λh2=>⟨au.2 (by omega),k+1,⟨⟨by omega,.inl (by omega)⟩,λj hj x y hx hy=>?_⟩,⟨by simp,trivial⟩,rfl,by omega⟩⟩
  .simp only[dG]at h2;have:kU l=false:=yS λhs=>by have:=Lm hs hd he';omega
   rw[this];exact⟨rfl,rfl⟩
  .simp only[A8]at h2
   by_cases gu:j+1=k
   .have hj':j=k - 1:=by omega
    subst hj';rw[hd]at hx;rw[he']at hy;cases hx;cases hy;omega
   .exact hk.2 j (by omega) x y hx hy
 .simp only[A8]at h;have:kU l=true:=vg (Gy λj x y hx hy=>hk.2 j (by have:=(eX.1 hy).1;omega) x y hx hy)
  rw[this];exact⟨rfl,rfl⟩
theorem acS:aN aK.gd 180 anw:=
 jG (cx:=aK) (n:=20) (cl:=[]) ay trivial Tryz.func180 λd hd=>by
  obtain⟨l,⟨⟩⟩:=d;exact⟨anx l,cast (by kernel_rfl) (ahH l hd)⟩
abbrev acT:CT:={ ps:=[.sl (.int .i64),.sl (.int .i64)],pre:=λd=>d.1.length<=500000/\d.2.1.length<=500000,res:=λd=>([.row 3 (.int .i64) (aX (d.1++d.2.1))],.one (.c (.row 0))) }
theorem ahI(l m:List Int) (aA:acT.pre (l,m,())):
 jY ((0:Nat)+List.length (l)) (8:Nat)/\jY (List.length (([]++l))+List.length (m)) (8:Nat)/\List.length (([]++l)++m)<=(1000000:Nat)/\[aj.row (3:TypeId) gZ (aX (l++m))]=[aj.row (3:TypeId) gZ (aX (([]++l)++m))]/\aW.one mD=aW.one mD:=by
 delta gZ mD;have hp:l.length<=500000/\m.length<=500000:=aA;refine⟨by rw[bJ];omega,by rw[bJ];simp;omega,by simp;omega,by simp,rfl⟩
theorem acU:aN aK.gd 203 acT:=
 jG (cx:=aK) (n:=14) (cl:=[(181,ab3)]) ay ⟨Gq,trivial⟩ Tryz.func203 λd hd=>by
  obtain⟨l,m,⟨⟩⟩:=d;exact⟨λ_=>none,cast (by kernel_rfl) (ahI l m hd)⟩
abbrev SX:CT:={ ps:=[.sl (.int .i64),.sl (.int .i64)],pre:=λd=>d.1.length<=1000000/\d.2.1.length<=1000000,res:=λd=>([.row 3 (.int .i64) (aX (jr d.1 d.2.1 false))],.one (.c (.row 0))) }
abbrev anz(l m:List Int):Nat->Option (St->iE):=λk=>match k with
 | 3=>some λ_=>.inv { α:=Nat,slots:=λk=>[(6,.c (.v (.int .i64 k))),(5,.c (.row 0))],res:=λk=>[(0,.row 3 (.int .i64) (jr (l.take k) m false))],inv:=λk=>k<=(l).length,meas:=λk=>(l).length - k,drop:=[7] }
 | _=>none
theorem ahJ(l m:List Int) (aA:SX.pre (l,m,())):
 let z4:=λ(x:Nat)=>jr (List.take x l) m false;let z3:=λ(x:Nat)=>[g0 (aj.row 3 I6 (z4 x))];let z2:=λ(x:Nat)=>0<=(x:Int)/\(x:Int) < (l.length:Int);let z1:=λ(x x':Nat)=>cI ((x:Int)+(1:Int))=cI (x':Int)/\SV.c (SC.row 0)=SV.c (SC.row 0)/\True;(∃x,x<=l.length/\(cI 0=cI (x:Int)/\SV.c (SC.row 0)=SV.c (SC.row 0)/\True)/\[g0 (aj.row 3 I6 [])]=(z3 x))/\∀(x:Nat),x<=l.length->br (decide ((x:Int) < (l.length:Int))) ((z2 x)/\∀(d:Int),l[(x:Int).toNat]?=some d->m.length<=4611686018427387904/\br (!dM m d) ((z2 x)/\∀(d:Int),l[(x:Int).toNat]?=some d->jY (List.length (z4 x)+List.length ([d])) 8/\iR ((x:Int)+(1:Int))/\∃x',x'<=l.length/\(z1 x x')/\[g0 (aj.row 3 I6 (jr (List.take x l) m false++[d]))]=(z3 x')/\l.length - x' < l.length - x) (iR ((x:Int)+(1:Int))/\∃x',x'<=l.length/\(z1 x x')/\(z3 x)=(z3 x')/\l.length - x' < l.length - x)) ((z4 x).length<=1000000/\[aj.row 3 I6 (aX (jr l m false))]=[aj.row 3 I6 (aX (z4 x))]/\aW.one (SV.c (SC.row 0))=aW.one (SV.c (SC.row 0))):=by
 conv=>zeta
 delta cI g0 I6 iR;have hp:l.length<=1000000/\m.length<=1000000:=aA;have hf:∀k,(jr (l.take k) m false).length<=1000000:=λk=>by
  refine oh (X6 _ _) ?_;rw[kH];omega
 refine⟨⟨0,by omega,⟨rfl,rfl,trivial⟩,by simp[jr]⟩,λk hk=>ah.2 ⟨λh=>?_,λh=>?_⟩⟩
 .simp only[dG]at h;refine⟨by omega,λd hd=>?_⟩
  have hd:l[k]?=some d:=by simpa using hd
  have e:jr (l.take (k+1)) m false=jr (l.take k) m false++(if dM m d == false then[d] else[]):=by
   unfold jr;rw[Hf,hd,Qh,Wh]
   congr 1
   simp only[aer,aeu]
  refine⟨by omega,ah.2 ⟨λh2=>?_,λh2=>?_⟩⟩
  all_goals first
   | (
    refine⟨by omega,λd' hd'=>?_⟩
    have hd':l[k]?=some d':=by simpa using hd'
    rw[hd]at hd';cases hd';refine⟨?_,au.2 (by omega),k+1,by omega,⟨by simp,rfl,trivial⟩,?_,by omega⟩
    .have:=hf k;rw[bJ];simp;omega
    .rw[e];revert h2;cases dM m d<;>simp)
   | (
    refine⟨au.2 (by omega),k+1,by omega,⟨by simp,rfl,trivial⟩,?_,by omega⟩
    rw[e];revert h2;cases dM m d<;>simp)
 .simp only[A8]at h;have:=hf l.length;rw[Wj]at this;rw[qV (by omega)];exact⟨by omega,rfl,rfl⟩
theorem acV:aN aK.gd 202 SX:=
 jG (cx:=aK) (n:=30) (cl:=[(172,abZ),(181,ab3)]) ay ⟨Gp,Gq,trivial⟩ Tryz.func202 λd hd=>by
  obtain⟨l,m,⟨⟩⟩:=d;exact⟨anz l m,cast (by kernel_rfl) (ahJ l m hd)⟩
abbrev SY:CT:={ ps:=[.sl (.int .i64),.int .i64],pre:=λd=>d.1.length<=1000000,res:=λd=>([.row 3 (.int .i64) (aX (jr d.1 [d.2.1] false))],.one (.c (.row 0))) }
theorem ahK(l:List Int) (x:Int) (aA:SY.pre (l,x,())):
 let z1:=[aj.row (3:TypeId) gZ (aX (jr l [x] false))];(l.length<=(1000000:Nat)/\[x].length<=(1000000:Nat))/\z1=z1/\aW.one mD=aW.one mD:=by
 conv=>zeta
 delta gZ mD;have hp:l.length<=1000000:=aA;exact⟨⟨hp,by simp⟩,rfl,rfl⟩
theorem acW:aN aK.gd 173 SY:=
 jG (cx:=aK) (n:=9) (cl:=[(202,SX)]) ay ⟨acV,trivial⟩ Tryz.func173 λd hd=>by
  obtain⟨l,x,⟨⟩⟩:=d;exact⟨λ_=>none,cast (by kernel_rfl) (ahK l x hd)⟩
end
end Go.Proofs.YtjhenjhcbcalpaaGreatDoor
