/- Part 9 of the proof. Conditions: the rows'. -/
import Derived.Test.YtjhenjhcbcalpaaGreatDoorB8
set_option linter.unusedSimpArgs false
set_option linter.unusedVariables false
set_option maxRecDepth 1000000
set_option maxHeartbeats 8000000
namespace Go.Proofs.YtjhenjhcbcalpaaGreatDoor
open Go Go.jf
noncomputable section
abbrev JM:CT:={ ps:=[.int .i64],pre:=λd=>True,res:=λd=>([],.one (.c (.v (.int .i64 (aH d.1))))) }
theorem afy(n:Int):
 iU≠(0:Int)/\br (decide (n.tmod iU < (0:Int))) (iR (n.tmod iU+iU)/\br (decide (2147483647 < n.tmod iU+iU)) (iR (n.tmod iU+iU - iU)/\qI (aH n) (n.tmod iU+iU - iU)) (qI (aH n) (n.tmod iU+iU))) (br (decide (2147483647 < n.tmod iU)) (iR (n.tmod iU - iU)/\qI (aH n) (n.tmod iU - iU)) (qI (aH n) (n.tmod iU))):=by
 delta qI iR iU;have hw:=aag n;unfold aaf at hw;have hr:-4294967296 < n.tmod 4294967296/\n.tmod 4294967296 < 4294967296:=by
  rw[EW n (by omega)];split<;>omega
 refine⟨by decide,aO.2 ⟨λh=>⟨ak.2 (by omega),aO.2 ⟨λh2=>⟨ak.2 (by omega),rfl,?_⟩,λh2=>⟨rfl,?_⟩⟩⟩,λh=>aO.2 ⟨λh2=>⟨ak.2 (by omega),rfl,?_⟩,λh2=>⟨rfl,?_⟩⟩⟩⟩
 .rw[if_pos h,if_pos h2]at hw;rw[<-hw]
 .rw[if_pos h,if_neg h2]at hw;rw[<-hw]
 .rw[if_neg h,if_pos h2]at hw;rw[<-hw]
 .rw[if_neg h,if_neg h2]at hw;rw[<-hw]
theorem MX:aU aT.gd 193 JM:=
 jG (cx:=aT) (n:=15) (cl:=[]) au trivial Tryz.func193 λd hd=>by
  obtain⟨n,⟨⟩⟩:=d;exact aJ (λ_=>none) (afy n) (by kernel_rfl)
abbrev aaH:CT:={ ps:=[.bool],pre:=λd=>True,res:=λd=>([],.one (.c (.v (.int .i64 (if d.1=true then 1 else 0))))) }
theorem afz(b:Bool):
 let z1:=if b=true then(1:Int) else(0:Int);br b (qI z1 (1:Int)) (qI z1 (0:Int)):=by
 conv=>zeta
 delta qI;rw[ah];cases b<;>simp
theorem aaI:aU aT.gd 195 aaH:=
 jG (cx:=aT) (n:=4) (cl:=[]) au trivial Tryz.func195 λd hd=>by
  obtain⟨b,⟨⟩⟩:=d;exact aJ (λ_=>none) (afz b) (by kernel_rfl)
abbrev aaJ:CT:={ ps:=[.int .i64,.int .i64,.arr 4 (.int .i64)],pre:=λd=>(-2147483648<=d.1/\d.1<=2147483647)/\(-2147483648<=d.2.1/\d.2.1<=2147483647)/\(∀v∈d.2.2.1,v=0\/v=1),res:=λd=>([],.one (.c (.v (.int .i64 (aH (dS (d.1 % 4294967296).toNat (d.2.1 % 4294967296).toNat d.2.2.1 32)))))) }
abbrev akQ(x y:Int) (rs:List Int):Nat->Option (St->jv):=λk=>match k with
 | 8=>some λ_=>.inv { α:=Nat,slots:=λi=>[(9,.c (.v (.int .i64 i))),(7,.c (.v (.int .i64 (dS (x % 4294967296).toNat (y % 4294967296).toNat rs i)))),(8,.c (.v (.int .i64 ((2 ^ i:Nat):Int)))),(0,.c (.v (.int .i64 (((x % 4294967296).toNat / 2 ^ i:Nat):Int)))),(1,.c (.v (.int .i64 (((y % 4294967296).toNat / 2 ^ i:Nat):Int))))],res:=λ_=>[],inv:=λi=>i<=32,meas:=λi=>32 - i }
 | _=>none
theorem afA(x y:Int) (rs:List Int) (aF:aaJ.pre (x,y,rs,())):
 br (decide (x < (0:Int))) (mY IntKind.i64 (x+(4294967296:Int))/\br (decide (y < (0:Int))) (mY IntKind.i64 (y+(4294967296:Int))/\(∃x_1,x_1<=(32:Nat)/\(SV.c (SC.v (Value.int IntKind.i64 (0:Int)))=SV.c (SC.v (Value.int IntKind.i64 (x_1:Int)))/\SV.c (SC.v (Value.int IntKind.i64 (0:Int)))=SV.c (SC.v (Value.int IntKind.i64 (dS (x % (4294967296:Int)).toNat (y % (4294967296:Int)).toNat rs x_1)))/\SV.c (SC.v (Value.int IntKind.i64 (1:Int)))=SV.c (SC.v (Value.int IntKind.i64 (↑((2:Nat) ^ x_1):Int)))/\SV.c (SC.v (Value.int IntKind.i64 (x+(4294967296:Int))))=SV.c (SC.v (Value.int IntKind.i64 (↑((x % (4294967296:Int)).toNat / (2:Nat) ^ x_1):Int)))/\SV.c (SC.v (Value.int IntKind.i64 (y+(4294967296:Int))))=SV.c (SC.v (Value.int IntKind.i64 (↑((y % (4294967296:Int)).toNat / (2:Nat) ^ x_1):Int)))/\True)/\[(([]:Go.jf.Gd),ay.obj (203:Nat) (Sh.arr (4:Nat) je) rs)]=[(([]:Go.jf.Gd),ay.obj (203:Nat) (Sh.arr (4:Nat) je) rs)])/\∀(x_1:Nat),x_1<=(32:Nat)->br (decide ((x_1:Int) < (32:Int))) ((2:Int)≠(0:Int)/\mY IntKind.i64 ((2:Int) * (↑((x % (4294967296:Int)).toNat / (2:Nat) ^ x_1):Int).tmod (2:Int))/\(2:Int)≠(0:Int)/\mY IntKind.i64 ((2:Int) * (↑((x % (4294967296:Int)).toNat / (2:Nat) ^ x_1):Int).tmod (2:Int)+(↑((y % (4294967296:Int)).toNat / (2:Nat) ^ x_1):Int).tmod (2:Int))/\((0:Int)<=(2:Int) * (↑((x % (4294967296:Int)).toNat / (2:Nat) ^ x_1):Int).tmod (2:Int)+(↑((y % (4294967296:Int)).toNat / (2:Nat) ^ x_1):Int).tmod (2:Int)/\(2:Int) * (↑((x % (4294967296:Int)).toNat / (2:Nat) ^ x_1):Int).tmod (2:Int)+(↑((y % (4294967296:Int)).toNat / (2:Nat) ^ x_1):Int).tmod (2:Int) < (4:Int))/\((2:Int) * (↑((x % (4294967296:Int)).toNat / (2:Nat) ^ x_1):Int).tmod (2:Int)+(↑((y % (4294967296:Int)).toNat / (2:Nat) ^ x_1):Int).tmod (2:Int)).toNat < (4:Nat)/\∀(d:Int),rs[((2:Int) * (↑((x % (4294967296:Int)).toNat / (2:Nat) ^ x_1):Int).tmod (2:Int)+(↑((y % (4294967296:Int)).toNat / (2:Nat) ^ x_1):Int).tmod (2:Int)).toNat]?=some d->mY IntKind.i64 ((↑((2:Nat) ^ x_1):Int) * d)/\mY IntKind.i64 (dS (x % (4294967296:Int)).toNat (y % (4294967296:Int)).toNat rs x_1+(↑((2:Nat) ^ x_1):Int) * d)/\(2:Int)≠(0:Int)/\mY IntKind.i64 ((↑((x % (4294967296:Int)).toNat / (2:Nat) ^ x_1):Int).tdiv (2:Int))/\(2:Int)≠(0:Int)/\mY IntKind.i64 ((↑((y % (4294967296:Int)).toNat / (2:Nat) ^ x_1):Int).tdiv (2:Int))/\mY IntKind.i64 ((2:Int) * (↑((2:Nat) ^ x_1):Int))/\mY IntKind.i64 ((x_1:Int)+(1:Int))/\∃x',x'<=(32:Nat)/\(SV.c (SC.v (Value.int IntKind.i64 ((x_1:Int)+(1:Int))))=SV.c (SC.v (Value.int IntKind.i64 (x':Int)))/\SV.c (SC.v (Value.int IntKind.i64 (dS (x % (4294967296:Int)).toNat (y % (4294967296:Int)).toNat rs x_1+(↑((2:Nat) ^ x_1):Int) * d)))=SV.c (SC.v (Value.int IntKind.i64 (dS (x % (4294967296:Int)).toNat (y % (4294967296:Int)).toNat rs x')))/\SV.c (SC.v (Value.int IntKind.i64 ((2:Int) * (↑((2:Nat) ^ x_1):Int))))=SV.c (SC.v (Value.int IntKind.i64 (↑((2:Nat) ^ x'):Int)))/\SV.c (SC.v (Value.int IntKind.i64 ((↑((x % (4294967296:Int)).toNat / (2:Nat) ^ x_1):Int).tdiv (2:Int))))=SV.c (SC.v (Value.int IntKind.i64 (↑((x % (4294967296:Int)).toNat / (2:Nat) ^ x'):Int)))/\SV.c (SC.v (Value.int IntKind.i64 ((↑((y % (4294967296:Int)).toNat / (2:Nat) ^ x_1):Int).tdiv (2:Int))))=SV.c (SC.v (Value.int IntKind.i64 (↑((y % (4294967296:Int)).toNat / (2:Nat) ^ x'):Int)))/\True)/\[(([]:Go.jf.Gd),ay.obj (203:Nat) (Sh.arr (4:Nat) je) rs)]=[(([]:Go.jf.Gd),ay.obj (203:Nat) (Sh.arr (4:Nat) je) rs)]/\(32:Nat) - x' < (32:Nat) - x_1) (True/\([]:List Go.jf.ay)=[]/\aZ.one (SV.c (SC.v (Value.int IntKind.i64 (aH (dS (Int.toNat (x % (4294967296:je.den))) (Int.toNat (y % (4294967296:je.den))) rs (32:Nat))))))=aZ.one (SV.c (SC.v (Value.int IntKind.i64 (aH (dS (x % (4294967296:Int)).toNat (y % (4294967296:Int)).toNat rs x_1))))))) ((∃x_1,x_1<=(32:Nat)/\(SV.c (SC.v (Value.int IntKind.i64 (0:Int)))=SV.c (SC.v (Value.int IntKind.i64 (x_1:Int)))/\SV.c (SC.v (Value.int IntKind.i64 (0:Int)))=SV.c (SC.v (Value.int IntKind.i64 (dS (x % (4294967296:Int)).toNat (y % (4294967296:Int)).toNat rs x_1)))/\SV.c (SC.v (Value.int IntKind.i64 (1:Int)))=SV.c (SC.v (Value.int IntKind.i64 (↑((2:Nat) ^ x_1):Int)))/\SV.c (SC.v (Value.int IntKind.i64 (x+(4294967296:Int))))=SV.c (SC.v (Value.int IntKind.i64 (↑((x % (4294967296:Int)).toNat / (2:Nat) ^ x_1):Int)))/\SV.c (SC.v (Value.int IntKind.i64 y))=SV.c (SC.v (Value.int IntKind.i64 (↑((y % (4294967296:Int)).toNat / (2:Nat) ^ x_1):Int)))/\True)/\[(([]:Go.jf.Gd),ay.obj (203:Nat) (Sh.arr (4:Nat) je) rs)]=[(([]:Go.jf.Gd),ay.obj (203:Nat) (Sh.arr (4:Nat) je) rs)])/\∀(x_1:Nat),x_1<=(32:Nat)->br (decide ((x_1:Int) < (32:Int))) ((2:Int)≠(0:Int)/\mY IntKind.i64 ((2:Int) * (↑((x % (4294967296:Int)).toNat / (2:Nat) ^ x_1):Int).tmod (2:Int))/\(2:Int)≠(0:Int)/\mY IntKind.i64 ((2:Int) * (↑((x % (4294967296:Int)).toNat / (2:Nat) ^ x_1):Int).tmod (2:Int)+(↑((y % (4294967296:Int)).toNat / (2:Nat) ^ x_1):Int).tmod (2:Int))/\((0:Int)<=(2:Int) * (↑((x % (4294967296:Int)).toNat / (2:Nat) ^ x_1):Int).tmod (2:Int)+(↑((y % (4294967296:Int)).toNat / (2:Nat) ^ x_1):Int).tmod (2:Int)/\(2:Int) * (↑((x % (4294967296:Int)).toNat / (2:Nat) ^ x_1):Int).tmod (2:Int)+(↑((y % (4294967296:Int)).toNat / (2:Nat) ^ x_1):Int).tmod (2:Int) < (4:Int))/\((2:Int) * (↑((x % (4294967296:Int)).toNat / (2:Nat) ^ x_1):Int).tmod (2:Int)+(↑((y % (4294967296:Int)).toNat / (2:Nat) ^ x_1):Int).tmod (2:Int)).toNat < (4:Nat)/\∀(d:Int),rs[((2:Int) * (↑((x % (4294967296:Int)).toNat / (2:Nat) ^ x_1):Int).tmod (2:Int)+(↑((y % (4294967296:Int)).toNat / (2:Nat) ^ x_1):Int).tmod (2:Int)).toNat]?=some d->mY IntKind.i64 ((↑((2:Nat) ^ x_1):Int) * d)/\mY IntKind.i64 (dS (x % (4294967296:Int)).toNat (y % (4294967296:Int)).toNat rs x_1+(↑((2:Nat) ^ x_1):Int) * d)/\(2:Int)≠(0:Int)/\mY IntKind.i64 ((↑((x % (4294967296:Int)).toNat / (2:Nat) ^ x_1):Int).tdiv (2:Int))/\(2:Int)≠(0:Int)/\mY IntKind.i64 ((↑((y % (4294967296:Int)).toNat / (2:Nat) ^ x_1):Int).tdiv (2:Int))/\mY IntKind.i64 ((2:Int) * (↑((2:Nat) ^ x_1):Int))/\mY IntKind.i64 ((x_1:Int)+(1:Int))/\∃x',x'<=(32:Nat)/\(SV.c (SC.v (Value.int IntKind.i64 ((x_1:Int)+(1:Int))))=SV.c (SC.v (Value.int IntKind.i64 (x':Int)))/\SV.c (SC.v (Value.int IntKind.i64 (dS (x % (4294967296:Int)).toNat (y % (4294967296:Int)).toNat rs x_1+(↑((2:Nat) ^ x_1):Int) * d)))=SV.c (SC.v (Value.int IntKind.i64 (dS (x % (4294967296:Int)).toNat (y % (4294967296:Int)).toNat rs x')))/\SV.c (SC.v (Value.int IntKind.i64 ((2:Int) * (↑((2:Nat) ^ x_1):Int))))=SV.c (SC.v (Value.int IntKind.i64 (↑((2:Nat) ^ x'):Int)))/\SV.c (SC.v (Value.int IntKind.i64 ((↑((x % (4294967296:Int)).toNat / (2:Nat) ^ x_1):Int).tdiv (2:Int))))=SV.c (SC.v (Value.int IntKind.i64 (↑((x % (4294967296:Int)).toNat / (2:Nat) ^ x'):Int)))/\SV.c (SC.v (Value.int IntKind.i64 ((↑((y % (4294967296:Int)).toNat / (2:Nat) ^ x_1):Int).tdiv (2:Int))))=SV.c (SC.v (Value.int IntKind.i64 (↑((y % (4294967296:Int)).toNat / (2:Nat) ^ x'):Int)))/\True)/\[(([]:Go.jf.Gd),ay.obj (203:Nat) (Sh.arr (4:Nat) je) rs)]=[(([]:Go.jf.Gd),ay.obj (203:Nat) (Sh.arr (4:Nat) je) rs)]/\(32:Nat) - x' < (32:Nat) - x_1) (True/\([]:List Go.jf.ay)=[]/\aZ.one (SV.c (SC.v (Value.int IntKind.i64 (aH (dS (Int.toNat (x % (4294967296:je.den))) (Int.toNat (y % (4294967296:je.den))) rs (32:Nat))))))=aZ.one (SV.c (SC.v (Value.int IntKind.i64 (aH (dS (x % (4294967296:Int)).toNat (y % (4294967296:Int)).toNat rs x_1)))))))) (br (decide (y < (0:Int))) (mY IntKind.i64 (y+(4294967296:Int))/\(∃x_1,x_1<=(32:Nat)/\(SV.c (SC.v (Value.int IntKind.i64 (0:Int)))=SV.c (SC.v (Value.int IntKind.i64 (x_1:Int)))/\SV.c (SC.v (Value.int IntKind.i64 (0:Int)))=SV.c (SC.v (Value.int IntKind.i64 (dS (x % (4294967296:Int)).toNat (y % (4294967296:Int)).toNat rs x_1)))/\SV.c (SC.v (Value.int IntKind.i64 (1:Int)))=SV.c (SC.v (Value.int IntKind.i64 (↑((2:Nat) ^ x_1):Int)))/\SV.c (SC.v (Value.int IntKind.i64 x))=SV.c (SC.v (Value.int IntKind.i64 (↑((x % (4294967296:Int)).toNat / (2:Nat) ^ x_1):Int)))/\SV.c (SC.v (Value.int IntKind.i64 (y+(4294967296:Int))))=SV.c (SC.v (Value.int IntKind.i64 (↑((y % (4294967296:Int)).toNat / (2:Nat) ^ x_1):Int)))/\True)/\[(([]:Go.jf.Gd),ay.obj (203:Nat) (Sh.arr (4:Nat) je) rs)]=[(([]:Go.jf.Gd),ay.obj (203:Nat) (Sh.arr (4:Nat) je) rs)])/\∀(x_1:Nat),x_1<=(32:Nat)->br (decide ((x_1:Int) < (32:Int))) ((2:Int)≠(0:Int)/\mY IntKind.i64 ((2:Int) * (↑((x % (4294967296:Int)).toNat / (2:Nat) ^ x_1):Int).tmod (2:Int))/\(2:Int)≠(0:Int)/\mY IntKind.i64 ((2:Int) * (↑((x % (4294967296:Int)).toNat / (2:Nat) ^ x_1):Int).tmod (2:Int)+(↑((y % (4294967296:Int)).toNat / (2:Nat) ^ x_1):Int).tmod (2:Int))/\((0:Int)<=(2:Int) * (↑((x % (4294967296:Int)).toNat / (2:Nat) ^ x_1):Int).tmod (2:Int)+(↑((y % (4294967296:Int)).toNat / (2:Nat) ^ x_1):Int).tmod (2:Int)/\(2:Int) * (↑((x % (4294967296:Int)).toNat / (2:Nat) ^ x_1):Int).tmod (2:Int)+(↑((y % (4294967296:Int)).toNat / (2:Nat) ^ x_1):Int).tmod (2:Int) < (4:Int))/\((2:Int) * (↑((x % (4294967296:Int)).toNat / (2:Nat) ^ x_1):Int).tmod (2:Int)+(↑((y % (4294967296:Int)).toNat / (2:Nat) ^ x_1):Int).tmod (2:Int)).toNat < (4:Nat)/\∀(d:Int),rs[((2:Int) * (↑((x % (4294967296:Int)).toNat / (2:Nat) ^ x_1):Int).tmod (2:Int)+(↑((y % (4294967296:Int)).toNat / (2:Nat) ^ x_1):Int).tmod (2:Int)).toNat]?=some d->mY IntKind.i64 ((↑((2:Nat) ^ x_1):Int) * d)/\mY IntKind.i64 (dS (x % (4294967296:Int)).toNat (y % (4294967296:Int)).toNat rs x_1+(↑((2:Nat) ^ x_1):Int) * d)/\(2:Int)≠(0:Int)/\mY IntKind.i64 ((↑((x % (4294967296:Int)).toNat / (2:Nat) ^ x_1):Int).tdiv (2:Int))/\(2:Int)≠(0:Int)/\mY IntKind.i64 ((↑((y % (4294967296:Int)).toNat / (2:Nat) ^ x_1):Int).tdiv (2:Int))/\mY IntKind.i64 ((2:Int) * (↑((2:Nat) ^ x_1):Int))/\mY IntKind.i64 ((x_1:Int)+(1:Int))/\∃x',x'<=(32:Nat)/\(SV.c (SC.v (Value.int IntKind.i64 ((x_1:Int)+(1:Int))))=SV.c (SC.v (Value.int IntKind.i64 (x':Int)))/\SV.c (SC.v (Value.int IntKind.i64 (dS (x % (4294967296:Int)).toNat (y % (4294967296:Int)).toNat rs x_1+(↑((2:Nat) ^ x_1):Int) * d)))=SV.c (SC.v (Value.int IntKind.i64 (dS (x % (4294967296:Int)).toNat (y % (4294967296:Int)).toNat rs x')))/\SV.c (SC.v (Value.int IntKind.i64 ((2:Int) * (↑((2:Nat) ^ x_1):Int))))=SV.c (SC.v (Value.int IntKind.i64 (↑((2:Nat) ^ x'):Int)))/\SV.c (SC.v (Value.int IntKind.i64 ((↑((x % (4294967296:Int)).toNat / (2:Nat) ^ x_1):Int).tdiv (2:Int))))=SV.c (SC.v (Value.int IntKind.i64 (↑((x % (4294967296:Int)).toNat / (2:Nat) ^ x'):Int)))/\SV.c (SC.v (Value.int IntKind.i64 ((↑((y % (4294967296:Int)).toNat / (2:Nat) ^ x_1):Int).tdiv (2:Int))))=SV.c (SC.v (Value.int IntKind.i64 (↑((y % (4294967296:Int)).toNat / (2:Nat) ^ x'):Int)))/\True)/\[(([]:Go.jf.Gd),ay.obj (203:Nat) (Sh.arr (4:Nat) je) rs)]=[(([]:Go.jf.Gd),ay.obj (203:Nat) (Sh.arr (4:Nat) je) rs)]/\(32:Nat) - x' < (32:Nat) - x_1) (True/\([]:List Go.jf.ay)=[]/\aZ.one (SV.c (SC.v (Value.int IntKind.i64 (aH (dS (Int.toNat (x % (4294967296:je.den))) (Int.toNat (y % (4294967296:je.den))) rs (32:Nat))))))=aZ.one (SV.c (SC.v (Value.int IntKind.i64 (aH (dS (x % (4294967296:Int)).toNat (y % (4294967296:Int)).toNat rs x_1))))))) ((∃x_1,x_1<=(32:Nat)/\(SV.c (SC.v (Value.int IntKind.i64 (0:Int)))=SV.c (SC.v (Value.int IntKind.i64 (x_1:Int)))/\SV.c (SC.v (Value.int IntKind.i64 (0:Int)))=SV.c (SC.v (Value.int IntKind.i64 (dS (x % (4294967296:Int)).toNat (y % (4294967296:Int)).toNat rs x_1)))/\SV.c (SC.v (Value.int IntKind.i64 (1:Int)))=SV.c (SC.v (Value.int IntKind.i64 (↑((2:Nat) ^ x_1):Int)))/\SV.c (SC.v (Value.int IntKind.i64 x))=SV.c (SC.v (Value.int IntKind.i64 (↑((x % (4294967296:Int)).toNat / (2:Nat) ^ x_1):Int)))/\SV.c (SC.v (Value.int IntKind.i64 y))=SV.c (SC.v (Value.int IntKind.i64 (↑((y % (4294967296:Int)).toNat / (2:Nat) ^ x_1):Int)))/\True)/\[(([]:Go.jf.Gd),ay.obj (203:Nat) (Sh.arr (4:Nat) je) rs)]=[(([]:Go.jf.Gd),ay.obj (203:Nat) (Sh.arr (4:Nat) je) rs)])/\∀(x_1:Nat),x_1<=(32:Nat)->br (decide ((x_1:Int) < (32:Int))) ((2:Int)≠(0:Int)/\mY IntKind.i64 ((2:Int) * (↑((x % (4294967296:Int)).toNat / (2:Nat) ^ x_1):Int).tmod (2:Int))/\(2:Int)≠(0:Int)/\mY IntKind.i64 ((2:Int) * (↑((x % (4294967296:Int)).toNat / (2:Nat) ^ x_1):Int).tmod (2:Int)+(↑((y % (4294967296:Int)).toNat / (2:Nat) ^ x_1):Int).tmod (2:Int))/\((0:Int)<=(2:Int) * (↑((x % (4294967296:Int)).toNat / (2:Nat) ^ x_1):Int).tmod (2:Int)+(↑((y % (4294967296:Int)).toNat / (2:Nat) ^ x_1):Int).tmod (2:Int)/\(2:Int) * (↑((x % (4294967296:Int)).toNat / (2:Nat) ^ x_1):Int).tmod (2:Int)+(↑((y % (4294967296:Int)).toNat / (2:Nat) ^ x_1):Int).tmod (2:Int) < (4:Int))/\((2:Int) * (↑((x % (4294967296:Int)).toNat / (2:Nat) ^ x_1):Int).tmod (2:Int)+(↑((y % (4294967296:Int)).toNat / (2:Nat) ^ x_1):Int).tmod (2:Int)).toNat < (4:Nat)/\∀(d:Int),rs[((2:Int) * (↑((x % (4294967296:Int)).toNat / (2:Nat) ^ x_1):Int).tmod (2:Int)+(↑((y % (4294967296:Int)).toNat / (2:Nat) ^ x_1):Int).tmod (2:Int)).toNat]?=some d->mY IntKind.i64 ((↑((2:Nat) ^ x_1):Int) * d)/\mY IntKind.i64 (dS (x % (4294967296:Int)).toNat (y % (4294967296:Int)).toNat rs x_1+(↑((2:Nat) ^ x_1):Int) * d)/\(2:Int)≠(0:Int)/\mY IntKind.i64 ((↑((x % (4294967296:Int)).toNat / (2:Nat) ^ x_1):Int).tdiv (2:Int))/\(2:Int)≠(0:Int)/\mY IntKind.i64 ((↑((y % (4294967296:Int)).toNat / (2:Nat) ^ x_1):Int).tdiv (2:Int))/\mY IntKind.i64 ((2:Int) * (↑((2:Nat) ^ x_1):Int))/\mY IntKind.i64 ((x_1:Int)+(1:Int))/\∃x',x'<=(32:Nat)/\(SV.c (SC.v (Value.int IntKind.i64 ((x_1:Int)+(1:Int))))=SV.c (SC.v (Value.int IntKind.i64 (x':Int)))/\SV.c (SC.v (Value.int IntKind.i64 (dS (x % (4294967296:Int)).toNat (y % (4294967296:Int)).toNat rs x_1+(↑((2:Nat) ^ x_1):Int) * d)))=SV.c (SC.v (Value.int IntKind.i64 (dS (x % (4294967296:Int)).toNat (y % (4294967296:Int)).toNat rs x')))/\SV.c (SC.v (Value.int IntKind.i64 ((2:Int) * (↑((2:Nat) ^ x_1):Int))))=SV.c (SC.v (Value.int IntKind.i64 (↑((2:Nat) ^ x'):Int)))/\SV.c (SC.v (Value.int IntKind.i64 ((↑((x % (4294967296:Int)).toNat / (2:Nat) ^ x_1):Int).tdiv (2:Int))))=SV.c (SC.v (Value.int IntKind.i64 (↑((x % (4294967296:Int)).toNat / (2:Nat) ^ x'):Int)))/\SV.c (SC.v (Value.int IntKind.i64 ((↑((y % (4294967296:Int)).toNat / (2:Nat) ^ x_1):Int).tdiv (2:Int))))=SV.c (SC.v (Value.int IntKind.i64 (↑((y % (4294967296:Int)).toNat / (2:Nat) ^ x'):Int)))/\True)/\[(([]:Go.jf.Gd),ay.obj (203:Nat) (Sh.arr (4:Nat) je) rs)]=[(([]:Go.jf.Gd),ay.obj (203:Nat) (Sh.arr (4:Nat) je) rs)]/\(32:Nat) - x' < (32:Nat) - x_1) (True/\([]:List Go.jf.ay)=[]/\aZ.one (SV.c (SC.v (Value.int IntKind.i64 (aH (dS (Int.toNat (x % (4294967296:je.den))) (Int.toNat (y % (4294967296:je.den))) rs (32:Nat))))))=aZ.one (SV.c (SC.v (Value.int IntKind.i64 (aH (dS (x % (4294967296:Int)).toNat (y % (4294967296:Int)).toNat rs x_1)))))))):=by
 delta je;obtain⟨hx,hy,hv⟩:(-2147483648<=x/\x<=2147483647)/\(-2147483648<=y/\y<=2147483647)/\(∀v∈rs,v=0\/v=1):=aF;have vi:∀{a b:Int},a=b->SV.c (SC.v (Value.int .i64 a))=SV.c (SC.v (Value.int .i64 b)):=λh=>by rw[h]
 have x0:∀(z:Int),((z % 4294967296).toNat / 2 ^ 0:Nat)=(z % 4294967296).toNat:=λz=>by simp
 have step:∀i:Nat,i<=32->br (decide ((i:Int) < 32)) ((2:Int)≠0/\mY .i64 (2 * ((((x % 4294967296).toNat / 2 ^ i:Nat):Int)).tmod 2)/\(2:Int)≠0/\mY .i64 (2 * ((((x % 4294967296).toNat / 2 ^ i:Nat):Int)).tmod 2+((((y % 4294967296).toNat / 2 ^ i:Nat):Int)).tmod 2)/\(0<=2 * ((((x % 4294967296).toNat / 2 ^ i:Nat):Int)).tmod 2+((((y % 4294967296).toNat / 2 ^ i:Nat):Int)).tmod 2/\2 * ((((x % 4294967296).toNat / 2 ^ i:Nat):Int)).tmod 2+((((y % 4294967296).toNat / 2 ^ i:Nat):Int)).tmod 2 < 4)/\(2 * ((((x % 4294967296).toNat / 2 ^ i:Nat):Int)).tmod 2+((((y % 4294967296).toNat / 2 ^ i:Nat):Int)).tmod 2).toNat < 4 /\
  ∀(d:Int),rs[(2 * ((((x % 4294967296).toNat / 2 ^ i:Nat):Int)).tmod 2+((((y % 4294967296).toNat / 2 ^ i:Nat):Int)).tmod 2).toNat]?=some d->mY .i64 (((2 ^ i:Nat):Int) * d)/\mY .i64 (dS (x % 4294967296).toNat (y % 4294967296).toNat rs i+((2 ^ i:Nat):Int) * d)/\(2:Int)≠0/\mY .i64 ((((x % 4294967296).toNat / 2 ^ i:Nat):Int).tdiv 2)/\(2:Int)≠0/\mY .i64 ((((y % 4294967296).toNat / 2 ^ i:Nat):Int).tdiv 2)/\mY .i64 (2 * ((2 ^ i:Nat):Int))/\mY .i64 ((i:Int)+1) /\
    ∃x':Nat,x'<=32/\(SV.c (SC.v (Value.int .i64 ((i:Int)+1)))=SV.c (SC.v (Value.int .i64 (x':Int)))/\SV.c (SC.v (Value.int .i64 (dS (x % 4294967296).toNat (y % 4294967296).toNat rs i+((2 ^ i:Nat):Int) * d)))=SV.c (SC.v (Value.int .i64 (dS (x % 4294967296).toNat (y % 4294967296).toNat rs x')))/\SV.c (SC.v (Value.int .i64 (2 * ((2 ^ i:Nat):Int))))=SV.c (SC.v (Value.int .i64 ((2 ^ x':Nat):Int)))/\SV.c (SC.v (Value.int .i64 ((((x % 4294967296).toNat / 2 ^ i:Nat):Int).tdiv 2)))=SV.c (SC.v (Value.int .i64 (((x % 4294967296).toNat / 2 ^ x':Nat):Int)))/\SV.c (SC.v (Value.int .i64 ((((y % 4294967296).toNat / 2 ^ i:Nat):Int).tdiv 2)))=SV.c (SC.v (Value.int .i64 (((y % 4294967296).toNat / 2 ^ x':Nat):Int)))/\True)/\[(([]:Go.jf.Gd),ay.obj 203 (.arr 4 (.int .i64)) rs)]=[(([]:Go.jf.Gd),ay.obj 203 (.arr 4 (.int .i64)) rs)]/\32 - x' < 32 - i) (True/\([]:List Go.jf.ay)=[]/\aZ.one (SV.c (SC.v (Value.int .i64 (aH (dS (x % 4294967296).toNat (y % 4294967296).toNat rs 32)))))=aZ.one (SV.c (SC.v (Value.int .i64 (aH (dS (x % 4294967296).toNat (y % 4294967296).toNat rs i)))))):=by
  intro i hi;have hr:=Hw (X:=(x % 4294967296).toNat) (Y:=(y % 4294967296).toNat) hv i;have hX:(x % 4294967296).toNat < 4294967296:=by omega
  have hY:(y % 4294967296).toNat < 4294967296:=by omega
  have hb:dS (x % 4294967296).toNat (y % 4294967296).toNat rs (i+1)=dS (x % 4294967296).toNat (y % 4294967296).toNat rs i+2 ^ i * rs.getD (2 * ((x % 4294967296).toNat / 2 ^ i % 2)+(y % 4294967296).toNat / 2 ^ i % 2) 0:=rfl;generalize (x % 4294967296).toNat=X at *;generalize (y % 4294967296).toNat=Y at *;have hc:(2:Int) ^ i=((2 ^ i:Nat):Int):=by push_cast;rfl
  rw[hc]at hr hb;have hu:X / 2 ^ (i+1)=X / 2 ^ i / 2:=by rw[Nat.pow_succ,Nat.div_div_eq_div_mul]
  have hw:Y / 2 ^ (i+1)=Y / 2 ^ i / 2:=by rw[Nat.pow_succ,Nat.div_div_eq_div_mul]
  have lx:X / 2 ^ i<=X:=Nat.div_le_self _ _;have ly:Y / 2 ^ i<=Y:=Nat.div_le_self _ _;have hp1:2 ^ (i+1)=2 * 2 ^ i:=by rw[Nat.pow_succ];omega
  refine aO.2 ⟨λh=>?_,λh=>⟨trivial,rfl,?_⟩⟩
  .have hp:2 ^ i<=2147483648:=by
    have:=Nat.pow_le_pow_right (n:=2) (by omega) (show i<=31 by omega)
    simpa using this
   generalize X / 2 ^ i=u at *;generalize Y / 2 ^ i=w at *;have t1:((u:Int)).tmod 2=((u % 2:Nat):Int):=by rw[ahN (by omega)];omega
   have t2:((w:Int)).tmod 2=((w % 2:Nat):Int):=by rw[ahN (by omega)];omega
   have t3:((u:Int)).tdiv 2=((u / 2:Nat):Int):=by rw[A71 (by omega)];omega
   have t4:((w:Int)).tdiv 2=((w / 2:Nat):Int):=by rw[A71 (by omega)];omega
   rw[t1,t2,t3,t4];have ei:(2 * ((u % 2:Nat):Int)+((w % 2:Nat):Int)).toNat=2 * (u % 2)+w % 2:=by omega
   rw[ei];refine⟨by decide,ak.2 (by omega),by decide,ak.2 (by omega),by omega,by omega,λd hd=>?_⟩
   have hd1:=hv d (iy hd);have hg:rs.getD (2 * (u % 2)+w % 2) 0=d:=by rw[J5,hd];rfl
   rw[hg]at hb;have hm:((2 ^ i:Nat):Int) * d=0\/((2 ^ i:Nat):Int) * d=((2 ^ i:Nat):Int):=by
    rcases hd1 with e | e
    .left;rw[e];simp
    .right;rw[e];simp
   refine⟨ak.2 (by omega),ak.2 (by omega),by decide,ak.2 (by omega),by decide,ak.2 (by omega),ak.2 (by omega),ak.2 (by omega),i+1,by omega,⟨rfl,vi hb.symm,vi (by rw[hp1];omega),vi (by rw[hu]),vi (by rw[hw]),trivial⟩,rfl,by omega⟩
  .have:i=32:=by omega
   rw[this]
 refine aO.2 ⟨λh=>⟨ak.2 (by omega),aO.2 ⟨λh2=>⟨ak.2 (by omega),⟨0,by omega,⟨rfl,rfl,rfl,vi (by rw[x0];omega),vi (by rw[x0];omega),trivial⟩,rfl⟩,step⟩,λh2=>⟨⟨0,by omega,⟨rfl,rfl,rfl,vi (by rw[x0];omega),vi (by rw[x0];omega),trivial⟩,rfl⟩,step⟩⟩⟩,
  λh=>aO.2 ⟨λh2=>⟨ak.2 (by omega),⟨0,by omega,⟨rfl,rfl,rfl,vi (by rw[x0];omega),vi (by rw[x0];omega),trivial⟩,rfl⟩,step⟩,λh2=>⟨⟨0,by omega,⟨rfl,rfl,rfl,vi (by rw[x0];omega),vi (by rw[x0];omega),trivial⟩,rfl⟩,step⟩⟩⟩
theorem aaK:aU aT.gd 194 aaJ:=
 dQ (cx:=aT) (n:=42) (cl:=[(193,JM)]) (rc:=[]) au ⟨MX,trivial⟩ Tryz.func194 λd hd=>by
  obtain⟨x,y,rs,⟨⟩⟩:=d;exact aJ (akQ x y rs) (afA x y rs hd) (by kernel_rfl)
abbrev aaL:CT:={ ps:=[.int .i64,.int .i64,.int .i64],pre:=λd=>True,res:=λd=>([],.gV [.c (.v (.int .i64 (dZ d.1 d.2.1 d.2.2.1).1)),.c (.v (.int .i64 (dZ d.1 d.2.1 d.2.2.1).2))]) }
theorem afB(f a b:Int):
 let z1:=[cI ((dZ f a b).fst),cI ((dZ f a b).snd)];let z2:=(-2147483648)<=aH a/\aH a<=2147483647;let z3:=(-2147483648)<=aH b/\aH b<=2147483647;let z4:=[(0:Int),(0:Int),(0:Int),(1:Int)];let z7:=Int.toNat (aH a % iU);let z8:=Int.toNat (aH b % iU);let z5:=[(0:Int),(1:Int),(1:Int),(1:Int)];let z6:=[(0:Int),(1:Int),(1:Int),(0:Int)];True/\True/\br (decide (f=1)) (iR (aH a+aH b)/\True/\rT z1 [cI (aH (aH a+aH b)),cI 0]) (br (decide (f=2)) (iR (aH a - aH b)/\True/\rT z1 [cI (aH (aH a - aH b)),cI 0]) (br (decide (f=3)) (iR (aH a * aH b)/\True/\rT z1 [cI (aH (aH a * aH b)),cI 0]) (br (decide (f=4)) ((z2/\z3/\∀(v:Int),v∈z4->v=0\/v=1)/\rT z1 [cI (aH (dS z7 z8 z4 32)),cI 0]) (br (decide (f=5)) ((z2/\z3/\∀(v:Int),v∈z5->v=0\/v=1)/\rT z1 [cI (aH (dS z7 z8 z5 32)),cI 0]) (br (decide (f=6)) ((z2/\z3/\∀(v:Int),v∈z6->v=0\/v=1)/\rT z1 [cI (aH (dS z7 z8 z6 32)),cI 0]) (br (decide (f=7)) (True/\rT z1 [cI (if decide (aH a=aH b)=true then(1:Int) else(0:Int)),cI 0]) (br (decide (f=8)) (True/\rT z1 [cI (if(!decide (aH a=aH b))=true then(1:Int) else(0:Int)),cI 0]) (br (decide (f=9)) (True/\rT z1 [cI (if decide (aH a < aH b)=true then(1:Int) else(0:Int)),cI 0]) (br (decide (f=10)) (True/\rT z1 [cI (if decide (aH a<=aH b)=true then(1:Int) else(0:Int)),cI 0]) (rT z1 [cI 0,cI 8])))))))))):=by
 conv=>zeta
 delta cI rT iR iU;have ha:=og a;have hb:=og b;have hm:=ahA ha hb;have b1:=aah (x:=aH a) (y:=aH b);have b2:=afd (x:=aH a) (y:=aH b);have b3:=aai (x:=aH a) (y:=aH b);unfold dZ
 refine⟨trivial,trivial,aO.2 ⟨λh=>⟨ak.2 (by omega),trivial,rfl,by rw[if_pos h]⟩,λn1=>aO.2 ⟨λh=>⟨ak.2 (by omega),trivial,rfl,by rw[if_neg n1,if_pos h]⟩,λn2=>aO.2 ⟨λh=>⟨ak.2 (by omega),trivial,rfl,by rw[if_neg n1,if_neg n2,if_pos h]⟩,λn3=>aO.2 ⟨λh=>⟨⟨ha,hb,λv hv=>by simp at hv;omega⟩,rfl,by rw[if_neg n1,if_neg n2,if_neg n3,if_pos h];exact rJ (λz=>aZ.gV [SV.c (SC.v (Value.int .i64 z)),SV.c (SC.v (Value.int .i64 0))]) b1.symm⟩,λn4=>aO.2 ⟨λh=>⟨⟨ha,hb,λv hv=>by simp at hv;omega⟩,rfl,by rw[if_neg n1,if_neg n2,if_neg n3,if_neg n4,if_pos h];exact rJ (λz=>aZ.gV [SV.c (SC.v (Value.int .i64 z)),SV.c (SC.v (Value.int .i64 0))]) b2.symm⟩,λn5=>aO.2 ⟨λh=>⟨⟨ha,hb,λv hv=>by simp at hv;omega⟩,rfl,by rw[if_neg n1,if_neg n2,if_neg n3,if_neg n4,if_neg n5,if_pos h];exact rJ (λz=>aZ.gV [SV.c (SC.v (Value.int .i64 z)),SV.c (SC.v (Value.int .i64 0))]) b3.symm⟩,λn6=>aO.2 ⟨λh=>⟨trivial,rfl,by simp[h]⟩,λn7=>aO.2 ⟨λh=>⟨trivial,rfl,by simp[h]⟩,λn8=>aO.2 ⟨λh=>⟨trivial,rfl,by simp[h]⟩,λn9=>aO.2 ⟨λh=>⟨trivial,rfl,by simp[h]⟩,λn10=>⟨rfl,by simp[n1,n2,n3,n4,n5,n6,n7,n8,n9,n10]⟩⟩⟩⟩⟩⟩⟩⟩⟩⟩⟩⟩
theorem aaM:aU aT.gd 159 aaL:=
 dQ (cx:=aT) (n:=75) (cl:=[(193,JM),(195,aaH),(194,aaJ)]) (rc:=[]) au ⟨MX,aaI,aaK,trivial⟩ Tryz.func159 λd hd=>by
  obtain⟨f,a,b,⟨⟩⟩:=d;exact aJ (λ_=>none) (afB f a b) (by kernel_rfl)
abbrev aaN:CT:={ ps:=[.int .i64],pre:=λd=>True,res:=λd=>([],vB (jw d.1)) }
theorem afC(op:Int):
 qB (jw op) (decide (8<=op) && decide (op<=22)):=by
 delta qB;refine⟨rfl,?_⟩;rw[show jw op=(decide (8<=op) && decide (op<=22)) by unfold jw;rw[FK];simp]
theorem aaO:aU aT.gd 152 aaN:=
 jG (cx:=aT) (n:=9) (cl:=[]) au trivial Tryz.func152 λd hd=>by
  obtain⟨op,⟨⟩⟩:=d;exact aJ (λ_=>none) (afC op) (by kernel_rfl)
abbrev MZ:CT:={ ps:=[.int .i64],pre:=λd=>d.1<=9223372036854775807,res:=λd=>([],vB (decide (0<=aV d.1))) }
abbrev an2(id:Int):Nat->Option (St->jv):=λk=>match k with
 | 2=>some λ_=>.inv { α:=Nat×Int,slots:=λx=>[(3,.c (.v (.int .i64 x.1))),(0,.c (.v (.int .i64 x.2)))],res:=λ_=>[],inv:=λx=>x.1<=5/\x.2<=9223372036854775807/\aV id=if x.2 < 0 then -1 else dU (5 - x.1) x.1 x.2,meas:=λx=>5 - x.1 }
 | _=>none
theorem akR(id:Int) (aF:MZ.pre (id,())):
 let z1:=λ(x:Nat×Int)=>x.fst<=5/\x.snd<=9223372036854775807/\aV id=if x.snd < 0 then(-1:Int) else dU (5 - x.fst) (x.fst:Int) x.snd;let z2:=qB (decide (0<=aV id)) false;(∃(x:Nat×Int),(z1 x)/\(cI 0=cI (x.fst:Int)/\cI id=cI x.snd/\True)/\([]:List dJ)=[])/\∀(x:Nat×Int),(z1 x)->br (decide ((x.fst:Int)<=(4:Int))) (br (decide (x.snd < 0)) z2 (br (decide (x.snd < 8)) (qB (decide (0<=aV id)) true) ((8:Int)≠(0:Int)/\br (decide (7<=x.snd.tmod (8:Int))) z2 ((8:Int)≠(0:Int)/\iR (x.snd.tdiv (8:Int))/\iR (x.snd.tdiv (8:Int) - (1:Int))/\iR ((x.fst:Int)+(1:Int))/\∃(x':Nat×Int),(z1 x')/\(cI ((x.fst:Int)+(1:Int))=cI (x'.fst:Int)/\cI (x.snd.tdiv (8:Int) - (1:Int))=cI x'.snd/\True)/\([]:List dJ)=[]/\5 - x'.fst < 5 - x.fst)))) z2:=by
 conv=>zeta
 delta dJ cI qB iR;have hp:id<=9223372036854775807:=aF;refine⟨⟨(0,id),⟨by omega,hp,rfl⟩,⟨rfl,rfl,trivial⟩,rfl⟩,λx hx=>?_⟩
 obtain⟨k,v⟩:=x;obtain⟨x1,x2,x3⟩:=hx;have x1:k<=5:=x1;have x2:v<=9223372036854775807:=x2;have x3:aV id=if v < 0 then -1 else dU (5 - k) k v:=x3
 refine aO.2 ⟨λh=>aO.2 ⟨λh2=>?_,λh2=>aO.2 ⟨λh3=>?_,λh3=>⟨by decide,aO.2 ⟨λh4=>?_,λh4=>?_⟩⟩⟩⟩,λh=>?_⟩
 .have h2:v < 0:=h2;rw[if_pos h2]at x3;rw[x3];exact⟨rfl,rfl⟩
 all_goals first | (have h:k<=4:=by(have:(k:Int)<=4:=h);omega) | skip
 all_goals first | (have h2:¬v < 0:=h2) | skip
 .have h3:v < 8:=h3;rw[if_neg h2]at x3;obtain⟨m,hm⟩:∃m,5 - k=m+1:=⟨4 - k,by omega⟩
  rw[hm,dU,if_pos h3]at x3;rw[x3,show decide ((0:Int)<=k)=true from wX (by omega)];exact⟨rfl,rfl⟩
 .have h3:¬v < 8:=h3;have h4:7<=v.tmod 8:=h4;rw[if_neg h2]at x3;obtain⟨m,hm⟩:∃m,5 - k=m+1:=⟨4 - k,by omega⟩
  rw[hm,dU,if_neg h3,if_pos h4]at x3;rw[x3];exact⟨rfl,rfl⟩
 .have h3:¬v < 8:=h3;have h4:¬7<=v.tmod 8:=h4;rw[if_neg h2]at x3;obtain⟨m,hm⟩:∃m,5 - k=m+1:=⟨4 - k,by omega⟩
  rw[hm,dU,if_neg h3,if_neg h4]at x3;have e:v.tdiv 8=v / 8:=A71 (by omega)
  refine⟨by decide,ak.2 (show(-9223372036854775808:Int)<=v.tdiv 8/\v.tdiv 8<=9223372036854775807 by omega),ak.2 (show(-9223372036854775808:Int)<=v.tdiv 8 - 1/\v.tdiv 8 - 1<=9223372036854775807 by omega),ak.2 (show(-9223372036854775808:Int)<=(k:Int)+1/\(k:Int)+1<=9223372036854775807 by omega),(k+1,v.tdiv 8 - 1),⟨show k+1<=5 by omega,show v.tdiv 8 - 1<=9223372036854775807 by omega,?_⟩,⟨rfl,rfl,trivial⟩,rfl,show 5 - (k+1) < 5 - k by omega⟩
  show aV id=if v.tdiv 8 - 1 < 0 then -1 else dU (5 - (k+1)) ((k+1:Nat):Int) (v.tdiv 8 - 1)
  rw[if_neg (by omega),x3,show 5 - (k+1)=m by omega];rfl
 .have h:¬k<=4:=by
   have:¬(k:Int)<=4:=h;omega
  rw[show 5 - k=0 by omega]at x3
  have:aV id = -1:=by rw[x3];split<;>rfl
  rw[this];exact⟨rfl,rfl⟩
theorem JO:aU aT.gd 80 MZ:=
 jG (cx:=aT) (n:=18) (cl:=[]) au trivial Tryz.func80 λd hd=>by
  obtain⟨id,⟨⟩⟩:=d;exact aJ (an2 id) (akR id hd) (by kernel_rfl)
abbrev Sr:CT:={ ps:=[.int .i64],pre:=λd=>d.1<=9223372036854775807,res:=λd=>([],.one (.c (.v (.int .i64 (iE d.1))))) }
abbrev akS(id:Int):Nat->Option (St->jv):=λk=>match k with
 | 4=>some λ_=>.inv { α:=Nat×Int,slots:=λx=>[(3,.c (.v (.int .i64 x.1))),(0,.c (.v (.int .i64 x.2)))],res:=λ_=>[],inv:=λx=>x.1<=4/\0<=x.2/\x.2<=9223372036854775807/\0<=aV id/\dU (5 - x.1) x.1 x.2=aV id,meas:=λx=>x.2.toNat }
 | _=>none
theorem afD(id:Int) (aF:Sr.pre (id,())):
 let z1:=λ(x:Nat×Int)=>x.fst<=4/\0<=x.snd/\x.snd<=9223372036854775807/\0<=aV id/\dU (5 - x.fst) (x.fst:Int) x.snd=aV id;id<=9223372036854775807/\br (!decide (0<=aV id)) (qI (iE id) (0:Int)) ((∃(x:Nat×Int),(z1 x)/\(cI 0=cI (x.fst:Int)/\cI id=cI x.snd/\True)/\([]:List dJ)=[])/\∀(x:Nat×Int),x.fst<=4/\0<=x.snd/\x.snd<=9223372036854775807/\0<=aV id/\dU (5 - x.fst) (x.fst:Int) x.snd=aV id->br (decide (8<=x.snd)) ((8:Int)≠(0:Int)/\iR (x.snd.tdiv (8:Int))/\iR (x.snd.tdiv (8:Int) - (1:Int))/\iR ((x.fst:Int)+(1:Int))/\∃(x':Nat×Int),(z1 x')/\(cI ((x.fst:Int)+(1:Int))=cI (x'.fst:Int)/\cI (x.snd.tdiv (8:Int) - (1:Int))=cI x'.snd/\True)/\([]:List dJ)=[]/\x'.snd.toNat < x.snd.toNat) (qI (iE id) (x.fst:Int))):=by
 conv=>zeta
 delta dJ cI qI iR;have hp:id<=9223372036854775807:=aF;refine⟨hp,ah.2 ⟨λh=>?_,λh=>?_⟩⟩
 .have h:¬0<=aV id:=by simpa using h
  have e:iE id=0:=by unfold iE;rw[if_pos (by omega)]
  rw[e];exact⟨rfl,rfl⟩
 have h:0<=aV id:=by simpa using h
 have hl:=lZ h;have em:iE id=aV id:=by unfold iE;rw[if_neg (by omega)]
 refine⟨⟨(0,id),⟨by omega,hl.1,hp,h,by unfold aV;rw[if_neg (by omega)];rfl⟩,⟨rfl,rfl,trivial⟩,rfl⟩,λx hx=>?_⟩
 obtain⟨k,v⟩:=x;obtain⟨x1,x2,x3,_,x4⟩:=hx;have x1:k<=4:=x1;have x2:0<=v:=x2;have x3:v<=9223372036854775807:=x3;have x4:dU (5 - k) k v=aV id:=x4;obtain⟨m,hm⟩:∃m,5 - k=m+1:=⟨4 - k,by omega⟩
 rw[hm,dU]at x4;refine aO.2 ⟨λh2=>?_,λh2=>?_⟩
 .have h2:¬v < 8:=by
   have:8<=v:=h2;omega
  rw[if_neg h2]at x4;split at x4
  .omega
  have e:v.tdiv 8=v / 8:=A71 x2;have hm0:m≠0:=by
   intro q;subst q;simp[dU]at x4;omega
  refine⟨by decide,ak.2 (show(-9223372036854775808:Int)<=v.tdiv 8/\v.tdiv 8<=9223372036854775807 by omega),ak.2 (show(-9223372036854775808:Int)<=v.tdiv 8 - 1/\v.tdiv 8 - 1<=9223372036854775807 by omega),ak.2 (show(-9223372036854775808:Int)<=(k:Int)+1/\(k:Int)+1<=9223372036854775807 by omega),(k+1,v.tdiv 8 - 1),⟨show k+1<=4 by omega,show 0<=v.tdiv 8 - 1 by omega,show v.tdiv 8 - 1<=9223372036854775807 by omega,h,?_⟩,⟨rfl,rfl,trivial⟩,rfl,show(v.tdiv 8 - 1).toNat < v.toNat by omega⟩
  show dU (5 - (k+1)) ((k+1:Nat):Int) (v.tdiv 8 - 1)=aV id;rw[<-x4,show 5 - (k+1)=m by omega];rfl
 .have h2:v < 8:=by
   have:¬8<=v:=h2;omega
  rw[if_pos h2]at x4;rw[em,<-x4];exact⟨rfl,rfl⟩
theorem Na:aU aT.gd 196 Sr:=
 jG (cx:=aT) (n:=15) (cl:=[(80,MZ)]) au ⟨JO,trivial⟩ Tryz.func196 λd hd=>by
  obtain⟨id,⟨⟩⟩:=d;exact aJ (akS id) (afD id hd) (by kernel_rfl)
abbrev Sv:CT:={ ps:=[dX],pre:=λd=>d.1.1<=9223372036854775807,res:=λd=>([],.gV [.c (.v (.int .i64 (cO d.1.1 d.1.2.2.2.2.2.1).1)),.c (.v (.bool (cO d.1.1 d.1.2.2.2.2.2.1).2))]) }
theorem afE(id fn pc:Int) (rg:List Int) (st ch ph su fa:Int) (he:List Int) (aF:Sv.pre ((id,fn,pc,rg,st,ch,ph,su,fa,he,()),())):
 let z1:=[cI ((cO id ch).fst),cB ((cO id ch).snd)];id<=9223372036854775807/\((!!decide (0<=aV id))=true->id<=9223372036854775807)/\br (!decide (0<=aV id) || decide (iE id=4) || decide (ch < 0) || decide (7<=ch)) (rT z1 [cI 0,cB false]) (iR (id+1)/\iR ((8:Int) * (id+1))/\iR ((8:Int) * (id+1)+ch)/\rT z1 [cI ((8:Int) * (id+1)+ch),cB true]):=by
 conv=>zeta
 delta cI cB rT iR;have hp:id<=9223372036854775807:=aF;refine⟨hp,λ_=>hp,ah.2 ⟨λh=>?_,λh=>?_⟩⟩
 .have e:cO id ch=(0,false):=by
   unfold cO;rw[if_pos];unfold iE at h;simp only[wC,Di,dH,eX]at h;split at h<;>omega
  rw[e];exact⟨rfl,rfl⟩
 .simp only[l7,wU,dH,eX]at h;obtain⟨⟨⟨h1,h2⟩,h3⟩,h4⟩:=h;unfold iE at h2;rw[if_neg (by omega)]at h2
  have e:cO id ch=(8 * (id+1)+ch,true):=by
   unfold cO;rw[if_neg (by omega)]
  have:=lZ h1;rw[e];exact⟨ak.2 (by omega),ak.2 (by omega),ak.2 (by omega),rfl,rfl⟩
theorem Nb:aU aT.gd 160 Sv:=
 jG (cx:=aT) (n:=31) (cl:=[(80,MZ),(196,Sr)]) au ⟨JO,Na,trivial⟩ Tryz.func160 λd hd=>by
  obtain⟨⟨id,fn,pc,rg,st,ch,ph,su,fa,he,⟨⟩⟩,⟨⟩⟩:=d;exact aJ (λ_=>none) (afE id fn pc rg st ch ph su fa he hd) (by kernel_rfl)
abbrev xY:CT:={ ps:=[.sl (.int .i64),.int .i64],pre:=λd=>d.1.length<=1000000,res:=λd=>([],vB (dP d.1 d.2.1)) }
abbrev akT(l:List Int) (x:Int):Nat->Option (St->jv):=λk=>match k with
 | 2=>some λ_=>.inv { α:=Nat,slots:=λk=>[(5,.c (.v (.int .i64 k)))],res:=λk=>[],inv:=λk=>k<=(l).length/\∀j < k,∀y,l[j]?=some y->¬y=x,meas:=λk=>(l).length - k }
 | _=>none
theorem afF(l:List Int) (x:Int) (aF:xY.pre (l,x,())):
 let z1:=λ(x_1:Nat)=>(x_1<=l.length/\∀(j:Nat),j < x_1->∀(y:Int),l[j]?=some y->¬y=x);(∃x_1,(z1 x_1)/\(cI 0=cI (x_1:Int)/\True)/\([]:List dJ)=[])/\∀(x_1:Nat),(z1 x_1)->br (decide ((x_1:Int) < (l.length:Int))) ((0<=(x_1:Int)/\(x_1:Int) < (l.length:Int))/\∀(d:Int),l[(x_1:Int).toNat]?=some d->br (decide (d=x)) (qB (dP l x) true) (iR ((x_1:Int)+(1:Int))/\∃x',(x'<=l.length/\∀(j:Nat),j < x'->∀(y:Int),l[j]?=some y->¬y=x)/\(cI ((x_1:Int)+(1:Int))=cI (x':Int)/\True)/\([]:List dJ)=[]/\l.length - x' < l.length - x_1)) (qB (dP l x) false):=by
 conv=>zeta
 delta dJ cI qB iR;have hp:l.length<=1000000:=aF;refine⟨⟨0,⟨by omega,λj hj=>by omega⟩,⟨rfl,trivial⟩,rfl⟩,λk hk=>ah.2 ⟨λh=>?_,λh=>?_⟩⟩
 .simp only[dH]at h;have hN:(k:Int).toNat=k:=by omega
  rw[hN];refine⟨by omega,λd hd=>ah.2 ⟨λh2=>⟨rfl,?_⟩,λh2=>⟨ak.2 (by omega),k+1,⟨by omega,λj hj y hy=>?_⟩,⟨rfl,trivial⟩,rfl,by omega⟩⟩⟩
  .have e:dP l x=true:=by
    unfold dP;exact Ku.2 ⟨d,iy hd,h2⟩
   rw[e]
  .by_cases gU:j=k
   .subst gU;rw[hd]at hy;cases hy;simpa using h2
   .exact hk.2 j (by omega) y hy
 .simp only[eX]at h;have e:dP l x=false:=by
   unfold dP;rw[Ub];intro i hi;obtain⟨j,hj⟩:=yu hi;simpa using hk.2 j (by have:=(A8.1 hj).1;omega) i hj
  rw[e];exact⟨rfl,rfl⟩
theorem Nc:aU aT.gd 191 xY:=
 jG (cx:=aT) (n:=18) (cl:=[]) au trivial Tryz.func191 λd hd=>by
  obtain⟨l,x,⟨⟩⟩:=d;exact aJ (akT l x) (afF l x hd) (by kernel_rfl)
abbrev aaP:CT:={ ps:=[.int .i64],pre:=λd=>True,res:=λd=>([],vB (bW d.1)) }
theorem akU(n:Int):
 qB (bW n) (decide ((-2147483648)<=n) && decide (n<=2147483647)):=by
 delta qB;refine⟨rfl,?_⟩;rw[show bW n=(decide (-2147483648<=n) && decide (n<=2147483647)) by unfold bW;rw[FK];simp]
theorem afG:aU aT.gd 81 aaP:=
 jG (cx:=aT) (n:=9) (cl:=[]) au trivial Tryz.func81 λd hd=>by
  obtain⟨n,⟨⟩⟩:=d;exact aJ (λ_=>none) (akU n) (by kernel_rfl)
abbrev JQ:CT:={ ps:=[o9,dX],pre:=λd=>0<=d.2.1.2.1/\d.2.1.2.1 < d.1.2.2.2.1.length,res:=λd=>([],.one (.c (.sl lJ (codeF d.1.2.2.2.1 d.2.1.2.1)))) }
theorem afH(vs:List VD) (ms cs:List ByteArray) (fs:List FD) (ts:List SD) (id fn pc:Int) (rg:List Int) (st ch ph su fa:Int) (he:List Int) (aF:JQ.pre ((vs,ms,cs,fs,ts,()),(id,fn,pc,rg,st,ch,ph,su,fa,he,()),())):
 (0<=fn/\fn < (fs.length:Int))/\∀(d:ByteArray×(lJ.sl.pair Sh.unit).den),fs[fn.toNat]?=some d->rE (aZ.one (SV.c (SC.sl lJ (codeF fs fn)))) (aZ.one (SV.c (SC.sl lJ d.snd.fst))):=by
 delta rE I6;have hp:0<=fn/\fn < (fs.length:Int):=aF;refine⟨hp,λd hd=>⟨rfl,?_⟩⟩
 obtain⟨y,hy,ey⟩:=oq hp;rw[hd]at hy;cases hy;rw[ey]
theorem Nh:aU aT.gd 123 JQ:=
 dQ (cx:=aT) (n:=12) (cl:=[]) (rc:=[]) au trivial Tryz.func123 λd hd=>by
  obtain⟨⟨vs,ms,cs,fs,ts,⟨⟩⟩,⟨id,fn,pc,rg,st,ch,ph,su,fa,he,⟨⟩⟩,⟨⟩⟩:=d;exact aJ (λ_=>none) (afH vs ms cs fs ts id fn pc rg st ch ph su fa he hd) (by kernel_rfl)
abbrev aaQ:CT:={ ps:=[dX,lJ],pre:=λd=>d.1.2.2.2.2.2.2.2.2.2.1.length<=1000000/\d.1.1<=9223372036854775807,res:=λd=>([],.one (.c (.v (.int .i64 (jy d.1.1 d.1.2.2.2.2.2.1 d.1.2.2.2.2.2.2.1 d.1.2.2.2.2.2.2.2.2.2.1 d.2.1))))) }
theorem afI(id fn pc:Int) (rg:List Int) (st ch ph su fa:Int) (he:List Int) (op a b c obj n fo ord:Int) (aF:aaQ.pre ((id,fn,pc,rg,st,ch,ph,su,fa,he,()),(op,a,b,c,obj,n,fo,ord,()),())):
 let z2:=jy id ch ph he (op,a,b,c,obj,n,fo,ord,());let z1:=qI z2 (0:Int);br (!decide (ph=0)) z1 ((decide (op=16)=true->he.length<=1000000)/\((decide (op=18) && !(decide (op=16) && !dP he obj))=true->he.length<=1000000)/\br (decide (op=16) && !dP he obj || decide (op=18) && !dP he n) (qI z2 (27:Int)) (br (decide (op=21)) (id<=9223372036854775807/\br (!(cO id ch).snd) (qI z2 (28:Int)) z1) z1)):=by
 conv=>zeta
 delta qI;obtain⟨h1,h2⟩:he.length<=1000000/\id<=9223372036854775807:=aF;unfold jy;refine ah.2 ⟨λh=>⟨rfl,?_⟩,λh=>⟨λ_=>h1,λ_=>h1,ah.2 ⟨λq=>⟨rfl,?_⟩,λq=>aO.2 ⟨λq2=>⟨h2,ah.2 ⟨λq3=>⟨rfl,?_⟩,λq3=>⟨rfl,?_⟩⟩⟩,λq2=>⟨rfl,?_⟩⟩⟩⟩⟩
 .have h:ph≠0:=by simpa using h
  rw[if_pos h]
 all_goals
  have h:¬ph≠0:=by simpa using h
  rw[if_neg h]
 .by_cases e:op=18
  .subst e;simp at q;simp[q]
  .by_cases e2:op=16
   .subst e2;simp at q;simp[q]
   .simp[e,e2]at q
 .subst q2;simp at q3;simp[q3]
 .subst q2;simp at q3;simp[q3]
 .by_cases e:op=18
  .subst e;simp at q;simp[q]
  .by_cases e2:op=16
   .subst e2;simp at q;simp[q]
   .simp[e,e2,q2]
theorem aaR:aU aT.gd 153 aaQ:=
 dQ (cx:=aT) (n:=44) (cl:=[(191,xY),(160,Sv)]) (rc:=[]) au ⟨Nc,Nb,trivial⟩ Tryz.func153 λd hd=>by
  obtain⟨⟨id,fn,pc,rg,st,ch,ph,su,fa,he,⟨⟩⟩,⟨op,a,b,c,obj,n,fo,ord,⟨⟩⟩,⟨⟩⟩:=d;exact aJ (λ_=>none) (afI id fn pc rg st ch ph su fa he op a b c obj n fo ord hd) (by kernel_rfl)
abbrev PZ:CT:={ ps:=[o9,.int .i64],pre:=λd=>bnd (d.1,()),res:=λd=>([],.one (.c (.v (.int .i64 (dG (aG d.1.1 d.1.2.1 d.1.2.2.1 d.1.2.2.2.1 d.1.2.2.2.2.1).1 d.2.1))))) }
theorem akV(vs:List VD) (ms cs:List ByteArray) (fs:List FD) (ts:List SD) (bound:Int) (aF:PZ.pre ((vs,ms,cs,fs,ts,()),bound,())):
 let z2:=aG vs ms cs fs ts;let z1:=dG z2.fst bound;(vs.length<=1000000/\ms.length<=1000000/\cs.length<=1000000/\fs.length<=1000000/\ts.length<=1000000/\(∀(x:ByteArray×(lJ.sl.pair Sh.unit).den),x∈fs->List.length x.snd.fst<=1000000)/\(dN fs).length<=1000000)/\br (!decide (z2.fst=0)) (qI z1 (z2.fst)) (br (decide (bound < 1) || decide (32 < bound)) (qI z1 (2:Int)) (qI z1 (0:Int))):=by
 conv=>zeta
 delta qI I6;have hb:bnd ((vs,ms,cs,fs,ts,()),()):=aF;refine⟨hb,ah.2 ⟨λh=>?_,λh=>ah.2 ⟨λh2=>?_,λh2=>?_⟩⟩⟩
 .have h:(aG vs ms cs fs ts).1≠0:=by simpa using h
  unfold dG;rw[if_pos h];exact⟨rfl,rfl⟩
 .have h:¬(aG vs ms cs fs ts).1≠0:=by simpa using h
  have h2:bound < 1\/32 < bound:=by simpa using h2
  unfold dG;rw[if_neg h,if_pos h2];exact⟨rfl,rfl⟩
 .have h:¬(aG vs ms cs fs ts).1≠0:=by simpa using h
  have h2:¬(bound < 1\/32 < bound):=by simp only[l7,eX]at h2;omega
  unfold dG;rw[if_neg h,if_neg h2];exact⟨rfl,rfl⟩
theorem afJ:aU aT.gd 79 PZ:=
 jG (cx:=aT) (n:=23) (cl:=[(66,JA)]) au ⟨RF,trivial⟩ Tryz.func79 λd hd=>by
  obtain⟨⟨vs,ms,cs,fs,ts,⟨⟩⟩,bound,⟨⟩⟩:=d;exact aJ (λ_=>none) (akV vs ms cs fs ts bound hd) (by kernel_rfl)
abbrev P5:CT:={ ps:=[o9,.int .i64,dX],pre:=λd=>True/\d.2.2.1.2.2.2.2.2.2.2.2.2.1.length<=1000000/\d.2.2.1.1<=9223372036854775807/\d.2.2.1.2.2.2.1.length=8,res:=λd=>([],vB (iO d.1.2.1 d.1.2.2.2.1 d.2.1 d.2.2.1)) }
abbrev akW(vs:List VD) (ms cs:List ByteArray) (fs:List FD) (ts:List SD) (bound id fn pc:Int) (rg:List Int) (st ch ph su fa:Int) (he:List Int):Nat->Option (St->jv):=λk=>match k with
 | 4=>some λ_=>.inv { α:=Nat,slots:=λk=>[(7,.c (.v (.int .i64 k)))],res:=λ_=>[],inv:=λk=>k<=8/\∀j < k,∀r,rg[j]?=some r->bW r=true,meas:=λk=>8 - k }
 | 11=>some λ_=>.inv { α:=Nat,slots:=λk=>[(8,.c (.v (.int .i64 k)))],res:=λ_=>[],inv:=λk=>k<=he.length/\(∀j < k,∀m,he[j]?=some m->0<=m/\m < ms.length)/\∀j,j+1 < k->∀x y,he[j]?=some x->he[j+1]?=some y->x < y,meas:=λk=>he.length - k }
 | _=>none
theorem afK(vs:List VD) (ms cs:List ByteArray) (fs:List FD) (ts:List SD) (bound id fn pc:Int) (rg:List Int) (st ch ph su fa:Int) (he:List Int) (aF:P5.pre ((vs,ms,cs,fs,ts,()),bound,(id,fn,pc,rg,st,ch,ph,su,fa,he,()),())):
 let z8:=(id,fn,pc,rg,st,ch,ph,su,fa,he,());let z4:=iO ms fs bound z8;let z3:=qB z4 false;let z1:=[g0 (ay.blk 27 [SC.sl ER vs,SC.sl Sh.str ms,SC.sl Sh.str cs,SC.sl BA fs,SC.sl lU ts]),g0 (ay.obj 56 dX z8)];let z10:=λ(x:Nat)=>(x:Int)+(1:Int);let z2:=λ(x:Nat) (d dI:Int)=>decide (0 < (x:Int)) && !(decide (d < 0) || decide ((ms.length:Int)<=dI));let z9:=0<=fn/\fn < (fs.length:Int);let z7:=0<=pc/\pc < (↑(codeF fs fn).length:Int);let z6:=λ(d:ID)=>decide (d.fst=18)=true->he.length<=1000000;let z5:=λ(d:ID)=>decide (d.fst=18) && !dP he d.snd.snd.snd.snd.snd.fst;id<=9223372036854775807/\((!(!decide (0<=aV id) || decide (fn < 0) || decide ((fs.length:Int)<=fn) || decide (pc < 0)))=true->0<=fn/\fn < (fs.length:Int))/\br (!decide (0<=aV id) || decide (fn < 0) || decide ((fs.length:Int)<=fn) || decide (pc < 0) || decide ((↑(codeF fs fn).length:Int) < pc)) z3 ((∃x,(x<=8/\∀(j:Nat),j < x->∀(r:Int),rg[j]?=some r->bW r=true)/\(cI 0=cI (x:Int)/\True)/\sm z1)/\∀(x:Nat),(x<=8/\∀(j:Nat),j < x->∀(r:Int),rg[j]?=some r->bW r=true)->br (decide ((x:Int) < (8:Int))) ((0<=(x:Int)/\(x:Int) < (8:Int))/\(x:Int).toNat < 8/\∀(d:Int),rg[(x:Int).toNat]?=some d->True/\br (!bW d) z3 (iR (z10 x)/\∃x',(x'<=8/\∀(j:Nat),j < x'->∀(r:Int),rg[j]?=some r->bW r=true)/\(cI (z10 x)=cI (x':Int)/\True)/\sm z1/\8 - x' < 8 - x)) (((decide (0 < ch) && !(decide (st < 0) || decide (bound < st) || decide (ch < 0) || decide (7 < ch)))=true->id<=9223372036854775807)/\br (decide (st < 0) || decide (bound < st) || decide (ch < 0) || decide (7 < ch) || decide (0 < ch) && decide (iE id=4)) z3 ((∃x,(x<=he.length/\(∀(j:Nat),j < x->∀(m:Int),he[j]?=some m->0<=m/\m < (ms.length:Int))/\∀(j:Nat),j+1 < x->∀(x y:Int),he[j]?=some x->he[j+1]?=some y->x < y)/\(cI 0=cI (x:Int)/\True)/\sm z1)/\∀(x:Nat),(x<=he.length/\(∀(j:Nat),j < x->∀(m:Int),he[j]?=some m->0<=m/\m < (ms.length:Int))/\∀(j:Nat),j+1 < x->∀(x y:Int),he[j]?=some x->he[j+1]?=some y->x < y)->br (decide ((x:Int) < (he.length:Int))) ((0<=(x:Int)/\(x:Int) < (he.length:Int))/\∀(d:Int),he[(x:Int).toNat]?=some d->((!decide (d < 0))=true->0<=(x:Int)/\(x:Int) < (he.length:Int))/\∀(dI:Int),((!decide (d < 0))=true->he[(x:Int).toNat]?=some dI)->((z2 x d dI)=true->iR ((x:Int) - (1:Int)))/\((z2 x d dI)=true->0<=(x:Int) - (1:Int)/\(x:Int) - 1 < (he.length:Int))/\∀(nU:Int),((z2 x d dI)=true->he[((x:Int) - (1:Int)).toNat]?=some nU)->((z2 x d dI)=true->0<=(x:Int)/\(x:Int) < (he.length:Int))/\∀(d_3:Int),((z2 x d dI)=true->he[(x:Int).toNat]?=some d_3)->br (decide (d < 0) || decide ((ms.length:Int)<=dI) || decide (0 < (x:Int)) && decide (d_3<=nU)) z3 (iR (z10 x)/\∃x',(x'<=he.length/\(∀(j:Nat),j < x'->∀(m:Int),he[j]?=some m->0<=m/\m < (ms.length:Int))/\∀(j:Nat),j+1 < x'->∀(x y:Int),he[j]?=some x->he[j+1]?=some y->x < y)/\(cI (z10 x)=cI (x':Int)/\True)/\sm z1/\he.length - x' < he.length - x)) (br (decide (ph=0)) (qB z4 true) (((!(!decide (ph=1) && !decide (ph=2)))=true->0<=fn/\fn < (fs.length:Int))/\br (!decide (ph=1) && !decide (ph=2) || decide (pc=(↑(codeF fs fn).length:Int))) z3 ((z9/\z7/\∀(d:ID),(codeF fs fn)[pc.toNat]?=some d->(z6 d)/\qB z4 (z5 d))/\z9/\z7/\∀(d:ID),(codeF fs fn)[pc.toNat]?=some d->(z6 d)/\qB z4 (z5 d))))))):=by
 conv=>zeta
 delta cI g0 qB sm I6 iR;obtain⟨_,AX,hid,hrg⟩:True/\he.length<=1000000/\id<=9223372036854775807/\rg.length=8:=aF;have both:∀{A:Prop},A->A/\A:=λq=>⟨q,q⟩
 have fF:¬dB ms fs bound (id,fn,pc,rg,st,ch,ph,su,fa,he,())->([]:List Go.jf.ay)=[]/\aZ.one (SV.c (SC.v (Value.bool (iO ms fs bound (id,fn,pc,rg,st,ch,ph,su,fa,he,())))))=aZ.one (SV.c (SC.v (Value.bool false))):=λq=>⟨rfl,by rw[wP q]⟩
 refine⟨hid,λg=>by
  simp only[Di,l7,eX,wU,dH]at g;show(0:Int)<=fn/\fn < (fs.length:Int);omega,ah.2 ⟨λh=>?_,λh=>?_⟩⟩
 .refine fF λq=>?_
  obtain⟨q1,q2,q3,_⟩:=q;simp only[wC,Di,dH,eX]at h;omega
 simp only[l7,wU,dH,eX]at h;obtain⟨⟨⟨⟨h1,h2⟩,h3⟩,h4⟩,h5⟩:=h;have hfn:0<=fn/\fn < (fs.length:Int):=by omega
 have hpc:0<=pc/\pc<=((codeF fs fn).length:Int):=by omega
 refine⟨⟨0,⟨by omega,λj hj=>by omega⟩,⟨rfl,trivial⟩,rfl⟩,λk hk=>ah.2 ⟨λh=>?_,λh=>?_⟩⟩
 .simp only[dH]at h;refine⟨by omega,by omega,λd hd=>⟨trivial,ah.2 ⟨λh6=>?_,λh6=>⟨ak.2 (by omega),k+1,⟨by omega,λj hj r hr=>?_⟩,⟨rfl,trivial⟩,rfl,by omega⟩⟩⟩⟩
  .refine fF λq=>?_
   have:=q.2.2.2.1 k (by omega) d hd
   rw[this]at h6;cases h6
  .by_cases gU:j=k
   .subst gU;have hd:rg[j]?=some d:=hd;rw[hd]at hr;cases hr;simpa using h6
   .exact hk.2 j (by omega) r hr
 simp only[eX]at h;have hr:∀k < 8,∀r,rg[k]?=some r->bW r=true:=λj hj r hr=>hk.2 j (by omega) r hr
 have hdm:iE id=aV id:=by unfold iE;rw[if_neg (by omega)]
 rw[hdm];refine⟨λ_=>hid,ah.2 ⟨λh7=>?_,λh7=>?_⟩⟩
 .refine fF λq=>?_
  obtain⟨_,_,_,_,q5,q6,q7,_⟩:=q;simp at h7;omega
 simp only[l7,A70,eX]at h7;obtain⟨⟨⟨⟨a1,a2⟩,a3⟩,a4⟩,a5⟩:=h7;refine⟨⟨0,⟨by omega,λj hj=>by omega,λj hj=>by omega⟩,⟨rfl,trivial⟩,rfl⟩,λm hm=>ah.2 ⟨λh8=>?_,λh8=>?_⟩⟩
 .simp only[dH]at h8;refine⟨by omega,λd hd=>⟨λ_=>by omega,λd1 hd1=>⟨λ_=>ak.2 (by omega),λg=>by simp at g;omega,λd2 hd2=>⟨λ_=>by omega,λd3 hd3=>ah.2 ⟨λh9=>?_,λh9=>⟨ak.2 (by omega),m+1,⟨by omega,λj hj r hr=>?_,λj hj x y hx hy=>?_⟩,⟨rfl,trivial⟩,rfl,by omega⟩⟩⟩⟩⟩⟩
  .refine fF λq=>?_
   have hd:he[m]?=some d:=hd;have hq:=q.2.2.2.2.2.2.2.1 d (iy hd);have hd1:=hd1 (by simp;omega)
   have hd1:he[m]?=some d1:=hd1;rw[hd]at hd1;cases hd1
   by_cases m0:m=0
   .subst m0;simp at h9;omega
   have g:(decide (0 < (m:Int)) && !(decide (d < 0) || decide ((ms.length:Int)<=d)))=true:=by simp;omega
   have hd2:=hd2 g;have hd3:=hd3 g;rw[show((m:Int) - 1).toNat=m - 1 by omega]at hd2
   have hd2:he[m - 1]?=some d2:=hd2;have hd3:he[m - 1+1]?=some d3:=by rw[show m - 1+1=m by omega];exact hd3
   have:=JH q.2.2.2.2.2.2.1 hd2 hd3;simp at h9;omega
  all_goals
   have hd:he[m]?=some d:=hd;have q0:0<=d:=by simp at h9;omega
   have hd1:=hd1 (by simp;omega)
   have hd1:he[m]?=some d1:=hd1;rw[hd]at hd1;cases hd1
  .by_cases gU:j=m
   .subst gU;rw[hd]at hr;cases hr;simp at h9;omega
   .exact hm.2.1 j (by omega) r hr
  .by_cases gU:j+1=m
   .have g:(decide (0 < (m:Int)) && !(decide (d < 0) || decide ((ms.length:Int)<=d)))=true:=by simp at h9 ⊢;omega
    have hd2:=hd2 g;have hd3:=hd3 g;rw[show((m:Int) - 1).toNat=j by omega]at hd2
    have hd2:he[j]?=some d2:=hd2;have hd3:he[m]?=some d3:=hd3;rw[gU,hd]at hy;cases hy;rw[hd]at hd3;cases hd3;rw[hd2]at hx;cases hx;simp at h9;omega
   .exact hm.2.2 j (by omega) x y hx hy
 simp only[eX]at h8;have hmm:∀m∈he,0<=m/\m < (ms.length:Int):=λy hy=>by
  obtain⟨j,hj⟩:=yu hy;exact hm.2.1 j (by have:=(A8.1 hj).1;omega) y hj
 have hss:SS he:=Fb λj x y hx hy=>hm.2.2 j (by have:=(A8.1 hy).1;omega) x y hx hy
 have base:(ph=0\/((ph=1\/ph=2)/\∃i,mZ fs fn pc=some i/\i.1=18/\dP he i.2.2.2.2.2.1=false))↔dB ms fs bound (id,fn,pc,rg,st,ch,ph,su,fa,he,()):=
  ⟨λq=>⟨by omega,hfn,hpc,hr,by omega,⟨by omega,by omega,λe=>by omega⟩,hss,hmm,q⟩,λq=>q.2.2.2.2.2.2.2.2⟩
 have fB:∀b:Bool,(b=true↔(ph=0\/((ph=1\/ph=2)/\∃i,mZ fs fn pc=some i/\i.1=18/\dP he i.2.2.2.2.2.1=false)))->aZ.one (SV.c (SC.v (Value.bool (iO ms fs bound (id,fn,pc,rg,st,ch,ph,su,fa,he,())))))=aZ.one (SV.c (SC.v (Value.bool b))):=λb hb=>by
  have:iO ms fs bound (id,fn,pc,rg,st,ch,ph,su,fa,he,())=b:=by
   rw[FK,hb,base,jO]
  rw[this]
 refine aO.2 ⟨λh9=>⟨rfl,fB _ (by simp[h9])⟩,λh9=>⟨λ_=>hfn,ah.2 ⟨λg=>⟨rfl,fB _ ?_⟩,λg=>both ⟨hfn,?_,λd hd=>⟨λ_=>AX,rfl,fB _ ?_⟩⟩⟩⟩⟩
 .by_cases g2:pc=((codeF fs fn).length:Int)
  .have ha:mZ fs fn pc=none:=BL (by omega)
   simp[h9,ha]
  .simp[g2]at g;simp[h9,g]
 .simp at g;omega
 .have ha:mZ fs fn pc=some d:=hd;simp at g;have:ph=1\/ph=2:=by omega
  simp[h9,ha,this]
theorem aaS:aU aT.gd 175 P5:=
 dQ (cx:=aT) (n:=161) (cl:=[(80,MZ),(123,JQ),(81,aaP),(196,Sr),(191,xY)]) (rc:=[]) au ⟨JO,Nh,afG,Na,Nc,trivial⟩ Tryz.func175 λd hd=>by
  obtain⟨⟨vs,ms,cs,fs,ts,⟨⟩⟩,bound,⟨id,fn,pc,rg,st,ch,ph,su,fa,he,⟨⟩⟩,⟨⟩⟩:=d;exact aJ (akW vs ms cs fs ts bound id fn pc rg st ch ph su fa he) (afK vs ms cs fs ts bound id fn pc rg st ch ph su fa he hd) (by kernel_rfl)
abbrev aaT:CT:={ ps:=[o9,.int .i64,dX],pre:=λd=>bnd (d.1,())/\d.2.2.1.2.2.2.2.2.2.2.2.2.1.length<=1000000/\d.2.2.1.1<=9223372036854775807/\d.2.2.1.2.2.2.1.length=8,res:=λd=>([],vB (decide (dG (aG d.1.1 d.1.2.1 d.1.2.2.1 d.1.2.2.2.1 d.1.2.2.2.2.1).1 d.2.1=0) && mQ d.1.2.1 d.1.2.2.2.1 d.2.1 d.2.2.1)) }
theorem afL(vs:List VD) (ms cs:List ByteArray) (fs:List FD) (ts:List SD) (bound id fn pc:Int) (rg:List Int) (st ch ph su fa:Int) (he:List Int) (aF:aaT.pre ((vs,ms,cs,fs,ts,()),bound,(id,fn,pc,rg,st,ch,ph,su,fa,he,()),())):
 let z8:=dG (aG vs ms cs fs ts).fst bound=0;let z7:=(id,fn,pc,rg,st,ch,ph,su,fa,he,());let z4:=decide z8 && mQ ms fs bound z7;let z3:=qB z4 false;let z11:=0<=fn/\fn < (fs.length:Int);let z9:=pc=(↑(codeF fs fn).length:Int);let z5:=!decide z9 && (decide (fa=0) && decide (ph=0));let z6:=0<=pc/\pc < (↑(codeF fs fn).length:Int);let z10:=decide (su=1) || decide (su=4);let z2:=λ(d:ID)=>((decide (fa=0) && jw d.fst)=true->he.length<=1000000/\id<=9223372036854775807)/\qB z4 (decide (fa=0) && jw d.fst && decide (jy id ch ph he d=0) && (decide (su=1) && decide (st < bound) || decide (su=4) && decide (1<=st)));let z1:=λ(d:ID)=>br (!decide (su=3) || !decide (ph=0)) z3 (br (decide (fa=26)) ((decide (d.fst=6)=true->0<=d.snd.snd.fst/\d.snd.snd.fst < 8)/\(decide (d.fst=6)=true->Int.toNat d.snd.snd.fst < 8)/\∀(dI:Int),(decide (d.fst=6)=true->rg[Int.toNat d.snd.snd.fst]?=some dI)->qB z4 (decide (d.fst=6) && decide (dI=(0:Int)))) (br (decide (fa=29)) (qB z4 (!jw d.fst)) (((!decide (fa=0) && jw d.fst)=true->he.length<=1000000/\id<=9223372036854775807)/\qB z4 (!decide (fa=0) && jw d.fst && decide (fa=jy id ch ph he d)))));(vs.length<=1000000/\ms.length<=1000000/\cs.length<=1000000/\fs.length<=1000000/\ts.length<=1000000/\(∀(x:ByteArray×(lJ.sl.pair Sh.unit).den),x∈fs->List.length x.snd.fst<=1000000)/\(dN fs).length<=1000000)/\((!!decide z8)=true->True/\he.length<=1000000/\id<=9223372036854775807/\rg.length=8)/\br (!decide z8 || !iO ms fs bound z7) z3 (z11/\br (decide (su=2)) ((z5=true->0<=fn/\fn < (fs.length:Int))/\(z5=true->0<=pc/\pc < (↑(codeF fs fn).length:Int))/\∀(d:ID),(z5=true->(codeF fs fn)[pc.toNat]?=some d)->qB z4 (decide (fa=0) && decide (ph=0) && (decide z9 || decide (d.fst=7)))) (br (decide z9) z3 ((z11/\z6/\∀(d:ID),(codeF fs fn)[pc.toNat]?=some d->True/\br z10 (z2 d) (z1 d))/\z11/\z6/\∀(d:ID),(codeF fs fn)[pc.toNat]?=some d->True/\br z10 (z2 d) (z1 d)))):=by
 conv=>zeta
 delta qB I6;obtain⟨hb,AX,hid,hrg⟩:bnd ((vs,ms,cs,fs,ts,()),())/\he.length<=1000000/\id<=9223372036854775807/\rg.length=8:=aF;have both:∀{A:Prop},A->A/\A:=λq=>⟨q,q⟩
 refine⟨hb,λ_=>⟨trivial,AX,hid,hrg⟩,ah.2 ⟨λh=>⟨rfl,?_⟩,λh=>?_⟩⟩
 .have e:(decide (dG (aG vs ms cs fs ts).1 bound=0) && mQ ms fs bound (id,fn,pc,rg,st,ch,ph,su,fa,he,()))=false:=by
   rw[wC]at h;rcases h with q | q
   .rw[show decide (dG (aG vs ms cs fs ts).1 bound=0)=false by simpa using q];rfl
   .rw[Fh λq2=>(by rw[jO.2 q2.1]at q;cases q),Bool.and_false]
  rw[e]
 rw[l7]at h;have hs0:dG (aG vs ms cs fs ts).1 bound=0:=by simpa using h.1
 have hF:dB ms fs bound (id,fn,pc,rg,st,ch,ph,su,fa,he,()):=jO.1 (by simpa using h.2)
 have hc:=(iw.1 hs0).1;have hfn:=hF.2.1;have hpc:=hF.2.2.1;refine⟨hfn,?_⟩;have W:∀b:Bool,(b=true↔(((su=1/\st < bound\/su=4/\1<=st)/\fa=0/\∃i,mZ fs fn pc=some i/\jw i.1=true/\jy id ch ph he i=0) \/
  (su=2/\fa=0/\ph=0/\∀i,mZ fs fn pc=some i->i.1=7) \/
  (su=3/\ph=0/\∃i,mZ fs fn pc=some i/\(fa=26/\i.1=6/\rg.getD i.2.2.1.toNat 0=0\/fa=29/\jw i.1=false\/fa≠26/\fa≠29/\fa≠0/\jy id ch ph he i=fa)))) ->
   aZ.one (SV.c (SC.v (Value.bool (decide (dG (aG vs ms cs fs ts).1 bound=0) && mQ ms fs bound (id,fn,pc,rg,st,ch,ph,su,fa,he,())))))=aZ.one (SV.c (SC.v (Value.bool b))):=λb hb=>by
  have:(decide (dG (aG vs ms cs fs ts).1 bound=0) && mQ ms fs bound (id,fn,pc,rg,st,ch,ph,su,fa,he,()))=b:=by
   rw[wX hs0,FM,FK,hb,kK];exact⟨λq=>q.2,λq=>⟨hF,q⟩⟩
  rw[this]
 refine aO.2 ⟨λh2=>⟨λ_=>hfn,λg=>?_,λd hd=>⟨rfl,W _ ?_⟩⟩,λh2=>aO.2 ⟨λhl=>⟨rfl,W _ ?_⟩,λhl=>both ⟨hfn,by omega,λi ha=>⟨trivial,ah.2 ⟨λh3=>⟨λ_=>⟨AX,hid⟩,rfl,W _ ?_⟩,λh3=>ah.2 ⟨λh4=>⟨rfl,W _ ?_⟩,λh4=>aO.2 ⟨λh5=>⟨λg=>?_,λg=>?_,λd1 hd1=>⟨rfl,W _ ?_⟩⟩,λh5=>aO.2 ⟨λh6=>⟨rfl,W _ ?_⟩,λh6=>⟨λ_=>⟨AX,hid⟩,rfl,W _ ?_⟩⟩⟩⟩⟩⟩⟩⟩⟩
 .simp at g;omega
 .by_cases hl:pc=((codeF fs fn).length:Int)
  .have ha:mZ fs fn pc=none:=BL (by omega)
   rw[wX hl];simp[h2,ha]
  .by_cases g:fa=0/\ph=0
   .have ha:mZ fs fn pc=some d:=hd (by simp[g.1,g.2,hl])
    simp[h2,hl,ha,g.1,g.2]
   .have:¬(fa=0/\ph=0/\∀i,mZ fs fn pc=some i->i.1=7):=λq=>g ⟨q.1,q.2.1⟩
    simp only[h2];simp only[bY,dH];constructor
    .intro q;exact absurd ⟨q.1.1,q.1.2⟩ g
    .rintro(q | q | q)
     .omega
     .exact absurd q.2 this
     .omega
 .have ha:mZ fs fn pc=none:=BL (by omega)
  simp[ha,h2]
 all_goals
  have ha:mZ fs fn pc=some i:=ha;obtain⟨r1,r2,r3,r4⟩:=kV (ql (BG hc hfn ha)).1
 .simp only[ha];simp only[wC,dH]at h3;rcases h3 with e | e<;>(subst e;simp<;>grind)
 .simp only[ha];simp only[l7,eX]at h3;simp only[wC,Di,eX]at h4;simp[h2,h3.1,h3.2];intro e1 e2;exact absurd e2 (h4.resolve_left (λq=>q e1))
 .exact r2
 .omega
 .simp only[l7,wU,dH]at h4
  by_cases e6:i.1=6
  .have hd1:rg[i.2.2.1.toNat]?=some d1:=hd1 (wX e6);have e0:rg.getD i.2.2.1.toNat 0=d1:=by rw[J5,hd1];rfl
   simp only[ha,h4.1,h4.2,h5,e6];simp only[A94,exists_eq_left',e6,e0];simp
  .simp[ha,h4.1,h4.2,h5,e6]
 .simp only[l7,wU,dH]at h4;simp[ha,h4.1,h4.2,h6]
 .simp only[l7,wU,dH]at h4;have hvo:jw i.1=false->jy id ch ph he i=0:=λq=>by
   unfold jy;have:i.1≠18/\i.1≠16/\i.1≠21:=by
    refine⟨?_,?_,?_⟩<;>(intro e;rw[e]at q;cases q)
   simp[this.1,this.2.1,this.2.2]
  simp only[ha,h4.1,h4.2];cases hv:jw i.1 with
  | false=>
    have:=hvo hv;simp[h5,h6,this];rw[h4.2]at this;intro q1 q2;rw[this]at q2;omega
  | true=>
    simp[h5,h6];intro q1;exact eq_comm
theorem aaU:aU aT.gd 122 aaT:=
 dQ (cx:=aT) (n:=146) (cl:=[(79,PZ),(175,P5),(123,JQ),(152,aaN),(153,aaQ)]) (rc:=[]) au ⟨afJ,aaS,Nh,aaO,aaR,trivial⟩ Tryz.func122 λd hd=>by
  obtain⟨⟨vs,ms,cs,fs,ts,⟨⟩⟩,bound,⟨id,fn,pc,rg,st,ch,ph,su,fa,he,⟨⟩⟩,⟨⟩⟩:=d;exact aJ (λ_=>none) (afL vs ms cs fs ts bound id fn pc rg st ch ph su fa he hd) (by kernel_rfl)
instance (l:List Int):Decidable (SS l):=inferInstanceAs (Decidable (l.Pairwise (· < ·)))
abbrev akX:CT:={ ps:=[.sl (.int .i64)],pre:=λd=>d.1.length<=1000000,res:=λd=>([],vB (ku d.1)) }
abbrev akY(l:List Int):Nat->Option (St->jv):=λk=>match k with
 | 2=>some λ_=>.inv { α:=Nat,slots:=λk=>[(3,.c (.v (.int .i64 k)))],res:=λ_=>[],inv:=λk=>(1<=k/\(k<=l.length\/k=1))/\∀j,j+1 < k->∀x y,l[j]?=some x->l[j+1]?=some y->x < y,meas:=λk=>l.length - k }
 | _=>none
theorem afM(l:List Int) (aF:akX.pre (l,())):
 (∃x,((1<=x/\(x<=l.length\/x=1))/\∀(j:Nat),j+1 < x->∀(x y:Int),l[j]?=some x->l[j+1]?=some y->x < y)/\(cI 1=cI (x:Int)/\True)/\([]:List dJ)=[])/\∀(x:Nat),((1<=x/\(x<=l.length\/x=1))/\∀(j:Nat),j+1 < x->∀(x y:Int),l[j]?=some x->l[j+1]?=some y->x < y)->br (decide ((x:Int) < (l.length:Int))) (iR ((x:Int) - (1:Int))/\(0<=(x:Int) - (1:Int)/\(x:Int) - 1 < (l.length:Int))/\∀(d:Int),l[((x:Int) - (1:Int)).toNat]?=some d->(0<=(x:Int)/\(x:Int) < (l.length:Int))/\∀(dI:Int),l[(x:Int).toNat]?=some dI->br (decide (dI<=d)) (qB (ku l) false) (iR ((x:Int)+(1:Int))/\∃x',((1<=x'/\(x'<=l.length\/x'=1))/\∀(j:Nat),j+1 < x'->∀(x y:Int),l[j]?=some x->l[j+1]?=some y->x < y)/\(cI ((x:Int)+(1:Int))=cI (x':Int)/\True)/\([]:List dJ)=[]/\l.length - x' < l.length - x)) (qB (ku l) true):=by
 delta dJ cI qB iR;have hp:l.length<=1000000:=aF;refine⟨⟨1,⟨⟨by omega,.inr rfl⟩,λj hj=>by omega⟩,⟨rfl,trivial⟩,rfl⟩,λk hk=>ah.2 ⟨λh=>?_,λh=>?_⟩⟩
 .simp only[dH]at h;have hk1:=hk.1.1;refine⟨ak.2 (by omega),by omega,λd hd=>⟨by omega,λe he=>?_⟩⟩
  have hd:l[k - 1]?=some d:=by rw[<-hd];congr 1;omega
  have he:l[k]?=some e:=by simpa using he
  have he':l[k - 1+1]?=some e:=by rw[show k - 1+1=k by omega];exact he
  refine ah.2 ⟨λh2=>?_,λh2=>⟨ak.2 (by omega),k+1,⟨⟨by omega,.inl (by omega)⟩,λj hj x y hx hy=>?_⟩,⟨by simp,trivial⟩,rfl,by omega⟩⟩
  .simp only[dH]at h2;have:ku l=false:=yw λhs=>by have:=JH hs hd he';omega
   rw[this];exact⟨rfl,rfl⟩
  .simp only[eX]at h2
   by_cases gU:j+1=k
   .have hj':j=k - 1:=by omega
    subst hj';rw[hd]at hx;rw[he']at hy;cases hx;cases hy;omega
   .exact hk.2 j (by omega) x y hx hy
 .simp only[eX]at h;have:ku l=true:=wX (Fb λj x y hx hy=>hk.2 j (by have:=(A8.1 hy).1;omega) x y hx hy)
  rw[this];exact⟨rfl,rfl⟩
theorem aaV:aU aT.gd 180 akX:=
 jG (cx:=aT) (n:=20) (cl:=[]) au trivial Tryz.func180 λd hd=>by
  obtain⟨l,⟨⟩⟩:=d;exact⟨akY l,cast (by kernel_rfl) (afM l hd)⟩
end
end Go.Proofs.YtjhenjhcbcalpaaGreatDoor
