/- Part 9 of the proof. Conditions: the rows'. -/
import Derived.Test.YtjhenjhcbcalpaaGreatDoorB8
set_option linter.unusedSimpArgs false
set_option linter.unusedVariables false
set_option maxRecDepth 1000000
set_option maxHeartbeats 8000000
namespace Go.Proofs.YtjhenjhcbcalpaaGreatDoor
open Go Go.jl
noncomputable section
abbrev JG:CT:={ ps:=[.int .i64],pre:=λd=>True,res:=λd=>([],.one (.c (.v (.int .i64 (aH d.1))))) }
theorem afr(n:Int):
 iU≠(0:Int)/\br (decide (n.tmod iU < (0:Int))) (iR (n.tmod iU+iU)/\br (decide (2147483647 < n.tmod iU+iU)) (iR (n.tmod iU+iU - iU)/\qI (aH n) (n.tmod iU+iU - iU)) (qI (aH n) (n.tmod iU+iU))) (br (decide (2147483647 < n.tmod iU)) (iR (n.tmod iU - iU)/\qI (aH n) (n.tmod iU - iU)) (qI (aH n) (n.tmod iU))):=by
 delta qI iR iU;have hw:=Z9 n;unfold Z8 at hw;have hr:-4294967296 < n.tmod 4294967296/\n.tmod 4294967296 < 4294967296:=by
  rw[ER n (by omega)];split<;>omega
 refine⟨by decide,aO.2 ⟨λh=>⟨ak.2 (by omega),aO.2 ⟨λh2=>⟨ak.2 (by omega),rfl,?_⟩,λh2=>⟨rfl,?_⟩⟩⟩,λh=>aO.2 ⟨λh2=>⟨ak.2 (by omega),rfl,?_⟩,λh2=>⟨rfl,?_⟩⟩⟩⟩
 .rw[if_pos h,if_pos h2]at hw;rw[<-hw]
 .rw[if_pos h,if_neg h2]at hw;rw[<-hw]
 .rw[if_neg h,if_pos h2]at hw;rw[<-hw]
 .rw[if_neg h,if_neg h2]at hw;rw[<-hw]
theorem MR:aT aS.gd 193 JG:=
 jD (cx:=aS) (n:=15) (cl:=[]) au trivial Tryz.func193 λd hd=>by
  obtain⟨n,⟨⟩⟩:=d;exact aI (λ_=>none) (afr n) (by kernel_rfl)
abbrev aaC:CT:={ ps:=[.bool],pre:=λd=>True,res:=λd=>([],.one (.c (.v (.int .i64 (if d.1=true then 1 else 0))))) }
theorem afs(b:Bool):
 let z1:=if b=true then(1:Int) else(0:Int);br b (qI z1 (1:Int)) (qI z1 (0:Int)):=by
 conv=>zeta
 delta qI;rw[ah];cases b<;>simp
theorem aaD:aT aS.gd 195 aaC:=
 jD (cx:=aS) (n:=4) (cl:=[]) au trivial Tryz.func195 λd hd=>by
  obtain⟨b,⟨⟩⟩:=d;exact aI (λ_=>none) (afs b) (by kernel_rfl)
abbrev aaE:CT:={ ps:=[.int .i64,.int .i64,.arr 4 (.int .i64)],pre:=λd=>(-2147483648<=d.1/\d.1<=2147483647)/\(-2147483648<=d.2.1/\d.2.1<=2147483647)/\(∀v∈d.2.2.1,v=0\/v=1),res:=λd=>([],.one (.c (.v (.int .i64 (aH (dR (d.1 % 4294967296).toNat (d.2.1 % 4294967296).toNat d.2.2.1 32)))))) }
abbrev akF(x y:Int) (rs:List Int):Nat->Option (St->jq):=λk=>match k with
 | 8=>some λ_=>.inv { α:=Nat,slots:=λi=>[(9,.c (.v (.int .i64 i))),(7,.c (.v (.int .i64 (dR (x % 4294967296).toNat (y % 4294967296).toNat rs i)))),(8,.c (.v (.int .i64 ((2 ^ i:Nat):Int)))),(0,.c (.v (.int .i64 (((x % 4294967296).toNat / 2 ^ i:Nat):Int)))),(1,.c (.v (.int .i64 (((y % 4294967296).toNat / 2 ^ i:Nat):Int))))],res:=λ_=>[],inv:=λi=>i<=32,meas:=λi=>32 - i }
 | _=>none
theorem aft(x y:Int) (rs:List Int) (aF:aaE.pre (x,y,rs,())):
 br (decide (x < (0:Int))) (mP IntKind.i64 (x+(4294967296:Int))/\br (decide (y < (0:Int))) (mP IntKind.i64 (y+(4294967296:Int))/\(∃x_1,x_1<=(32:Nat)/\(SV.c (SC.v (Value.int IntKind.i64 (0:Int)))=SV.c (SC.v (Value.int IntKind.i64 (x_1:Int)))/\SV.c (SC.v (Value.int IntKind.i64 (0:Int)))=SV.c (SC.v (Value.int IntKind.i64 (dR (x % (4294967296:Int)).toNat (y % (4294967296:Int)).toNat rs x_1)))/\SV.c (SC.v (Value.int IntKind.i64 (1:Int)))=SV.c (SC.v (Value.int IntKind.i64 (↑((2:Nat) ^ x_1):Int)))/\SV.c (SC.v (Value.int IntKind.i64 (x+(4294967296:Int))))=SV.c (SC.v (Value.int IntKind.i64 (↑((x % (4294967296:Int)).toNat / (2:Nat) ^ x_1):Int)))/\SV.c (SC.v (Value.int IntKind.i64 (y+(4294967296:Int))))=SV.c (SC.v (Value.int IntKind.i64 (↑((y % (4294967296:Int)).toNat / (2:Nat) ^ x_1):Int)))/\True)/\[(([]:Go.jl.Gd),ay.obj (203:Nat) (Sh.arr (4:Nat) jd) rs)]=[(([]:Go.jl.Gd),ay.obj (203:Nat) (Sh.arr (4:Nat) jd) rs)])/\∀(x_1:Nat),x_1<=(32:Nat)->br (decide ((x_1:Int) < (32:Int))) ((2:Int)≠(0:Int)/\mP IntKind.i64 ((2:Int) * (↑((x % (4294967296:Int)).toNat / (2:Nat) ^ x_1):Int).tmod (2:Int))/\(2:Int)≠(0:Int)/\mP IntKind.i64 ((2:Int) * (↑((x % (4294967296:Int)).toNat / (2:Nat) ^ x_1):Int).tmod (2:Int)+(↑((y % (4294967296:Int)).toNat / (2:Nat) ^ x_1):Int).tmod (2:Int))/\((0:Int)<=(2:Int) * (↑((x % (4294967296:Int)).toNat / (2:Nat) ^ x_1):Int).tmod (2:Int)+(↑((y % (4294967296:Int)).toNat / (2:Nat) ^ x_1):Int).tmod (2:Int)/\(2:Int) * (↑((x % (4294967296:Int)).toNat / (2:Nat) ^ x_1):Int).tmod (2:Int)+(↑((y % (4294967296:Int)).toNat / (2:Nat) ^ x_1):Int).tmod (2:Int) < (4:Int))/\((2:Int) * (↑((x % (4294967296:Int)).toNat / (2:Nat) ^ x_1):Int).tmod (2:Int)+(↑((y % (4294967296:Int)).toNat / (2:Nat) ^ x_1):Int).tmod (2:Int)).toNat < (4:Nat)/\∀(d:Int),rs[((2:Int) * (↑((x % (4294967296:Int)).toNat / (2:Nat) ^ x_1):Int).tmod (2:Int)+(↑((y % (4294967296:Int)).toNat / (2:Nat) ^ x_1):Int).tmod (2:Int)).toNat]?=some d->mP IntKind.i64 ((↑((2:Nat) ^ x_1):Int) * d)/\mP IntKind.i64 (dR (x % (4294967296:Int)).toNat (y % (4294967296:Int)).toNat rs x_1+(↑((2:Nat) ^ x_1):Int) * d)/\(2:Int)≠(0:Int)/\mP IntKind.i64 ((↑((x % (4294967296:Int)).toNat / (2:Nat) ^ x_1):Int).tdiv (2:Int))/\(2:Int)≠(0:Int)/\mP IntKind.i64 ((↑((y % (4294967296:Int)).toNat / (2:Nat) ^ x_1):Int).tdiv (2:Int))/\mP IntKind.i64 ((2:Int) * (↑((2:Nat) ^ x_1):Int))/\mP IntKind.i64 ((x_1:Int)+(1:Int))/\∃x',x'<=(32:Nat)/\(SV.c (SC.v (Value.int IntKind.i64 ((x_1:Int)+(1:Int))))=SV.c (SC.v (Value.int IntKind.i64 (x':Int)))/\SV.c (SC.v (Value.int IntKind.i64 (dR (x % (4294967296:Int)).toNat (y % (4294967296:Int)).toNat rs x_1+(↑((2:Nat) ^ x_1):Int) * d)))=SV.c (SC.v (Value.int IntKind.i64 (dR (x % (4294967296:Int)).toNat (y % (4294967296:Int)).toNat rs x')))/\SV.c (SC.v (Value.int IntKind.i64 ((2:Int) * (↑((2:Nat) ^ x_1):Int))))=SV.c (SC.v (Value.int IntKind.i64 (↑((2:Nat) ^ x'):Int)))/\SV.c (SC.v (Value.int IntKind.i64 ((↑((x % (4294967296:Int)).toNat / (2:Nat) ^ x_1):Int).tdiv (2:Int))))=SV.c (SC.v (Value.int IntKind.i64 (↑((x % (4294967296:Int)).toNat / (2:Nat) ^ x'):Int)))/\SV.c (SC.v (Value.int IntKind.i64 ((↑((y % (4294967296:Int)).toNat / (2:Nat) ^ x_1):Int).tdiv (2:Int))))=SV.c (SC.v (Value.int IntKind.i64 (↑((y % (4294967296:Int)).toNat / (2:Nat) ^ x'):Int)))/\True)/\[(([]:Go.jl.Gd),ay.obj (203:Nat) (Sh.arr (4:Nat) jd) rs)]=[(([]:Go.jl.Gd),ay.obj (203:Nat) (Sh.arr (4:Nat) jd) rs)]/\(32:Nat) - x' < (32:Nat) - x_1) (True/\([]:List Go.jl.ay)=[]/\aZ.one (SV.c (SC.v (Value.int IntKind.i64 (aH (dR (Int.toNat (x % (4294967296:jd.den))) (Int.toNat (y % (4294967296:jd.den))) rs (32:Nat))))))=aZ.one (SV.c (SC.v (Value.int IntKind.i64 (aH (dR (x % (4294967296:Int)).toNat (y % (4294967296:Int)).toNat rs x_1))))))) ((∃x_1,x_1<=(32:Nat)/\(SV.c (SC.v (Value.int IntKind.i64 (0:Int)))=SV.c (SC.v (Value.int IntKind.i64 (x_1:Int)))/\SV.c (SC.v (Value.int IntKind.i64 (0:Int)))=SV.c (SC.v (Value.int IntKind.i64 (dR (x % (4294967296:Int)).toNat (y % (4294967296:Int)).toNat rs x_1)))/\SV.c (SC.v (Value.int IntKind.i64 (1:Int)))=SV.c (SC.v (Value.int IntKind.i64 (↑((2:Nat) ^ x_1):Int)))/\SV.c (SC.v (Value.int IntKind.i64 (x+(4294967296:Int))))=SV.c (SC.v (Value.int IntKind.i64 (↑((x % (4294967296:Int)).toNat / (2:Nat) ^ x_1):Int)))/\SV.c (SC.v (Value.int IntKind.i64 y))=SV.c (SC.v (Value.int IntKind.i64 (↑((y % (4294967296:Int)).toNat / (2:Nat) ^ x_1):Int)))/\True)/\[(([]:Go.jl.Gd),ay.obj (203:Nat) (Sh.arr (4:Nat) jd) rs)]=[(([]:Go.jl.Gd),ay.obj (203:Nat) (Sh.arr (4:Nat) jd) rs)])/\∀(x_1:Nat),x_1<=(32:Nat)->br (decide ((x_1:Int) < (32:Int))) ((2:Int)≠(0:Int)/\mP IntKind.i64 ((2:Int) * (↑((x % (4294967296:Int)).toNat / (2:Nat) ^ x_1):Int).tmod (2:Int))/\(2:Int)≠(0:Int)/\mP IntKind.i64 ((2:Int) * (↑((x % (4294967296:Int)).toNat / (2:Nat) ^ x_1):Int).tmod (2:Int)+(↑((y % (4294967296:Int)).toNat / (2:Nat) ^ x_1):Int).tmod (2:Int))/\((0:Int)<=(2:Int) * (↑((x % (4294967296:Int)).toNat / (2:Nat) ^ x_1):Int).tmod (2:Int)+(↑((y % (4294967296:Int)).toNat / (2:Nat) ^ x_1):Int).tmod (2:Int)/\(2:Int) * (↑((x % (4294967296:Int)).toNat / (2:Nat) ^ x_1):Int).tmod (2:Int)+(↑((y % (4294967296:Int)).toNat / (2:Nat) ^ x_1):Int).tmod (2:Int) < (4:Int))/\((2:Int) * (↑((x % (4294967296:Int)).toNat / (2:Nat) ^ x_1):Int).tmod (2:Int)+(↑((y % (4294967296:Int)).toNat / (2:Nat) ^ x_1):Int).tmod (2:Int)).toNat < (4:Nat)/\∀(d:Int),rs[((2:Int) * (↑((x % (4294967296:Int)).toNat / (2:Nat) ^ x_1):Int).tmod (2:Int)+(↑((y % (4294967296:Int)).toNat / (2:Nat) ^ x_1):Int).tmod (2:Int)).toNat]?=some d->mP IntKind.i64 ((↑((2:Nat) ^ x_1):Int) * d)/\mP IntKind.i64 (dR (x % (4294967296:Int)).toNat (y % (4294967296:Int)).toNat rs x_1+(↑((2:Nat) ^ x_1):Int) * d)/\(2:Int)≠(0:Int)/\mP IntKind.i64 ((↑((x % (4294967296:Int)).toNat / (2:Nat) ^ x_1):Int).tdiv (2:Int))/\(2:Int)≠(0:Int)/\mP IntKind.i64 ((↑((y % (4294967296:Int)).toNat / (2:Nat) ^ x_1):Int).tdiv (2:Int))/\mP IntKind.i64 ((2:Int) * (↑((2:Nat) ^ x_1):Int))/\mP IntKind.i64 ((x_1:Int)+(1:Int))/\∃x',x'<=(32:Nat)/\(SV.c (SC.v (Value.int IntKind.i64 ((x_1:Int)+(1:Int))))=SV.c (SC.v (Value.int IntKind.i64 (x':Int)))/\SV.c (SC.v (Value.int IntKind.i64 (dR (x % (4294967296:Int)).toNat (y % (4294967296:Int)).toNat rs x_1+(↑((2:Nat) ^ x_1):Int) * d)))=SV.c (SC.v (Value.int IntKind.i64 (dR (x % (4294967296:Int)).toNat (y % (4294967296:Int)).toNat rs x')))/\SV.c (SC.v (Value.int IntKind.i64 ((2:Int) * (↑((2:Nat) ^ x_1):Int))))=SV.c (SC.v (Value.int IntKind.i64 (↑((2:Nat) ^ x'):Int)))/\SV.c (SC.v (Value.int IntKind.i64 ((↑((x % (4294967296:Int)).toNat / (2:Nat) ^ x_1):Int).tdiv (2:Int))))=SV.c (SC.v (Value.int IntKind.i64 (↑((x % (4294967296:Int)).toNat / (2:Nat) ^ x'):Int)))/\SV.c (SC.v (Value.int IntKind.i64 ((↑((y % (4294967296:Int)).toNat / (2:Nat) ^ x_1):Int).tdiv (2:Int))))=SV.c (SC.v (Value.int IntKind.i64 (↑((y % (4294967296:Int)).toNat / (2:Nat) ^ x'):Int)))/\True)/\[(([]:Go.jl.Gd),ay.obj (203:Nat) (Sh.arr (4:Nat) jd) rs)]=[(([]:Go.jl.Gd),ay.obj (203:Nat) (Sh.arr (4:Nat) jd) rs)]/\(32:Nat) - x' < (32:Nat) - x_1) (True/\([]:List Go.jl.ay)=[]/\aZ.one (SV.c (SC.v (Value.int IntKind.i64 (aH (dR (Int.toNat (x % (4294967296:jd.den))) (Int.toNat (y % (4294967296:jd.den))) rs (32:Nat))))))=aZ.one (SV.c (SC.v (Value.int IntKind.i64 (aH (dR (x % (4294967296:Int)).toNat (y % (4294967296:Int)).toNat rs x_1)))))))) (br (decide (y < (0:Int))) (mP IntKind.i64 (y+(4294967296:Int))/\(∃x_1,x_1<=(32:Nat)/\(SV.c (SC.v (Value.int IntKind.i64 (0:Int)))=SV.c (SC.v (Value.int IntKind.i64 (x_1:Int)))/\SV.c (SC.v (Value.int IntKind.i64 (0:Int)))=SV.c (SC.v (Value.int IntKind.i64 (dR (x % (4294967296:Int)).toNat (y % (4294967296:Int)).toNat rs x_1)))/\SV.c (SC.v (Value.int IntKind.i64 (1:Int)))=SV.c (SC.v (Value.int IntKind.i64 (↑((2:Nat) ^ x_1):Int)))/\SV.c (SC.v (Value.int IntKind.i64 x))=SV.c (SC.v (Value.int IntKind.i64 (↑((x % (4294967296:Int)).toNat / (2:Nat) ^ x_1):Int)))/\SV.c (SC.v (Value.int IntKind.i64 (y+(4294967296:Int))))=SV.c (SC.v (Value.int IntKind.i64 (↑((y % (4294967296:Int)).toNat / (2:Nat) ^ x_1):Int)))/\True)/\[(([]:Go.jl.Gd),ay.obj (203:Nat) (Sh.arr (4:Nat) jd) rs)]=[(([]:Go.jl.Gd),ay.obj (203:Nat) (Sh.arr (4:Nat) jd) rs)])/\∀(x_1:Nat),x_1<=(32:Nat)->br (decide ((x_1:Int) < (32:Int))) ((2:Int)≠(0:Int)/\mP IntKind.i64 ((2:Int) * (↑((x % (4294967296:Int)).toNat / (2:Nat) ^ x_1):Int).tmod (2:Int))/\(2:Int)≠(0:Int)/\mP IntKind.i64 ((2:Int) * (↑((x % (4294967296:Int)).toNat / (2:Nat) ^ x_1):Int).tmod (2:Int)+(↑((y % (4294967296:Int)).toNat / (2:Nat) ^ x_1):Int).tmod (2:Int))/\((0:Int)<=(2:Int) * (↑((x % (4294967296:Int)).toNat / (2:Nat) ^ x_1):Int).tmod (2:Int)+(↑((y % (4294967296:Int)).toNat / (2:Nat) ^ x_1):Int).tmod (2:Int)/\(2:Int) * (↑((x % (4294967296:Int)).toNat / (2:Nat) ^ x_1):Int).tmod (2:Int)+(↑((y % (4294967296:Int)).toNat / (2:Nat) ^ x_1):Int).tmod (2:Int) < (4:Int))/\((2:Int) * (↑((x % (4294967296:Int)).toNat / (2:Nat) ^ x_1):Int).tmod (2:Int)+(↑((y % (4294967296:Int)).toNat / (2:Nat) ^ x_1):Int).tmod (2:Int)).toNat < (4:Nat)/\∀(d:Int),rs[((2:Int) * (↑((x % (4294967296:Int)).toNat / (2:Nat) ^ x_1):Int).tmod (2:Int)+(↑((y % (4294967296:Int)).toNat / (2:Nat) ^ x_1):Int).tmod (2:Int)).toNat]?=some d->mP IntKind.i64 ((↑((2:Nat) ^ x_1):Int) * d)/\mP IntKind.i64 (dR (x % (4294967296:Int)).toNat (y % (4294967296:Int)).toNat rs x_1+(↑((2:Nat) ^ x_1):Int) * d)/\(2:Int)≠(0:Int)/\mP IntKind.i64 ((↑((x % (4294967296:Int)).toNat / (2:Nat) ^ x_1):Int).tdiv (2:Int))/\(2:Int)≠(0:Int)/\mP IntKind.i64 ((↑((y % (4294967296:Int)).toNat / (2:Nat) ^ x_1):Int).tdiv (2:Int))/\mP IntKind.i64 ((2:Int) * (↑((2:Nat) ^ x_1):Int))/\mP IntKind.i64 ((x_1:Int)+(1:Int))/\∃x',x'<=(32:Nat)/\(SV.c (SC.v (Value.int IntKind.i64 ((x_1:Int)+(1:Int))))=SV.c (SC.v (Value.int IntKind.i64 (x':Int)))/\SV.c (SC.v (Value.int IntKind.i64 (dR (x % (4294967296:Int)).toNat (y % (4294967296:Int)).toNat rs x_1+(↑((2:Nat) ^ x_1):Int) * d)))=SV.c (SC.v (Value.int IntKind.i64 (dR (x % (4294967296:Int)).toNat (y % (4294967296:Int)).toNat rs x')))/\SV.c (SC.v (Value.int IntKind.i64 ((2:Int) * (↑((2:Nat) ^ x_1):Int))))=SV.c (SC.v (Value.int IntKind.i64 (↑((2:Nat) ^ x'):Int)))/\SV.c (SC.v (Value.int IntKind.i64 ((↑((x % (4294967296:Int)).toNat / (2:Nat) ^ x_1):Int).tdiv (2:Int))))=SV.c (SC.v (Value.int IntKind.i64 (↑((x % (4294967296:Int)).toNat / (2:Nat) ^ x'):Int)))/\SV.c (SC.v (Value.int IntKind.i64 ((↑((y % (4294967296:Int)).toNat / (2:Nat) ^ x_1):Int).tdiv (2:Int))))=SV.c (SC.v (Value.int IntKind.i64 (↑((y % (4294967296:Int)).toNat / (2:Nat) ^ x'):Int)))/\True)/\[(([]:Go.jl.Gd),ay.obj (203:Nat) (Sh.arr (4:Nat) jd) rs)]=[(([]:Go.jl.Gd),ay.obj (203:Nat) (Sh.arr (4:Nat) jd) rs)]/\(32:Nat) - x' < (32:Nat) - x_1) (True/\([]:List Go.jl.ay)=[]/\aZ.one (SV.c (SC.v (Value.int IntKind.i64 (aH (dR (Int.toNat (x % (4294967296:jd.den))) (Int.toNat (y % (4294967296:jd.den))) rs (32:Nat))))))=aZ.one (SV.c (SC.v (Value.int IntKind.i64 (aH (dR (x % (4294967296:Int)).toNat (y % (4294967296:Int)).toNat rs x_1))))))) ((∃x_1,x_1<=(32:Nat)/\(SV.c (SC.v (Value.int IntKind.i64 (0:Int)))=SV.c (SC.v (Value.int IntKind.i64 (x_1:Int)))/\SV.c (SC.v (Value.int IntKind.i64 (0:Int)))=SV.c (SC.v (Value.int IntKind.i64 (dR (x % (4294967296:Int)).toNat (y % (4294967296:Int)).toNat rs x_1)))/\SV.c (SC.v (Value.int IntKind.i64 (1:Int)))=SV.c (SC.v (Value.int IntKind.i64 (↑((2:Nat) ^ x_1):Int)))/\SV.c (SC.v (Value.int IntKind.i64 x))=SV.c (SC.v (Value.int IntKind.i64 (↑((x % (4294967296:Int)).toNat / (2:Nat) ^ x_1):Int)))/\SV.c (SC.v (Value.int IntKind.i64 y))=SV.c (SC.v (Value.int IntKind.i64 (↑((y % (4294967296:Int)).toNat / (2:Nat) ^ x_1):Int)))/\True)/\[(([]:Go.jl.Gd),ay.obj (203:Nat) (Sh.arr (4:Nat) jd) rs)]=[(([]:Go.jl.Gd),ay.obj (203:Nat) (Sh.arr (4:Nat) jd) rs)])/\∀(x_1:Nat),x_1<=(32:Nat)->br (decide ((x_1:Int) < (32:Int))) ((2:Int)≠(0:Int)/\mP IntKind.i64 ((2:Int) * (↑((x % (4294967296:Int)).toNat / (2:Nat) ^ x_1):Int).tmod (2:Int))/\(2:Int)≠(0:Int)/\mP IntKind.i64 ((2:Int) * (↑((x % (4294967296:Int)).toNat / (2:Nat) ^ x_1):Int).tmod (2:Int)+(↑((y % (4294967296:Int)).toNat / (2:Nat) ^ x_1):Int).tmod (2:Int))/\((0:Int)<=(2:Int) * (↑((x % (4294967296:Int)).toNat / (2:Nat) ^ x_1):Int).tmod (2:Int)+(↑((y % (4294967296:Int)).toNat / (2:Nat) ^ x_1):Int).tmod (2:Int)/\(2:Int) * (↑((x % (4294967296:Int)).toNat / (2:Nat) ^ x_1):Int).tmod (2:Int)+(↑((y % (4294967296:Int)).toNat / (2:Nat) ^ x_1):Int).tmod (2:Int) < (4:Int))/\((2:Int) * (↑((x % (4294967296:Int)).toNat / (2:Nat) ^ x_1):Int).tmod (2:Int)+(↑((y % (4294967296:Int)).toNat / (2:Nat) ^ x_1):Int).tmod (2:Int)).toNat < (4:Nat)/\∀(d:Int),rs[((2:Int) * (↑((x % (4294967296:Int)).toNat / (2:Nat) ^ x_1):Int).tmod (2:Int)+(↑((y % (4294967296:Int)).toNat / (2:Nat) ^ x_1):Int).tmod (2:Int)).toNat]?=some d->mP IntKind.i64 ((↑((2:Nat) ^ x_1):Int) * d)/\mP IntKind.i64 (dR (x % (4294967296:Int)).toNat (y % (4294967296:Int)).toNat rs x_1+(↑((2:Nat) ^ x_1):Int) * d)/\(2:Int)≠(0:Int)/\mP IntKind.i64 ((↑((x % (4294967296:Int)).toNat / (2:Nat) ^ x_1):Int).tdiv (2:Int))/\(2:Int)≠(0:Int)/\mP IntKind.i64 ((↑((y % (4294967296:Int)).toNat / (2:Nat) ^ x_1):Int).tdiv (2:Int))/\mP IntKind.i64 ((2:Int) * (↑((2:Nat) ^ x_1):Int))/\mP IntKind.i64 ((x_1:Int)+(1:Int))/\∃x',x'<=(32:Nat)/\(SV.c (SC.v (Value.int IntKind.i64 ((x_1:Int)+(1:Int))))=SV.c (SC.v (Value.int IntKind.i64 (x':Int)))/\SV.c (SC.v (Value.int IntKind.i64 (dR (x % (4294967296:Int)).toNat (y % (4294967296:Int)).toNat rs x_1+(↑((2:Nat) ^ x_1):Int) * d)))=SV.c (SC.v (Value.int IntKind.i64 (dR (x % (4294967296:Int)).toNat (y % (4294967296:Int)).toNat rs x')))/\SV.c (SC.v (Value.int IntKind.i64 ((2:Int) * (↑((2:Nat) ^ x_1):Int))))=SV.c (SC.v (Value.int IntKind.i64 (↑((2:Nat) ^ x'):Int)))/\SV.c (SC.v (Value.int IntKind.i64 ((↑((x % (4294967296:Int)).toNat / (2:Nat) ^ x_1):Int).tdiv (2:Int))))=SV.c (SC.v (Value.int IntKind.i64 (↑((x % (4294967296:Int)).toNat / (2:Nat) ^ x'):Int)))/\SV.c (SC.v (Value.int IntKind.i64 ((↑((y % (4294967296:Int)).toNat / (2:Nat) ^ x_1):Int).tdiv (2:Int))))=SV.c (SC.v (Value.int IntKind.i64 (↑((y % (4294967296:Int)).toNat / (2:Nat) ^ x'):Int)))/\True)/\[(([]:Go.jl.Gd),ay.obj (203:Nat) (Sh.arr (4:Nat) jd) rs)]=[(([]:Go.jl.Gd),ay.obj (203:Nat) (Sh.arr (4:Nat) jd) rs)]/\(32:Nat) - x' < (32:Nat) - x_1) (True/\([]:List Go.jl.ay)=[]/\aZ.one (SV.c (SC.v (Value.int IntKind.i64 (aH (dR (Int.toNat (x % (4294967296:jd.den))) (Int.toNat (y % (4294967296:jd.den))) rs (32:Nat))))))=aZ.one (SV.c (SC.v (Value.int IntKind.i64 (aH (dR (x % (4294967296:Int)).toNat (y % (4294967296:Int)).toNat rs x_1)))))))):=by
 delta jd;obtain⟨hx,hy,hv⟩:(-2147483648<=x/\x<=2147483647)/\(-2147483648<=y/\y<=2147483647)/\(∀v∈rs,v=0\/v=1):=aF;have vi:∀{a b:Int},a=b->SV.c (SC.v (Value.int .i64 a))=SV.c (SC.v (Value.int .i64 b)):=λh=>by rw[h]
 have x0:∀(z:Int),((z % 4294967296).toNat / 2 ^ 0:Nat)=(z % 4294967296).toNat:=λz=>by simp
 have step:∀i:Nat,i<=32->br (decide ((i:Int) < 32)) ((2:Int)≠0/\mP .i64 (2 * ((((x % 4294967296).toNat / 2 ^ i:Nat):Int)).tmod 2)/\(2:Int)≠0/\mP .i64 (2 * ((((x % 4294967296).toNat / 2 ^ i:Nat):Int)).tmod 2+((((y % 4294967296).toNat / 2 ^ i:Nat):Int)).tmod 2)/\(0<=2 * ((((x % 4294967296).toNat / 2 ^ i:Nat):Int)).tmod 2+((((y % 4294967296).toNat / 2 ^ i:Nat):Int)).tmod 2/\2 * ((((x % 4294967296).toNat / 2 ^ i:Nat):Int)).tmod 2+((((y % 4294967296).toNat / 2 ^ i:Nat):Int)).tmod 2 < 4)/\(2 * ((((x % 4294967296).toNat / 2 ^ i:Nat):Int)).tmod 2+((((y % 4294967296).toNat / 2 ^ i:Nat):Int)).tmod 2).toNat < 4 /\
  ∀(d:Int),rs[(2 * ((((x % 4294967296).toNat / 2 ^ i:Nat):Int)).tmod 2+((((y % 4294967296).toNat / 2 ^ i:Nat):Int)).tmod 2).toNat]?=some d->mP .i64 (((2 ^ i:Nat):Int) * d)/\mP .i64 (dR (x % 4294967296).toNat (y % 4294967296).toNat rs i+((2 ^ i:Nat):Int) * d)/\(2:Int)≠0/\mP .i64 ((((x % 4294967296).toNat / 2 ^ i:Nat):Int).tdiv 2)/\(2:Int)≠0/\mP .i64 ((((y % 4294967296).toNat / 2 ^ i:Nat):Int).tdiv 2)/\mP .i64 (2 * ((2 ^ i:Nat):Int))/\mP .i64 ((i:Int)+1) /\
    ∃x':Nat,x'<=32/\(SV.c (SC.v (Value.int .i64 ((i:Int)+1)))=SV.c (SC.v (Value.int .i64 (x':Int)))/\SV.c (SC.v (Value.int .i64 (dR (x % 4294967296).toNat (y % 4294967296).toNat rs i+((2 ^ i:Nat):Int) * d)))=SV.c (SC.v (Value.int .i64 (dR (x % 4294967296).toNat (y % 4294967296).toNat rs x')))/\SV.c (SC.v (Value.int .i64 (2 * ((2 ^ i:Nat):Int))))=SV.c (SC.v (Value.int .i64 ((2 ^ x':Nat):Int)))/\SV.c (SC.v (Value.int .i64 ((((x % 4294967296).toNat / 2 ^ i:Nat):Int).tdiv 2)))=SV.c (SC.v (Value.int .i64 (((x % 4294967296).toNat / 2 ^ x':Nat):Int)))/\SV.c (SC.v (Value.int .i64 ((((y % 4294967296).toNat / 2 ^ i:Nat):Int).tdiv 2)))=SV.c (SC.v (Value.int .i64 (((y % 4294967296).toNat / 2 ^ x':Nat):Int)))/\True)/\[(([]:Go.jl.Gd),ay.obj 203 (.arr 4 (.int .i64)) rs)]=[(([]:Go.jl.Gd),ay.obj 203 (.arr 4 (.int .i64)) rs)]/\32 - x' < 32 - i) (True/\([]:List Go.jl.ay)=[]/\aZ.one (SV.c (SC.v (Value.int .i64 (aH (dR (x % 4294967296).toNat (y % 4294967296).toNat rs 32)))))=aZ.one (SV.c (SC.v (Value.int .i64 (aH (dR (x % 4294967296).toNat (y % 4294967296).toNat rs i)))))):=by
  intro i hi;have hr:=Hr (X:=(x % 4294967296).toNat) (Y:=(y % 4294967296).toNat) hv i;have hX:(x % 4294967296).toNat < 4294967296:=by omega
  have hY:(y % 4294967296).toNat < 4294967296:=by omega
  have hb:dR (x % 4294967296).toNat (y % 4294967296).toNat rs (i+1)=dR (x % 4294967296).toNat (y % 4294967296).toNat rs i+2 ^ i * rs.getD (2 * ((x % 4294967296).toNat / 2 ^ i % 2)+(y % 4294967296).toNat / 2 ^ i % 2) 0:=rfl;generalize (x % 4294967296).toNat=X at *;generalize (y % 4294967296).toNat=Y at *;have hc:(2:Int) ^ i=((2 ^ i:Nat):Int):=by push_cast;rfl
  rw[hc]at hr hb;have hu:X / 2 ^ (i+1)=X / 2 ^ i / 2:=by rw[Nat.pow_succ,Nat.div_div_eq_div_mul]
  have hw:Y / 2 ^ (i+1)=Y / 2 ^ i / 2:=by rw[Nat.pow_succ,Nat.div_div_eq_div_mul]
  have lx:X / 2 ^ i<=X:=Nat.div_le_self _ _;have ly:Y / 2 ^ i<=Y:=Nat.div_le_self _ _;have hp1:2 ^ (i+1)=2 * 2 ^ i:=by rw[Nat.pow_succ];omega
  refine aO.2 ⟨λh=>?_,λh=>⟨trivial,rfl,?_⟩⟩
  .have hp:2 ^ i<=2147483648:=by
    have:=Nat.pow_le_pow_right (n:=2) (by omega) (show i<=31 by omega)
    simpa using this
   generalize X / 2 ^ i=u at *;generalize Y / 2 ^ i=w at *;have t1:((u:Int)).tmod 2=((u % 2:Nat):Int):=by rw[ahG (by omega)];omega
   have t2:((w:Int)).tmod 2=((w % 2:Nat):Int):=by rw[ahG (by omega)];omega
   have t3:((u:Int)).tdiv 2=((u / 2:Nat):Int):=by rw[A71 (by omega)];omega
   have t4:((w:Int)).tdiv 2=((w / 2:Nat):Int):=by rw[A71 (by omega)];omega
   rw[t1,t2,t3,t4];have ei:(2 * ((u % 2:Nat):Int)+((w % 2:Nat):Int)).toNat=2 * (u % 2)+w % 2:=by omega
   rw[ei];refine⟨by decide,ak.2 (by omega),by decide,ak.2 (by omega),by omega,by omega,λd hd=>?_⟩
   have hd1:=hv d (ig hd);have hg:rs.getD (2 * (u % 2)+w % 2) 0=d:=by rw[J7,hd];rfl
   rw[hg]at hb;have hm:((2 ^ i:Nat):Int) * d=0\/((2 ^ i:Nat):Int) * d=((2 ^ i:Nat):Int):=by
    rcases hd1 with e | e
    .left;rw[e];simp
    .right;rw[e];simp
   refine⟨ak.2 (by omega),ak.2 (by omega),by decide,ak.2 (by omega),by decide,ak.2 (by omega),ak.2 (by omega),ak.2 (by omega),i+1,by omega,⟨rfl,vi hb.symm,vi (by rw[hp1];omega),vi (by rw[hu]),vi (by rw[hw]),trivial⟩,rfl,by omega⟩
  .have:i=32:=by omega
   rw[this]
 refine aO.2 ⟨λh=>⟨ak.2 (by omega),aO.2 ⟨λh2=>⟨ak.2 (by omega),⟨0,by omega,⟨rfl,rfl,rfl,vi (by rw[x0];omega),vi (by rw[x0];omega),trivial⟩,rfl⟩,step⟩,λh2=>⟨⟨0,by omega,⟨rfl,rfl,rfl,vi (by rw[x0];omega),vi (by rw[x0];omega),trivial⟩,rfl⟩,step⟩⟩⟩,
  λh=>aO.2 ⟨λh2=>⟨ak.2 (by omega),⟨0,by omega,⟨rfl,rfl,rfl,vi (by rw[x0];omega),vi (by rw[x0];omega),trivial⟩,rfl⟩,step⟩,λh2=>⟨⟨0,by omega,⟨rfl,rfl,rfl,vi (by rw[x0];omega),vi (by rw[x0];omega),trivial⟩,rfl⟩,step⟩⟩⟩
theorem aaF:aT aS.gd 194 aaE:=
 dQ (cx:=aS) (n:=42) (cl:=[(193,JG)]) (rc:=[]) au ⟨MR,trivial⟩ Tryz.func194 λd hd=>by
  obtain⟨x,y,rs,⟨⟩⟩:=d;exact aI (akF x y rs) (aft x y rs hd) (by kernel_rfl)
abbrev aaG:CT:={ ps:=[.int .i64,.int .i64,.int .i64],pre:=λd=>True,res:=λd=>([],.iq [.c (.v (.int .i64 (dY d.1 d.2.1 d.2.2.1).1)),.c (.v (.int .i64 (dY d.1 d.2.1 d.2.2.1).2))]) }
theorem afu(f a b:Int):
 let z1:=[cI ((dY f a b).fst),cI ((dY f a b).snd)];let z2:=(-2147483648)<=aH a/\aH a<=2147483647;let z3:=(-2147483648)<=aH b/\aH b<=2147483647;let z4:=[(0:Int),(0:Int),(0:Int),(1:Int)];let z7:=Int.toNat (aH a % iU);let z8:=Int.toNat (aH b % iU);let z5:=[(0:Int),(1:Int),(1:Int),(1:Int)];let z6:=[(0:Int),(1:Int),(1:Int),(0:Int)];True/\True/\br (decide (f=1)) (iR (aH a+aH b)/\True/\rT z1 [cI (aH (aH a+aH b)),cI 0]) (br (decide (f=2)) (iR (aH a - aH b)/\True/\rT z1 [cI (aH (aH a - aH b)),cI 0]) (br (decide (f=3)) (iR (aH a * aH b)/\True/\rT z1 [cI (aH (aH a * aH b)),cI 0]) (br (decide (f=4)) ((z2/\z3/\∀(v:Int),v∈z4->v=0\/v=1)/\rT z1 [cI (aH (dR z7 z8 z4 32)),cI 0]) (br (decide (f=5)) ((z2/\z3/\∀(v:Int),v∈z5->v=0\/v=1)/\rT z1 [cI (aH (dR z7 z8 z5 32)),cI 0]) (br (decide (f=6)) ((z2/\z3/\∀(v:Int),v∈z6->v=0\/v=1)/\rT z1 [cI (aH (dR z7 z8 z6 32)),cI 0]) (br (decide (f=7)) (True/\rT z1 [cI (if decide (aH a=aH b)=true then(1:Int) else(0:Int)),cI 0]) (br (decide (f=8)) (True/\rT z1 [cI (if(!decide (aH a=aH b))=true then(1:Int) else(0:Int)),cI 0]) (br (decide (f=9)) (True/\rT z1 [cI (if decide (aH a < aH b)=true then(1:Int) else(0:Int)),cI 0]) (br (decide (f=10)) (True/\rT z1 [cI (if decide (aH a<=aH b)=true then(1:Int) else(0:Int)),cI 0]) (rT z1 [cI 0,cI 8])))))))))):=by
 conv=>zeta
 delta cI rT iR iU;have ha:=nY a;have hb:=nY b;have hm:=aht ha hb;have b1:=aac (x:=aH a) (y:=aH b);have b2:=ae6 (x:=aH a) (y:=aH b);have b3:=aad (x:=aH a) (y:=aH b);unfold dY
 refine⟨trivial,trivial,aO.2 ⟨λh=>⟨ak.2 (by omega),trivial,rfl,by rw[if_pos h]⟩,λn1=>aO.2 ⟨λh=>⟨ak.2 (by omega),trivial,rfl,by rw[if_neg n1,if_pos h]⟩,λn2=>aO.2 ⟨λh=>⟨ak.2 (by omega),trivial,rfl,by rw[if_neg n1,if_neg n2,if_pos h]⟩,λn3=>aO.2 ⟨λh=>⟨⟨ha,hb,λv hv=>by simp at hv;omega⟩,rfl,by rw[if_neg n1,if_neg n2,if_neg n3,if_pos h];exact rG (λz=>aZ.iq [SV.c (SC.v (Value.int .i64 z)),SV.c (SC.v (Value.int .i64 0))]) b1.symm⟩,λn4=>aO.2 ⟨λh=>⟨⟨ha,hb,λv hv=>by simp at hv;omega⟩,rfl,by rw[if_neg n1,if_neg n2,if_neg n3,if_neg n4,if_pos h];exact rG (λz=>aZ.iq [SV.c (SC.v (Value.int .i64 z)),SV.c (SC.v (Value.int .i64 0))]) b2.symm⟩,λn5=>aO.2 ⟨λh=>⟨⟨ha,hb,λv hv=>by simp at hv;omega⟩,rfl,by rw[if_neg n1,if_neg n2,if_neg n3,if_neg n4,if_neg n5,if_pos h];exact rG (λz=>aZ.iq [SV.c (SC.v (Value.int .i64 z)),SV.c (SC.v (Value.int .i64 0))]) b3.symm⟩,λn6=>aO.2 ⟨λh=>⟨trivial,rfl,by simp[h]⟩,λn7=>aO.2 ⟨λh=>⟨trivial,rfl,by simp[h]⟩,λn8=>aO.2 ⟨λh=>⟨trivial,rfl,by simp[h]⟩,λn9=>aO.2 ⟨λh=>⟨trivial,rfl,by simp[h]⟩,λn10=>⟨rfl,by simp[n1,n2,n3,n4,n5,n6,n7,n8,n9,n10]⟩⟩⟩⟩⟩⟩⟩⟩⟩⟩⟩⟩
theorem aaH:aT aS.gd 159 aaG:=
 dQ (cx:=aS) (n:=75) (cl:=[(193,JG),(195,aaC),(194,aaE)]) (rc:=[]) au ⟨MR,aaD,aaF,trivial⟩ Tryz.func159 λd hd=>by
  obtain⟨f,a,b,⟨⟩⟩:=d;exact aI (λ_=>none) (afu f a b) (by kernel_rfl)
abbrev aaI:CT:={ ps:=[.int .i64],pre:=λd=>True,res:=λd=>([],vB (jr d.1)) }
theorem afv(op:Int):
 qB (jr op) (decide (8<=op) && decide (op<=22)):=by
 delta qB;refine⟨rfl,?_⟩;rw[show jr op=(decide (8<=op) && decide (op<=22)) by unfold jr;rw[Fz];simp]
theorem aaJ:aT aS.gd 152 aaI:=
 jD (cx:=aS) (n:=9) (cl:=[]) au trivial Tryz.func152 λd hd=>by
  obtain⟨op,⟨⟩⟩:=d;exact aI (λ_=>none) (afv op) (by kernel_rfl)
abbrev MS:CT:={ ps:=[.int .i64],pre:=λd=>d.1<=9223372036854775807,res:=λd=>([],vB (decide (0<=aV d.1))) }
abbrev anP(id:Int):Nat->Option (St->jq):=λk=>match k with
 | 2=>some λ_=>.inv { α:=Nat×Int,slots:=λx=>[(3,.c (.v (.int .i64 x.1))),(0,.c (.v (.int .i64 x.2)))],res:=λ_=>[],inv:=λx=>x.1<=5/\x.2<=9223372036854775807/\aV id=if x.2 < 0 then -1 else dS (5 - x.1) x.1 x.2,meas:=λx=>5 - x.1 }
 | _=>none
theorem akG(id:Int) (aF:MS.pre (id,())):
 let z1:=λ(x:Nat×Int)=>x.fst<=5/\x.snd<=9223372036854775807/\aV id=if x.snd < 0 then(-1:Int) else dS (5 - x.fst) (x.fst:Int) x.snd;let z2:=qB (decide (0<=aV id)) false;(∃(x:Nat×Int),(z1 x)/\(cI 0=cI (x.fst:Int)/\cI id=cI x.snd/\True)/\([]:List dJ)=[])/\∀(x:Nat×Int),(z1 x)->br (decide ((x.fst:Int)<=(4:Int))) (br (decide (x.snd < 0)) z2 (br (decide (x.snd < 8)) (qB (decide (0<=aV id)) true) ((8:Int)≠(0:Int)/\br (decide (7<=x.snd.tmod (8:Int))) z2 ((8:Int)≠(0:Int)/\iR (x.snd.tdiv (8:Int))/\iR (x.snd.tdiv (8:Int) - (1:Int))/\iR ((x.fst:Int)+(1:Int))/\∃(x':Nat×Int),(z1 x')/\(cI ((x.fst:Int)+(1:Int))=cI (x'.fst:Int)/\cI (x.snd.tdiv (8:Int) - (1:Int))=cI x'.snd/\True)/\([]:List dJ)=[]/\5 - x'.fst < 5 - x.fst)))) z2:=by
 conv=>zeta
 delta dJ cI qB iR;have hp:id<=9223372036854775807:=aF;refine⟨⟨(0,id),⟨by omega,hp,rfl⟩,⟨rfl,rfl,trivial⟩,rfl⟩,λx hx=>?_⟩
 obtain⟨k,v⟩:=x;obtain⟨x1,x2,x3⟩:=hx;have x1:k<=5:=x1;have x2:v<=9223372036854775807:=x2;have x3:aV id=if v < 0 then -1 else dS (5 - k) k v:=x3
 refine aO.2 ⟨λh=>aO.2 ⟨λh2=>?_,λh2=>aO.2 ⟨λh3=>?_,λh3=>⟨by decide,aO.2 ⟨λh4=>?_,λh4=>?_⟩⟩⟩⟩,λh=>?_⟩
 .have h2:v < 0:=h2;rw[if_pos h2]at x3;rw[x3];exact⟨rfl,rfl⟩
 all_goals first | (have h:k<=4:=by(have:(k:Int)<=4:=h);omega) | skip
 all_goals first | (have h2:¬v < 0:=h2) | skip
 .have h3:v < 8:=h3;rw[if_neg h2]at x3;obtain⟨m,hm⟩:∃m,5 - k=m+1:=⟨4 - k,by omega⟩
  rw[hm,dS,if_pos h3]at x3;rw[x3,show decide ((0:Int)<=k)=true from wV (by omega)];exact⟨rfl,rfl⟩
 .have h3:¬v < 8:=h3;have h4:7<=v.tmod 8:=h4;rw[if_neg h2]at x3;obtain⟨m,hm⟩:∃m,5 - k=m+1:=⟨4 - k,by omega⟩
  rw[hm,dS,if_neg h3,if_pos h4]at x3;rw[x3];exact⟨rfl,rfl⟩
 .have h3:¬v < 8:=h3;have h4:¬7<=v.tmod 8:=h4;rw[if_neg h2]at x3;obtain⟨m,hm⟩:∃m,5 - k=m+1:=⟨4 - k,by omega⟩
  rw[hm,dS,if_neg h3,if_neg h4]at x3;have e:v.tdiv 8=v / 8:=A71 (by omega)
  refine⟨by decide,ak.2 (show(-9223372036854775808:Int)<=v.tdiv 8/\v.tdiv 8<=9223372036854775807 by omega),ak.2 (show(-9223372036854775808:Int)<=v.tdiv 8 - 1/\v.tdiv 8 - 1<=9223372036854775807 by omega),ak.2 (show(-9223372036854775808:Int)<=(k:Int)+1/\(k:Int)+1<=9223372036854775807 by omega),(k+1,v.tdiv 8 - 1),⟨show k+1<=5 by omega,show v.tdiv 8 - 1<=9223372036854775807 by omega,?_⟩,⟨rfl,rfl,trivial⟩,rfl,show 5 - (k+1) < 5 - k by omega⟩
  show aV id=if v.tdiv 8 - 1 < 0 then -1 else dS (5 - (k+1)) ((k+1:Nat):Int) (v.tdiv 8 - 1)
  rw[if_neg (by omega),x3,show 5 - (k+1)=m by omega];rfl
 .have h:¬k<=4:=by
   have:¬(k:Int)<=4:=h;omega
  rw[show 5 - k=0 by omega]at x3
  have:aV id = -1:=by rw[x3];split<;>rfl
  rw[this];exact⟨rfl,rfl⟩
theorem JH:aT aS.gd 80 MS:=
 jD (cx:=aS) (n:=18) (cl:=[]) au trivial Tryz.func80 λd hd=>by
  obtain⟨id,⟨⟩⟩:=d;exact aI (anP id) (akG id hd) (by kernel_rfl)
abbrev Si:CT:={ ps:=[.int .i64],pre:=λd=>d.1<=9223372036854775807,res:=λd=>([],.one (.c (.v (.int .i64 (iC d.1))))) }
abbrev akH(id:Int):Nat->Option (St->jq):=λk=>match k with
 | 4=>some λ_=>.inv { α:=Nat×Int,slots:=λx=>[(3,.c (.v (.int .i64 x.1))),(0,.c (.v (.int .i64 x.2)))],res:=λ_=>[],inv:=λx=>x.1<=4/\0<=x.2/\x.2<=9223372036854775807/\0<=aV id/\dS (5 - x.1) x.1 x.2=aV id,meas:=λx=>x.2.toNat }
 | _=>none
theorem afw(id:Int) (aF:Si.pre (id,())):
 let z1:=λ(x:Nat×Int)=>x.fst<=4/\0<=x.snd/\x.snd<=9223372036854775807/\0<=aV id/\dS (5 - x.fst) (x.fst:Int) x.snd=aV id;id<=9223372036854775807/\br (!decide (0<=aV id)) (qI (iC id) (0:Int)) ((∃(x:Nat×Int),(z1 x)/\(cI 0=cI (x.fst:Int)/\cI id=cI x.snd/\True)/\([]:List dJ)=[])/\∀(x:Nat×Int),x.fst<=4/\0<=x.snd/\x.snd<=9223372036854775807/\0<=aV id/\dS (5 - x.fst) (x.fst:Int) x.snd=aV id->br (decide (8<=x.snd)) ((8:Int)≠(0:Int)/\iR (x.snd.tdiv (8:Int))/\iR (x.snd.tdiv (8:Int) - (1:Int))/\iR ((x.fst:Int)+(1:Int))/\∃(x':Nat×Int),(z1 x')/\(cI ((x.fst:Int)+(1:Int))=cI (x'.fst:Int)/\cI (x.snd.tdiv (8:Int) - (1:Int))=cI x'.snd/\True)/\([]:List dJ)=[]/\x'.snd.toNat < x.snd.toNat) (qI (iC id) (x.fst:Int))):=by
 conv=>zeta
 delta dJ cI qI iR;have hp:id<=9223372036854775807:=aF;refine⟨hp,ah.2 ⟨λh=>?_,λh=>?_⟩⟩
 .have h:¬0<=aV id:=by simpa using h
  have e:iC id=0:=by unfold iC;rw[if_pos (by omega)]
  rw[e];exact⟨rfl,rfl⟩
 have h:0<=aV id:=by simpa using h
 have hl:=lW h;have em:iC id=aV id:=by unfold iC;rw[if_neg (by omega)]
 refine⟨⟨(0,id),⟨by omega,hl.1,hp,h,by unfold aV;rw[if_neg (by omega)];rfl⟩,⟨rfl,rfl,trivial⟩,rfl⟩,λx hx=>?_⟩
 obtain⟨k,v⟩:=x;obtain⟨x1,x2,x3,_,x4⟩:=hx;have x1:k<=4:=x1;have x2:0<=v:=x2;have x3:v<=9223372036854775807:=x3;have x4:dS (5 - k) k v=aV id:=x4;obtain⟨m,hm⟩:∃m,5 - k=m+1:=⟨4 - k,by omega⟩
 rw[hm,dS]at x4;refine aO.2 ⟨λh2=>?_,λh2=>?_⟩
 .have h2:¬v < 8:=by
   have:8<=v:=h2;omega
  rw[if_neg h2]at x4;split at x4
  .omega
  have e:v.tdiv 8=v / 8:=A71 x2;have hm0:m≠0:=by
   intro q;subst q;simp[dS]at x4;omega
  refine⟨by decide,ak.2 (show(-9223372036854775808:Int)<=v.tdiv 8/\v.tdiv 8<=9223372036854775807 by omega),ak.2 (show(-9223372036854775808:Int)<=v.tdiv 8 - 1/\v.tdiv 8 - 1<=9223372036854775807 by omega),ak.2 (show(-9223372036854775808:Int)<=(k:Int)+1/\(k:Int)+1<=9223372036854775807 by omega),(k+1,v.tdiv 8 - 1),⟨show k+1<=4 by omega,show 0<=v.tdiv 8 - 1 by omega,show v.tdiv 8 - 1<=9223372036854775807 by omega,h,?_⟩,⟨rfl,rfl,trivial⟩,rfl,show(v.tdiv 8 - 1).toNat < v.toNat by omega⟩
  show dS (5 - (k+1)) ((k+1:Nat):Int) (v.tdiv 8 - 1)=aV id;rw[<-x4,show 5 - (k+1)=m by omega];rfl
 .have h2:v < 8:=by
   have:¬8<=v:=h2;omega
  rw[if_pos h2]at x4;rw[em,<-x4];exact⟨rfl,rfl⟩
theorem MV:aT aS.gd 196 Si:=
 jD (cx:=aS) (n:=15) (cl:=[(80,MS)]) au ⟨JH,trivial⟩ Tryz.func196 λd hd=>by
  obtain⟨id,⟨⟩⟩:=d;exact aI (akH id) (afw id hd) (by kernel_rfl)
abbrev Sj:CT:={ ps:=[dX],pre:=λd=>d.1.1<=9223372036854775807,res:=λd=>([],.iq [.c (.v (.int .i64 (bY d.1.1 d.1.2.2.2.2.2.1).1)),.c (.v (.bool (bY d.1.1 d.1.2.2.2.2.2.1).2))]) }
theorem afx(id fn pc:Int) (rg:List Int) (st ch ph su fa:Int) (he:List Int) (aF:Sj.pre ((id,fn,pc,rg,st,ch,ph,su,fa,he,()),())):
 let z1:=[cI ((bY id ch).fst),cB ((bY id ch).snd)];id<=9223372036854775807/\((!!decide (0<=aV id))=true->id<=9223372036854775807)/\br (!decide (0<=aV id) || decide (iC id=4) || decide (ch < 0) || decide (7<=ch)) (rT z1 [cI 0,cB false]) (iR (id+1)/\iR ((8:Int) * (id+1))/\iR ((8:Int) * (id+1)+ch)/\rT z1 [cI ((8:Int) * (id+1)+ch),cB true]):=by
 conv=>zeta
 delta cI cB rT iR;have hp:id<=9223372036854775807:=aF;refine⟨hp,λ_=>hp,ah.2 ⟨λh=>?_,λh=>?_⟩⟩
 .have e:bY id ch=(0,false):=by
   unfold bY;rw[if_pos];unfold iC at h;simp only[wz,Dc,dH,eH]at h;split at h<;>omega
  rw[e];exact⟨rfl,rfl⟩
 .simp only[lX,wR,dH,eH]at h;obtain⟨⟨⟨h1,h2⟩,h3⟩,h4⟩:=h;unfold iC at h2;rw[if_neg (by omega)]at h2
  have e:bY id ch=(8 * (id+1)+ch,true):=by
   unfold bY;rw[if_neg (by omega)]
  have:=lW h1;rw[e];exact⟨ak.2 (by omega),ak.2 (by omega),ak.2 (by omega),rfl,rfl⟩
theorem MW:aT aS.gd 160 Sj:=
 jD (cx:=aS) (n:=31) (cl:=[(80,MS),(196,Si)]) au ⟨JH,MV,trivial⟩ Tryz.func160 λd hd=>by
  obtain⟨⟨id,fn,pc,rg,st,ch,ph,su,fa,he,⟨⟩⟩,⟨⟩⟩:=d;exact aI (λ_=>none) (afx id fn pc rg st ch ph su fa he hd) (by kernel_rfl)
abbrev xU:CT:={ ps:=[.sl (.int .i64),.int .i64],pre:=λd=>d.1.length<=1000000,res:=λd=>([],vB (dP d.1 d.2.1)) }
abbrev akI(l:List Int) (x:Int):Nat->Option (St->jq):=λk=>match k with
 | 2=>some λ_=>.inv { α:=Nat,slots:=λk=>[(5,.c (.v (.int .i64 k)))],res:=λk=>[],inv:=λk=>k<=(l).length/\∀j < k,∀y,l[j]?=some y->¬y=x,meas:=λk=>(l).length - k }
 | _=>none
theorem afy(l:List Int) (x:Int) (aF:xU.pre (l,x,())):
 let z1:=λ(x_1:Nat)=>(x_1<=l.length/\∀(j:Nat),j < x_1->∀(y:Int),l[j]?=some y->¬y=x);(∃x_1,(z1 x_1)/\(cI 0=cI (x_1:Int)/\True)/\([]:List dJ)=[])/\∀(x_1:Nat),(z1 x_1)->br (decide ((x_1:Int) < (l.length:Int))) ((0<=(x_1:Int)/\(x_1:Int) < (l.length:Int))/\∀(d:Int),l[(x_1:Int).toNat]?=some d->br (decide (d=x)) (qB (dP l x) true) (iR ((x_1:Int)+(1:Int))/\∃x',(x'<=l.length/\∀(j:Nat),j < x'->∀(y:Int),l[j]?=some y->¬y=x)/\(cI ((x_1:Int)+(1:Int))=cI (x':Int)/\True)/\([]:List dJ)=[]/\l.length - x' < l.length - x_1)) (qB (dP l x) false):=by
 conv=>zeta
 delta dJ cI qB iR;have hp:l.length<=1000000:=aF;refine⟨⟨0,⟨by omega,λj hj=>by omega⟩,⟨rfl,trivial⟩,rfl⟩,λk hk=>ah.2 ⟨λh=>?_,λh=>?_⟩⟩
 .simp only[dH]at h;have hN:(k:Int).toNat=k:=by omega
  rw[hN];refine⟨by omega,λd hd=>ah.2 ⟨λh2=>⟨rfl,?_⟩,λh2=>⟨ak.2 (by omega),k+1,⟨by omega,λj hj y hy=>?_⟩,⟨rfl,trivial⟩,rfl,by omega⟩⟩⟩
  .have e:dP l x=true:=by
    unfold dP;exact J9.2 ⟨d,ig hd,h2⟩
   rw[e]
  .by_cases gQ:j=k
   .subst gQ;rw[hd]at hy;cases hy;simpa using h2
   .exact hk.2 j (by omega) y hy
 .simp only[eH]at h;have e:dP l x=false:=by
   unfold dP;rw[TV];intro i hi;obtain⟨j,hj⟩:=yg hi;simpa using hk.2 j (by have:=(A8.1 hj).1;omega) i hj
  rw[e];exact⟨rfl,rfl⟩
theorem MX:aT aS.gd 191 xU:=
 jD (cx:=aS) (n:=18) (cl:=[]) au trivial Tryz.func191 λd hd=>by
  obtain⟨l,x,⟨⟩⟩:=d;exact aI (akI l x) (afy l x hd) (by kernel_rfl)
abbrev aaK:CT:={ ps:=[.int .i64],pre:=λd=>True,res:=λd=>([],vB (bU d.1)) }
theorem akJ(n:Int):
 qB (bU n) (decide ((-2147483648)<=n) && decide (n<=2147483647)):=by
 delta qB;refine⟨rfl,?_⟩;rw[show bU n=(decide (-2147483648<=n) && decide (n<=2147483647)) by unfold bU;rw[Fz];simp]
theorem afz:aT aS.gd 81 aaK:=
 jD (cx:=aS) (n:=9) (cl:=[]) au trivial Tryz.func81 λd hd=>by
  obtain⟨n,⟨⟩⟩:=d;exact aI (λ_=>none) (akJ n) (by kernel_rfl)
abbrev JI:CT:={ ps:=[o7,dX],pre:=λd=>0<=d.2.1.2.1/\d.2.1.2.1 < d.1.2.2.2.1.length,res:=λd=>([],.one (.c (.sl lG (codeF d.1.2.2.2.1 d.2.1.2.1)))) }
theorem afA(vs:List VD) (ms cs:List ByteArray) (fs:List FD) (ts:List SD) (id fn pc:Int) (rg:List Int) (st ch ph su fa:Int) (he:List Int) (aF:JI.pre ((vs,ms,cs,fs,ts,()),(id,fn,pc,rg,st,ch,ph,su,fa,he,()),())):
 (0<=fn/\fn < (fs.length:Int))/\∀(d:ByteArray×(lG.sl.pair Sh.unit).den),fs[fn.toNat]?=some d->rE (aZ.one (SV.c (SC.sl lG (codeF fs fn)))) (aZ.one (SV.c (SC.sl lG d.snd.fst))):=by
 delta rE I6;have hp:0<=fn/\fn < (fs.length:Int):=aF;refine⟨hp,λd hd=>⟨rfl,?_⟩⟩
 obtain⟨y,hy,ey⟩:=og hp;rw[hd]at hy;cases hy;rw[ey]
theorem MZ:aT aS.gd 123 JI:=
 dQ (cx:=aS) (n:=12) (cl:=[]) (rc:=[]) au trivial Tryz.func123 λd hd=>by
  obtain⟨⟨vs,ms,cs,fs,ts,⟨⟩⟩,⟨id,fn,pc,rg,st,ch,ph,su,fa,he,⟨⟩⟩,⟨⟩⟩:=d;exact aI (λ_=>none) (afA vs ms cs fs ts id fn pc rg st ch ph su fa he hd) (by kernel_rfl)
abbrev aaL:CT:={ ps:=[dX,lG],pre:=λd=>d.1.2.2.2.2.2.2.2.2.2.1.length<=1000000/\d.1.1<=9223372036854775807,res:=λd=>([],.one (.c (.v (.int .i64 (jv d.1.1 d.1.2.2.2.2.2.1 d.1.2.2.2.2.2.2.1 d.1.2.2.2.2.2.2.2.2.2.1 d.2.1))))) }
theorem afB(id fn pc:Int) (rg:List Int) (st ch ph su fa:Int) (he:List Int) (op a b c obj n fo ord:Int) (aF:aaL.pre ((id,fn,pc,rg,st,ch,ph,su,fa,he,()),(op,a,b,c,obj,n,fo,ord,()),())):
 let z2:=jv id ch ph he (op,a,b,c,obj,n,fo,ord,());let z1:=qI z2 (0:Int);br (!decide (ph=0)) z1 ((decide (op=16)=true->he.length<=1000000)/\((decide (op=18) && !(decide (op=16) && !dP he obj))=true->he.length<=1000000)/\br (decide (op=16) && !dP he obj || decide (op=18) && !dP he n) (qI z2 (27:Int)) (br (decide (op=21)) (id<=9223372036854775807/\br (!(bY id ch).snd) (qI z2 (28:Int)) z1) z1)):=by
 conv=>zeta
 delta qI;obtain⟨h1,h2⟩:he.length<=1000000/\id<=9223372036854775807:=aF;unfold jv;refine ah.2 ⟨λh=>⟨rfl,?_⟩,λh=>⟨λ_=>h1,λ_=>h1,ah.2 ⟨λq=>⟨rfl,?_⟩,λq=>aO.2 ⟨λq2=>⟨h2,ah.2 ⟨λq3=>⟨rfl,?_⟩,λq3=>⟨rfl,?_⟩⟩⟩,λq2=>⟨rfl,?_⟩⟩⟩⟩⟩
 .have h:ph≠0:=by simpa using h
  rw[if_pos h]
 all_goals
  have h:¬ph≠0:=by simpa using h
  rw[if_neg h]
 .by_cases e:op=18
  .subst e;simp at q;simp[q]
  .by_cases e2:op=16
   .subst e2;simp at q;simp[q]
   .simp[e,e2]at q
 .subst q2;simp at q3;simp[q3]
 .subst q2;simp at q3;simp[q3]
 .by_cases e:op=18
  .subst e;simp at q;simp[q]
  .by_cases e2:op=16
   .subst e2;simp at q;simp[q]
   .simp[e,e2,q2]
theorem aaM:aT aS.gd 153 aaL:=
 dQ (cx:=aS) (n:=44) (cl:=[(191,xU),(160,Sj)]) (rc:=[]) au ⟨MX,MW,trivial⟩ Tryz.func153 λd hd=>by
  obtain⟨⟨id,fn,pc,rg,st,ch,ph,su,fa,he,⟨⟩⟩,⟨op,a,b,c,obj,n,fo,ord,⟨⟩⟩,⟨⟩⟩:=d;exact aI (λ_=>none) (afB id fn pc rg st ch ph su fa he op a b c obj n fo ord hd) (by kernel_rfl)
abbrev PW:CT:={ ps:=[o7,.int .i64],pre:=λd=>bnd (d.1,()),res:=λd=>([],.one (.c (.v (.int .i64 (dF (aG d.1.1 d.1.2.1 d.1.2.2.1 d.1.2.2.2.1 d.1.2.2.2.2.1).1 d.2.1))))) }
theorem akK(vs:List VD) (ms cs:List ByteArray) (fs:List FD) (ts:List SD) (bound:Int) (aF:PW.pre ((vs,ms,cs,fs,ts,()),bound,())):
 let z2:=aG vs ms cs fs ts;let z1:=dF z2.fst bound;(vs.length<=1000000/\ms.length<=1000000/\cs.length<=1000000/\fs.length<=1000000/\ts.length<=1000000/\(∀(x:ByteArray×(lG.sl.pair Sh.unit).den),x∈fs->List.length x.snd.fst<=1000000)/\(dN fs).length<=1000000)/\br (!decide (z2.fst=0)) (qI z1 (z2.fst)) (br (decide (bound < 1) || decide (32 < bound)) (qI z1 (2:Int)) (qI z1 (0:Int))):=by
 conv=>zeta
 delta qI I6;have hb:bnd ((vs,ms,cs,fs,ts,()),()):=aF;refine⟨hb,ah.2 ⟨λh=>?_,λh=>ah.2 ⟨λh2=>?_,λh2=>?_⟩⟩⟩
 .have h:(aG vs ms cs fs ts).1≠0:=by simpa using h
  unfold dF;rw[if_pos h];exact⟨rfl,rfl⟩
 .have h:¬(aG vs ms cs fs ts).1≠0:=by simpa using h
  have h2:bound < 1\/32 < bound:=by simpa using h2
  unfold dF;rw[if_neg h,if_pos h2];exact⟨rfl,rfl⟩
 .have h:¬(aG vs ms cs fs ts).1≠0:=by simpa using h
  have h2:¬(bound < 1\/32 < bound):=by simp only[lX,eH]at h2;omega
  unfold dF;rw[if_neg h,if_neg h2];exact⟨rfl,rfl⟩
theorem afC:aT aS.gd 79 PW:=
 jD (cx:=aS) (n:=23) (cl:=[(66,Jt)]) au ⟨Rx,trivial⟩ Tryz.func79 λd hd=>by
  obtain⟨⟨vs,ms,cs,fs,ts,⟨⟩⟩,bound,⟨⟩⟩:=d;exact aI (λ_=>none) (akK vs ms cs fs ts bound hd) (by kernel_rfl)
abbrev PX:CT:={ ps:=[o7,.int .i64,dX],pre:=λd=>True/\d.2.2.1.2.2.2.2.2.2.2.2.2.1.length<=1000000/\d.2.2.1.1<=9223372036854775807/\d.2.2.1.2.2.2.1.length=8,res:=λd=>([],vB (iL d.1.2.1 d.1.2.2.2.1 d.2.1 d.2.2.1)) }
abbrev akL(vs:List VD) (ms cs:List ByteArray) (fs:List FD) (ts:List SD) (bound id fn pc:Int) (rg:List Int) (st ch ph su fa:Int) (he:List Int):Nat->Option (St->jq):=λk=>match k with
 | 4=>some λ_=>.inv { α:=Nat,slots:=λk=>[(7,.c (.v (.int .i64 k)))],res:=λ_=>[],inv:=λk=>k<=8/\∀j < k,∀r,rg[j]?=some r->bU r=true,meas:=λk=>8 - k }
 | 11=>some λ_=>.inv { α:=Nat,slots:=λk=>[(8,.c (.v (.int .i64 k)))],res:=λ_=>[],inv:=λk=>k<=he.length/\(∀j < k,∀m,he[j]?=some m->0<=m/\m < ms.length)/\∀j,j+1 < k->∀x y,he[j]?=some x->he[j+1]?=some y->x < y,meas:=λk=>he.length - k }
 | _=>none
theorem afD(vs:List VD) (ms cs:List ByteArray) (fs:List FD) (ts:List SD) (bound id fn pc:Int) (rg:List Int) (st ch ph su fa:Int) (he:List Int) (aF:PX.pre ((vs,ms,cs,fs,ts,()),bound,(id,fn,pc,rg,st,ch,ph,su,fa,he,()),())):
 let z8:=(id,fn,pc,rg,st,ch,ph,su,fa,he,());let z4:=iL ms fs bound z8;let z3:=qB z4 false;let z1:=[g0 (ay.blk 27 [SC.sl EM vs,SC.sl Sh.str ms,SC.sl Sh.str cs,SC.sl Bq fs,SC.sl lS ts]),g0 (ay.obj 56 dX z8)];let z10:=λ(x:Nat)=>(x:Int)+(1:Int);let z2:=λ(x:Nat) (d dI:Int)=>decide (0 < (x:Int)) && !(decide (d < 0) || decide ((ms.length:Int)<=dI));let z9:=0<=fn/\fn < (fs.length:Int);let z7:=0<=pc/\pc < (↑(codeF fs fn).length:Int);let z6:=λ(d:ID)=>decide (d.fst=18)=true->he.length<=1000000;let z5:=λ(d:ID)=>decide (d.fst=18) && !dP he d.snd.snd.snd.snd.snd.fst;id<=9223372036854775807/\((!(!decide (0<=aV id) || decide (fn < 0) || decide ((fs.length:Int)<=fn) || decide (pc < 0)))=true->0<=fn/\fn < (fs.length:Int))/\br (!decide (0<=aV id) || decide (fn < 0) || decide ((fs.length:Int)<=fn) || decide (pc < 0) || decide ((↑(codeF fs fn).length:Int) < pc)) z3 ((∃x,(x<=8/\∀(j:Nat),j < x->∀(r:Int),rg[j]?=some r->bU r=true)/\(cI 0=cI (x:Int)/\True)/\sm z1)/\∀(x:Nat),(x<=8/\∀(j:Nat),j < x->∀(r:Int),rg[j]?=some r->bU r=true)->br (decide ((x:Int) < (8:Int))) ((0<=(x:Int)/\(x:Int) < (8:Int))/\(x:Int).toNat < 8/\∀(d:Int),rg[(x:Int).toNat]?=some d->True/\br (!bU d) z3 (iR (z10 x)/\∃x',(x'<=8/\∀(j:Nat),j < x'->∀(r:Int),rg[j]?=some r->bU r=true)/\(cI (z10 x)=cI (x':Int)/\True)/\sm z1/\8 - x' < 8 - x)) (((decide (0 < ch) && !(decide (st < 0) || decide (bound < st) || decide (ch < 0) || decide (7 < ch)))=true->id<=9223372036854775807)/\br (decide (st < 0) || decide (bound < st) || decide (ch < 0) || decide (7 < ch) || decide (0 < ch) && decide (iC id=4)) z3 ((∃x,(x<=he.length/\(∀(j:Nat),j < x->∀(m:Int),he[j]?=some m->0<=m/\m < (ms.length:Int))/\∀(j:Nat),j+1 < x->∀(x y:Int),he[j]?=some x->he[j+1]?=some y->x < y)/\(cI 0=cI (x:Int)/\True)/\sm z1)/\∀(x:Nat),(x<=he.length/\(∀(j:Nat),j < x->∀(m:Int),he[j]?=some m->0<=m/\m < (ms.length:Int))/\∀(j:Nat),j+1 < x->∀(x y:Int),he[j]?=some x->he[j+1]?=some y->x < y)->br (decide ((x:Int) < (he.length:Int))) ((0<=(x:Int)/\(x:Int) < (he.length:Int))/\∀(d:Int),he[(x:Int).toNat]?=some d->((!decide (d < 0))=true->0<=(x:Int)/\(x:Int) < (he.length:Int))/\∀(dI:Int),((!decide (d < 0))=true->he[(x:Int).toNat]?=some dI)->((z2 x d dI)=true->iR ((x:Int) - (1:Int)))/\((z2 x d dI)=true->0<=(x:Int) - (1:Int)/\(x:Int) - 1 < (he.length:Int))/\∀(nS:Int),((z2 x d dI)=true->he[((x:Int) - (1:Int)).toNat]?=some nS)->((z2 x d dI)=true->0<=(x:Int)/\(x:Int) < (he.length:Int))/\∀(d_3:Int),((z2 x d dI)=true->he[(x:Int).toNat]?=some d_3)->br (decide (d < 0) || decide ((ms.length:Int)<=dI) || decide (0 < (x:Int)) && decide (d_3<=nS)) z3 (iR (z10 x)/\∃x',(x'<=he.length/\(∀(j:Nat),j < x'->∀(m:Int),he[j]?=some m->0<=m/\m < (ms.length:Int))/\∀(j:Nat),j+1 < x'->∀(x y:Int),he[j]?=some x->he[j+1]?=some y->x < y)/\(cI (z10 x)=cI (x':Int)/\True)/\sm z1/\he.length - x' < he.length - x)) (br (decide (ph=0)) (qB z4 true) (((!(!decide (ph=1) && !decide (ph=2)))=true->0<=fn/\fn < (fs.length:Int))/\br (!decide (ph=1) && !decide (ph=2) || decide (pc=(↑(codeF fs fn).length:Int))) z3 ((z9/\z7/\∀(d:ID),(codeF fs fn)[pc.toNat]?=some d->(z6 d)/\qB z4 (z5 d))/\z9/\z7/\∀(d:ID),(codeF fs fn)[pc.toNat]?=some d->(z6 d)/\qB z4 (z5 d))))))):=by
 conv=>zeta
 delta cI g0 qB sm I6 iR;obtain⟨_,AU,hid,hrg⟩:True/\he.length<=1000000/\id<=9223372036854775807/\rg.length=8:=aF;have both:∀{A:Prop},A->A/\A:=λq=>⟨q,q⟩
 have fF:¬dh ms fs bound (id,fn,pc,rg,st,ch,ph,su,fa,he,())->([]:List Go.jl.ay)=[]/\aZ.one (SV.c (SC.v (Value.bool (iL ms fs bound (id,fn,pc,rg,st,ch,ph,su,fa,he,())))))=aZ.one (SV.c (SC.v (Value.bool false))):=λq=>⟨rfl,by rw[wM q]⟩
 refine⟨hid,λg=>by
  simp only[Dc,lX,eH,wR,dH]at g;show(0:Int)<=fn/\fn < (fs.length:Int);omega,ah.2 ⟨λh=>?_,λh=>?_⟩⟩
 .refine fF λq=>?_
  obtain⟨q1,q2,q3,_⟩:=q;simp only[wz,Dc,dH,eH]at h;omega
 simp only[lX,wR,dH,eH]at h;obtain⟨⟨⟨⟨h1,h2⟩,h3⟩,h4⟩,h5⟩:=h;have hfn:0<=fn/\fn < (fs.length:Int):=by omega
 have hpc:0<=pc/\pc<=((codeF fs fn).length:Int):=by omega
 refine⟨⟨0,⟨by omega,λj hj=>by omega⟩,⟨rfl,trivial⟩,rfl⟩,λk hk=>ah.2 ⟨λh=>?_,λh=>?_⟩⟩
 .simp only[dH]at h;refine⟨by omega,by omega,λd hd=>⟨trivial,ah.2 ⟨λh6=>?_,λh6=>⟨ak.2 (by omega),k+1,⟨by omega,λj hj r hr=>?_⟩,⟨rfl,trivial⟩,rfl,by omega⟩⟩⟩⟩
  .refine fF λq=>?_
   have:=q.2.2.2.1 k (by omega) d hd
   rw[this]at h6;cases h6
  .by_cases gQ:j=k
   .subst gQ;have hd:rg[j]?=some d:=hd;rw[hd]at hr;cases hr;simpa using h6
   .exact hk.2 j (by omega) r hr
 simp only[eH]at h;have hr:∀k < 8,∀r,rg[k]?=some r->bU r=true:=λj hj r hr=>hk.2 j (by omega) r hr
 have hdm:iC id=aV id:=by unfold iC;rw[if_neg (by omega)]
 rw[hdm];refine⟨λ_=>hid,ah.2 ⟨λh7=>?_,λh7=>?_⟩⟩
 .refine fF λq=>?_
  obtain⟨_,_,_,_,q5,q6,q7,_⟩:=q;simp at h7;omega
 simp only[lX,A70,eH]at h7;obtain⟨⟨⟨⟨a1,a2⟩,a3⟩,a4⟩,a5⟩:=h7;refine⟨⟨0,⟨by omega,λj hj=>by omega,λj hj=>by omega⟩,⟨rfl,trivial⟩,rfl⟩,λm hm=>ah.2 ⟨λh8=>?_,λh8=>?_⟩⟩
 .simp only[dH]at h8;refine⟨by omega,λd hd=>⟨λ_=>by omega,λd1 hd1=>⟨λ_=>ak.2 (by omega),λg=>by simp at g;omega,λd2 hd2=>⟨λ_=>by omega,λd3 hd3=>ah.2 ⟨λh9=>?_,λh9=>⟨ak.2 (by omega),m+1,⟨by omega,λj hj r hr=>?_,λj hj x y hx hy=>?_⟩,⟨rfl,trivial⟩,rfl,by omega⟩⟩⟩⟩⟩⟩
  .refine fF λq=>?_
   have hd:he[m]?=some d:=hd;have hq:=q.2.2.2.2.2.2.2.1 d (ig hd);have hd1:=hd1 (by simp;omega)
   have hd1:he[m]?=some d1:=hd1;rw[hd]at hd1;cases hd1
   by_cases m0:m=0
   .subst m0;simp at h9;omega
   have g:(decide (0 < (m:Int)) && !(decide (d < 0) || decide ((ms.length:Int)<=d)))=true:=by simp;omega
   have hd2:=hd2 g;have hd3:=hd3 g;rw[show((m:Int) - 1).toNat=m - 1 by omega]at hd2
   have hd2:he[m - 1]?=some d2:=hd2;have hd3:he[m - 1+1]?=some d3:=by rw[show m - 1+1=m by omega];exact hd3
   have:=JB q.2.2.2.2.2.2.1 hd2 hd3;simp at h9;omega
  all_goals
   have hd:he[m]?=some d:=hd;have q0:0<=d:=by simp at h9;omega
   have hd1:=hd1 (by simp;omega)
   have hd1:he[m]?=some d1:=hd1;rw[hd]at hd1;cases hd1
  .by_cases gQ:j=m
   .subst gQ;rw[hd]at hr;cases hr;simp at h9;omega
   .exact hm.2.1 j (by omega) r hr
  .by_cases gQ:j+1=m
   .have g:(decide (0 < (m:Int)) && !(decide (d < 0) || decide ((ms.length:Int)<=d)))=true:=by simp at h9 ⊢;omega
    have hd2:=hd2 g;have hd3:=hd3 g;rw[show((m:Int) - 1).toNat=j by omega]at hd2
    have hd2:he[j]?=some d2:=hd2;have hd3:he[m]?=some d3:=hd3;rw[gQ,hd]at hy;cases hy;rw[hd]at hd3;cases hd3;rw[hd2]at hx;cases hx;simp at h9;omega
   .exact hm.2.2 j (by omega) x y hx hy
 simp only[eH]at h8;have hmm:∀m∈he,0<=m/\m < (ms.length:Int):=λy hy=>by
  obtain⟨j,hj⟩:=yg hy;exact hm.2.1 j (by have:=(A8.1 hj).1;omega) y hj
 have hss:SS he:=EZ λj x y hx hy=>hm.2.2 j (by have:=(A8.1 hy).1;omega) x y hx hy
 have base:(ph=0\/((ph=1\/ph=2)/\∃i,mW fs fn pc=some i/\i.1=18/\dP he i.2.2.2.2.2.1=false))↔dh ms fs bound (id,fn,pc,rg,st,ch,ph,su,fa,he,()):=
  ⟨λq=>⟨by omega,hfn,hpc,hr,by omega,⟨by omega,by omega,λe=>by omega⟩,hss,hmm,q⟩,λq=>q.2.2.2.2.2.2.2.2⟩
 have fB:∀b:Bool,(b=true↔(ph=0\/((ph=1\/ph=2)/\∃i,mW fs fn pc=some i/\i.1=18/\dP he i.2.2.2.2.2.1=false)))->aZ.one (SV.c (SC.v (Value.bool (iL ms fs bound (id,fn,pc,rg,st,ch,ph,su,fa,he,())))))=aZ.one (SV.c (SC.v (Value.bool b))):=λb hb=>by
  have:iL ms fs bound (id,fn,pc,rg,st,ch,ph,su,fa,he,())=b:=by
   rw[Fz,hb,base,jL]
  rw[this]
 refine aO.2 ⟨λh9=>⟨rfl,fB _ (by simp[h9])⟩,λh9=>⟨λ_=>hfn,ah.2 ⟨λg=>⟨rfl,fB _ ?_⟩,λg=>both ⟨hfn,?_,λd hd=>⟨λ_=>AU,rfl,fB _ ?_⟩⟩⟩⟩⟩
 .by_cases g2:pc=((codeF fs fn).length:Int)
  .have ha:mW fs fn pc=none:=BH (by omega)
   simp[h9,ha]
  .simp[g2]at g;simp[h9,g]
 .simp at g;omega
 .have ha:mW fs fn pc=some d:=hd;simp at g;have:ph=1\/ph=2:=by omega
  simp[h9,ha,this]
theorem aaN:aT aS.gd 175 PX:=
 dQ (cx:=aS) (n:=161) (cl:=[(80,MS),(123,JI),(81,aaK),(196,Si),(191,xU)]) (rc:=[]) au ⟨JH,MZ,afz,MV,MX,trivial⟩ Tryz.func175 λd hd=>by
  obtain⟨⟨vs,ms,cs,fs,ts,⟨⟩⟩,bound,⟨id,fn,pc,rg,st,ch,ph,su,fa,he,⟨⟩⟩,⟨⟩⟩:=d;exact aI (akL vs ms cs fs ts bound id fn pc rg st ch ph su fa he) (afD vs ms cs fs ts bound id fn pc rg st ch ph su fa he hd) (by kernel_rfl)
abbrev aaO:CT:={ ps:=[o7,.int .i64,dX],pre:=λd=>bnd (d.1,())/\d.2.2.1.2.2.2.2.2.2.2.2.2.1.length<=1000000/\d.2.2.1.1<=9223372036854775807/\d.2.2.1.2.2.2.1.length=8,res:=λd=>([],vB (decide (dF (aG d.1.1 d.1.2.1 d.1.2.2.1 d.1.2.2.2.1 d.1.2.2.2.2.1).1 d.2.1=0) && mJ d.1.2.1 d.1.2.2.2.1 d.2.1 d.2.2.1)) }
theorem afE(vs:List VD) (ms cs:List ByteArray) (fs:List FD) (ts:List SD) (bound id fn pc:Int) (rg:List Int) (st ch ph su fa:Int) (he:List Int) (aF:aaO.pre ((vs,ms,cs,fs,ts,()),bound,(id,fn,pc,rg,st,ch,ph,su,fa,he,()),())):
 let z8:=dF (aG vs ms cs fs ts).fst bound=0;let z7:=(id,fn,pc,rg,st,ch,ph,su,fa,he,());let z4:=decide z8 && mJ ms fs bound z7;let z3:=qB z4 false;let z11:=0<=fn/\fn < (fs.length:Int);let z9:=pc=(↑(codeF fs fn).length:Int);let z5:=!decide z9 && (decide (fa=0) && decide (ph=0));let z6:=0<=pc/\pc < (↑(codeF fs fn).length:Int);let z10:=decide (su=1) || decide (su=4);let z2:=λ(d:ID)=>((decide (fa=0) && jr d.fst)=true->he.length<=1000000/\id<=9223372036854775807)/\qB z4 (decide (fa=0) && jr d.fst && decide (jv id ch ph he d=0) && (decide (su=1) && decide (st < bound) || decide (su=4) && decide (1<=st)));let z1:=λ(d:ID)=>br (!decide (su=3) || !decide (ph=0)) z3 (br (decide (fa=26)) ((decide (d.fst=6)=true->0<=d.snd.snd.fst/\d.snd.snd.fst < 8)/\(decide (d.fst=6)=true->Int.toNat d.snd.snd.fst < 8)/\∀(dI:Int),(decide (d.fst=6)=true->rg[Int.toNat d.snd.snd.fst]?=some dI)->qB z4 (decide (d.fst=6) && decide (dI=(0:Int)))) (br (decide (fa=29)) (qB z4 (!jr d.fst)) (((!decide (fa=0) && jr d.fst)=true->he.length<=1000000/\id<=9223372036854775807)/\qB z4 (!decide (fa=0) && jr d.fst && decide (fa=jv id ch ph he d)))));(vs.length<=1000000/\ms.length<=1000000/\cs.length<=1000000/\fs.length<=1000000/\ts.length<=1000000/\(∀(x:ByteArray×(lG.sl.pair Sh.unit).den),x∈fs->List.length x.snd.fst<=1000000)/\(dN fs).length<=1000000)/\((!!decide z8)=true->True/\he.length<=1000000/\id<=9223372036854775807/\rg.length=8)/\br (!decide z8 || !iL ms fs bound z7) z3 (z11/\br (decide (su=2)) ((z5=true->0<=fn/\fn < (fs.length:Int))/\(z5=true->0<=pc/\pc < (↑(codeF fs fn).length:Int))/\∀(d:ID),(z5=true->(codeF fs fn)[pc.toNat]?=some d)->qB z4 (decide (fa=0) && decide (ph=0) && (decide z9 || decide (d.fst=7)))) (br (decide z9) z3 ((z11/\z6/\∀(d:ID),(codeF fs fn)[pc.toNat]?=some d->True/\br z10 (z2 d) (z1 d))/\z11/\z6/\∀(d:ID),(codeF fs fn)[pc.toNat]?=some d->True/\br z10 (z2 d) (z1 d)))):=by
 conv=>zeta
 delta qB I6;obtain⟨hb,AU,hid,hrg⟩:bnd ((vs,ms,cs,fs,ts,()),())/\he.length<=1000000/\id<=9223372036854775807/\rg.length=8:=aF;have both:∀{A:Prop},A->A/\A:=λq=>⟨q,q⟩
 refine⟨hb,λ_=>⟨trivial,AU,hid,hrg⟩,ah.2 ⟨λh=>⟨rfl,?_⟩,λh=>?_⟩⟩
 .have e:(decide (dF (aG vs ms cs fs ts).1 bound=0) && mJ ms fs bound (id,fn,pc,rg,st,ch,ph,su,fa,he,()))=false:=by
   rw[wz]at h;rcases h with q | q
   .rw[show decide (dF (aG vs ms cs fs ts).1 bound=0)=false by simpa using q];rfl
   .rw[Fa λq2=>(by rw[jL.2 q2.1]at q;cases q),Bool.and_false]
  rw[e]
 rw[lX]at h;have hs0:dF (aG vs ms cs fs ts).1 bound=0:=by simpa using h.1
 have hF:dh ms fs bound (id,fn,pc,rg,st,ch,ph,su,fa,he,()):=jL.1 (by simpa using h.2)
 have hc:=(gZ.1 hs0).1;have hfn:=hF.2.1;have hpc:=hF.2.2.1;refine⟨hfn,?_⟩;have W:∀b:Bool,(b=true↔(((su=1/\st < bound\/su=4/\1<=st)/\fa=0/\∃i,mW fs fn pc=some i/\jr i.1=true/\jv id ch ph he i=0) \/
  (su=2/\fa=0/\ph=0/\∀i,mW fs fn pc=some i->i.1=7) \/
  (su=3/\ph=0/\∃i,mW fs fn pc=some i/\(fa=26/\i.1=6/\rg.getD i.2.2.1.toNat 0=0\/fa=29/\jr i.1=false\/fa≠26/\fa≠29/\fa≠0/\jv id ch ph he i=fa)))) ->
   aZ.one (SV.c (SC.v (Value.bool (decide (dF (aG vs ms cs fs ts).1 bound=0) && mJ ms fs bound (id,fn,pc,rg,st,ch,ph,su,fa,he,())))))=aZ.one (SV.c (SC.v (Value.bool b))):=λb hb=>by
  have:(decide (dF (aG vs ms cs fs ts).1 bound=0) && mJ ms fs bound (id,fn,pc,rg,st,ch,ph,su,fa,he,()))=b:=by
   rw[wV hs0,FB,Fz,hb,kH];exact⟨λq=>q.2,λq=>⟨hF,q⟩⟩
  rw[this]
 refine aO.2 ⟨λh2=>⟨λ_=>hfn,λg=>?_,λd hd=>⟨rfl,W _ ?_⟩⟩,λh2=>aO.2 ⟨λhl=>⟨rfl,W _ ?_⟩,λhl=>both ⟨hfn,by omega,λi ha=>⟨trivial,ah.2 ⟨λh3=>⟨λ_=>⟨AU,hid⟩,rfl,W _ ?_⟩,λh3=>ah.2 ⟨λh4=>⟨rfl,W _ ?_⟩,λh4=>aO.2 ⟨λh5=>⟨λg=>?_,λg=>?_,λd1 hd1=>⟨rfl,W _ ?_⟩⟩,λh5=>aO.2 ⟨λh6=>⟨rfl,W _ ?_⟩,λh6=>⟨λ_=>⟨AU,hid⟩,rfl,W _ ?_⟩⟩⟩⟩⟩⟩⟩⟩⟩
 .simp at g;omega
 .by_cases hl:pc=((codeF fs fn).length:Int)
  .have ha:mW fs fn pc=none:=BH (by omega)
   rw[wV hl];simp[h2,ha]
  .by_cases g:fa=0/\ph=0
   .have ha:mW fs fn pc=some d:=hd (by simp[g.1,g.2,hl])
    simp[h2,hl,ha,g.1,g.2]
   .have:¬(fa=0/\ph=0/\∀i,mW fs fn pc=some i->i.1=7):=λq=>g ⟨q.1,q.2.1⟩
    simp only[h2];simp only[bV,dH];constructor
    .intro q;exact absurd ⟨q.1.1,q.1.2⟩ g
    .rintro(q | q | q)
     .omega
     .exact absurd q.2 this
     .omega
 .have ha:mW fs fn pc=none:=BH (by omega)
  simp[ha,h2]
 all_goals
  have ha:mW fs fn pc=some i:=ha;obtain⟨r1,r2,r3,r4⟩:=kS (qh (Bz hc hfn ha)).1
 .simp only[ha];simp only[wz,dH]at h3;rcases h3 with e | e<;>(subst e;simp<;>grind)
 .simp only[ha];simp only[lX,eH]at h3;simp only[wz,Dc,eH]at h4;simp[h2,h3.1,h3.2];intro e1 e2;exact absurd e2 (h4.resolve_left (λq=>q e1))
 .exact r2
 .omega
 .simp only[lX,wR,dH]at h4
  by_cases e6:i.1=6
  .have hd1:rg[i.2.2.1.toNat]?=some d1:=hd1 (wV e6);have e0:rg.getD i.2.2.1.toNat 0=d1:=by rw[J7,hd1];rfl
   simp only[ha,h4.1,h4.2,h5,e6];simp only[A94,exists_eq_left',e6,e0];simp
  .simp[ha,h4.1,h4.2,h5,e6]
 .simp only[lX,wR,dH]at h4;simp[ha,h4.1,h4.2,h6]
 .simp only[lX,wR,dH]at h4;have hvo:jr i.1=false->jv id ch ph he i=0:=λq=>by
   unfold jv;have:i.1≠18/\i.1≠16/\i.1≠21:=by
    refine⟨?_,?_,?_⟩<;>(intro e;rw[e]at q;cases q)
   simp[this.1,this.2.1,this.2.2]
  simp only[ha,h4.1,h4.2];cases hv:jr i.1 with
  | false=>
    have:=hvo hv;simp[h5,h6,this];rw[h4.2]at this;intro q1 q2;rw[this]at q2;omega
  | true=>
    simp[h5,h6];intro q1;exact eq_comm
theorem aaP:aT aS.gd 122 aaO:=
 dQ (cx:=aS) (n:=146) (cl:=[(79,PW),(175,PX),(123,JI),(152,aaI),(153,aaL)]) (rc:=[]) au ⟨afC,aaN,MZ,aaJ,aaM,trivial⟩ Tryz.func122 λd hd=>by
  obtain⟨⟨vs,ms,cs,fs,ts,⟨⟩⟩,bound,⟨id,fn,pc,rg,st,ch,ph,su,fa,he,⟨⟩⟩,⟨⟩⟩:=d;exact aI (λ_=>none) (afE vs ms cs fs ts bound id fn pc rg st ch ph su fa he hd) (by kernel_rfl)
instance (l:List Int):Decidable (SS l):=inferInstanceAs (Decidable (l.Pairwise (· < ·)))
abbrev akM:CT:={ ps:=[.sl (.int .i64)],pre:=λd=>d.1.length<=1000000,res:=λd=>([],vB (jZ d.1)) }
abbrev akN(l:List Int):Nat->Option (St->jq):=λk=>match k with
 | 2=>some λ_=>.inv { α:=Nat,slots:=λk=>[(3,.c (.v (.int .i64 k)))],res:=λ_=>[],inv:=λk=>(1<=k/\(k<=l.length\/k=1))/\∀j,j+1 < k->∀x y,l[j]?=some x->l[j+1]?=some y->x < y,meas:=λk=>l.length - k }
 | _=>none
theorem afF(l:List Int) (aF:akM.pre (l,())):
 (∃x,((1<=x/\(x<=l.length\/x=1))/\∀(j:Nat),j+1 < x->∀(x y:Int),l[j]?=some x->l[j+1]?=some y->x < y)/\(cI 1=cI (x:Int)/\True)/\([]:List dJ)=[])/\∀(x:Nat),((1<=x/\(x<=l.length\/x=1))/\∀(j:Nat),j+1 < x->∀(x y:Int),l[j]?=some x->l[j+1]?=some y->x < y)->br (decide ((x:Int) < (l.length:Int))) (iR ((x:Int) - (1:Int))/\(0<=(x:Int) - (1:Int)/\(x:Int) - 1 < (l.length:Int))/\∀(d:Int),l[((x:Int) - (1:Int)).toNat]?=some d->(0<=(x:Int)/\(x:Int) < (l.length:Int))/\∀(dI:Int),l[(x:Int).toNat]?=some dI->br (decide (dI<=d)) (qB (jZ l) false) (iR ((x:Int)+(1:Int))/\∃x',((1<=x'/\(x'<=l.length\/x'=1))/\∀(j:Nat),j+1 < x'->∀(x y:Int),l[j]?=some x->l[j+1]?=some y->x < y)/\(cI ((x:Int)+(1:Int))=cI (x':Int)/\True)/\([]:List dJ)=[]/\l.length - x' < l.length - x)) (qB (jZ l) true):=by
 delta dJ cI qB iR;have hp:l.length<=1000000:=aF;refine⟨⟨1,⟨⟨by omega,.inr rfl⟩,λj hj=>by omega⟩,⟨rfl,trivial⟩,rfl⟩,λk hk=>ah.2 ⟨λh=>?_,λh=>?_⟩⟩
 .simp only[dH]at h;have hk1:=hk.1.1;refine⟨ak.2 (by omega),by omega,λd hd=>⟨by omega,λe he=>?_⟩⟩
  have hd:l[k - 1]?=some d:=by rw[<-hd];congr 1;omega
  have he:l[k]?=some e:=by simpa using he
  have he':l[k - 1+1]?=some e:=by rw[show k - 1+1=k by omega];exact he
  refine ah.2 ⟨λh2=>?_,λh2=>⟨ak.2 (by omega),k+1,⟨⟨by omega,.inl (by omega)⟩,λj hj x y hx hy=>?_⟩,⟨by simp,trivial⟩,rfl,by omega⟩⟩
  .simp only[dH]at h2;have:jZ l=false:=yh λhs=>by have:=JB hs hd he';omega
   rw[this];exact⟨rfl,rfl⟩
  .simp only[eH]at h2
   by_cases gQ:j+1=k
   .have hj':j=k - 1:=by omega
    subst hj';rw[hd]at hx;rw[he']at hy;cases hx;cases hy;omega
   .exact hk.2 j (by omega) x y hx hy
 .simp only[eH]at h;have:jZ l=true:=wV (EZ λj x y hx hy=>hk.2 j (by have:=(A8.1 hy).1;omega) x y hx hy)
  rw[this];exact⟨rfl,rfl⟩
theorem aaQ:aT aS.gd 180 akM:=
 jD (cx:=aS) (n:=20) (cl:=[]) au trivial Tryz.func180 λd hd=>by
  obtain⟨l,⟨⟩⟩:=d;exact⟨akN l,cast (by kernel_rfl) (afF l hd)⟩
end
end Go.Proofs.YtjhenjhcbcalpaaGreatDoor
