/- Texts of this claim, part 9: W7, W8, W9, R2. Conditions: those of the given rows. -/
import Derived.Test.YtjhenjhcbcalpaaGreatDoorB8
set_option linter.unusedSimpArgs false
set_option linter.unusedVariables false
set_option maxRecDepth 1000000
set_option maxHeartbeats 8000000
namespace Go.Proofs.YtjhenjhcbcalpaaGreatDoor
open Go Go.aV
noncomputable section
abbrev Lh:CT:={ ps:=[.int .i64],pre:=λd=>True,res:=λd=>([],.one (.c (.v (.int .i64 (aI d.1))))) }
theorem ahQ(n:Int):
 let z2:=n.tmod (4294967296:Int)+(4294967296:Int);let z1:=n.tmod (4294967296:Int)+(4294967296:Int) - (4294967296:Int);let z3:=n.tmod (4294967296:Int) - (4294967296:Int);(4294967296:Int)≠(0:Int)∧br (decide (n.tmod (4294967296:Int) < (0:Int))) (cZ IntKind.i64 z2∧br (decide (2147483647 < n.tmod (4294967296:Int)+(4294967296:Int))) (cZ IntKind.i64 z1∧qI (aI n) z1) (qI (aI n) z2)) (br (decide (2147483647 < n.tmod (4294967296:Int))) (cZ IntKind.i64 z3∧qI (aI n) z3) (qI (aI n) (n.tmod (4294967296:Int)))):=by
 conv=>zeta
 delta qI;have hw:=acg n;unfold acf at hw;have hr:-4294967296 < n.tmod 4294967296∧n.tmod 4294967296 < 4294967296:=by
  rw[Gg n (by omega)];split<;>omega
 refine⟨by decide,aJ.2 ⟨λh=>⟨au.2 (by omega),aJ.2 ⟨λh2=>⟨au.2 (by omega),rfl,?_⟩,λh2=>⟨rfl,?_⟩⟩⟩,λh=>aJ.2 ⟨λh2=>⟨au.2 (by omega),rfl,?_⟩,λh2=>⟨rfl,?_⟩⟩⟩⟩
 ·rw[if_pos h,if_pos h2]at hw;rw[←hw]
 ·rw[if_pos h,if_neg h2]at hw;rw[←hw]
 ·rw[if_neg h,if_pos h2]at hw;rw[←hw]
 ·rw[if_neg h,if_neg h2]at hw;rw[←hw]
theorem OV:Go.aV.Met Tryz.prog aK.gd 193 Lh:=
 jC (cx:=aK) (n:=15) (cl:=[]) ay trivial Tryz.func193 λd hd=>by
  obtain⟨n,⟨⟩⟩:=d;exact aH (λ_=>none) (ahQ n) (by kernel_rfl)
abbrev acL:CT:={ ps:=[.bool],pre:=λd=>True,res:=λd=>([],.one (.c (.v (.int .i64 (if d.1=true then 1 else 0))))) }
theorem ahR(b:Bool):
 let z1:=if b=true then(1:Int) else(0:Int);br b (qI z1 (1:Int)) (qI z1 (0:Int)):=by
 conv=>zeta
 delta qI;rw[ah];cases b<;>simp
theorem acM:Go.aV.Met Tryz.prog aK.gd 195 acL:=
 jC (cx:=aK) (n:=4) (cl:=[]) ay trivial Tryz.func195 λd hd=>by
  obtain⟨b,⟨⟩⟩:=d;exact aH (λ_=>none) (ahR b) (by kernel_rfl)
abbrev acN:CT:={ ps:=[.int .i64,.int .i64,.arr 4 (.int .i64)],pre:=λd=>(-2147483648≤d.1∧d.1≤2147483647)∧(-2147483648≤d.2.1∧d.2.1≤2147483647)∧(∀v∈d.2.2.1,v=0∨v=1),res:=λd=>([],.one (.c (.v (.int .i64 (aI (je (d.1 % 4294967296).toNat (d.2.1 % 4294967296).toNat d.2.2.1 32)))))) }
@[reducible] def anH (x y:Int) (rs:List Int):Nat→Option (St→iC):=λk=>match k with
  | 8=>some λ_=>.inv { α:=Nat,slots:=λi=>[(9,.c (.v (.int .i64 i))),(7,.c (.v (.int .i64 (je (x % 4294967296).toNat (y % 4294967296).toNat rs i)))),(8,.c (.v (.int .i64 ((2 ^ i:Nat):Int)))),(0,.c (.v (.int .i64 (((x % 4294967296).toNat / 2 ^ i:Nat):Int)))),(1,.c (.v (.int .i64 (((y % 4294967296).toNat / 2 ^ i:Nat):Int))))],res:=λ_=>[],inv:=λi=>i≤32,meas:=λi=>32 - i }
  | _=>none
theorem ahS(x y:Int) (rs:List Int) (aA:acN.pre (x,y,rs,())):
 br (decide (x < (0:Int))) (cZ IntKind.i64 (x+(4294967296:Int))∧br (decide (y < (0:Int))) (cZ IntKind.i64 (y+(4294967296:Int))∧(∃x_1,x_1≤(32:Nat)∧(SV.c (SC.v (Value.int IntKind.i64 (0:Int)))=SV.c (SC.v (Value.int IntKind.i64 (↑x_1:Int)))∧SV.c (SC.v (Value.int IntKind.i64 (0:Int)))=SV.c (SC.v (Value.int IntKind.i64 (je (x % (4294967296:Int)).toNat (y % (4294967296:Int)).toNat rs x_1)))∧SV.c (SC.v (Value.int IntKind.i64 (1:Int)))=SV.c (SC.v (Value.int IntKind.i64 (↑((2:Nat) ^ x_1):Int)))∧SV.c (SC.v (Value.int IntKind.i64 (x+(4294967296:Int))))=SV.c (SC.v (Value.int IntKind.i64 (↑((x % (4294967296:Int)).toNat / (2:Nat) ^ x_1):Int)))∧SV.c (SC.v (Value.int IntKind.i64 (y+(4294967296:Int))))=SV.c (SC.v (Value.int IntKind.i64 (↑((y % (4294967296:Int)).toNat / (2:Nat) ^ x_1):Int)))∧True)∧[(([]:Go.aV.Gd),aj.obj (203:Nat) (Sh.arr (4:Nat) abA) rs)]=[(([]:Go.aV.Gd),aj.obj (203:Nat) (Sh.arr (4:Nat) abA) rs)])∧∀(x_1:Nat),x_1≤(32:Nat)→br (decide ((↑x_1:Int) < (32:Int))) ((2:Int)≠(0:Int)∧cZ IntKind.i64 ((2:Int) * (↑((x % (4294967296:Int)).toNat / (2:Nat) ^ x_1):Int).tmod (2:Int))∧(2:Int)≠(0:Int)∧cZ IntKind.i64 ((2:Int) * (↑((x % (4294967296:Int)).toNat / (2:Nat) ^ x_1):Int).tmod (2:Int)+(↑((y % (4294967296:Int)).toNat / (2:Nat) ^ x_1):Int).tmod (2:Int))∧((0:Int)≤(2:Int) * (↑((x % (4294967296:Int)).toNat / (2:Nat) ^ x_1):Int).tmod (2:Int)+(↑((y % (4294967296:Int)).toNat / (2:Nat) ^ x_1):Int).tmod (2:Int)∧(2:Int) * (↑((x % (4294967296:Int)).toNat / (2:Nat) ^ x_1):Int).tmod (2:Int)+(↑((y % (4294967296:Int)).toNat / (2:Nat) ^ x_1):Int).tmod (2:Int) < (4:Int))∧((2:Int) * (↑((x % (4294967296:Int)).toNat / (2:Nat) ^ x_1):Int).tmod (2:Int)+(↑((y % (4294967296:Int)).toNat / (2:Nat) ^ x_1):Int).tmod (2:Int)).toNat < (4:Nat)∧∀(d:Int),rs[((2:Int) * (↑((x % (4294967296:Int)).toNat / (2:Nat) ^ x_1):Int).tmod (2:Int)+(↑((y % (4294967296:Int)).toNat / (2:Nat) ^ x_1):Int).tmod (2:Int)).toNat]?=some d→cZ IntKind.i64 ((↑((2:Nat) ^ x_1):Int) * d)∧cZ IntKind.i64 (je (x % (4294967296:Int)).toNat (y % (4294967296:Int)).toNat rs x_1+(↑((2:Nat) ^ x_1):Int) * d)∧(2:Int)≠(0:Int)∧cZ IntKind.i64 ((↑((x % (4294967296:Int)).toNat / (2:Nat) ^ x_1):Int).tdiv (2:Int))∧(2:Int)≠(0:Int)∧cZ IntKind.i64 ((↑((y % (4294967296:Int)).toNat / (2:Nat) ^ x_1):Int).tdiv (2:Int))∧cZ IntKind.i64 ((2:Int) * (↑((2:Nat) ^ x_1):Int))∧cZ IntKind.i64 ((↑x_1:Int)+(1:Int))∧∃x',x'≤(32:Nat)∧(SV.c (SC.v (Value.int IntKind.i64 ((↑x_1:Int)+(1:Int))))=SV.c (SC.v (Value.int IntKind.i64 (↑x':Int)))∧SV.c (SC.v (Value.int IntKind.i64 (je (x % (4294967296:Int)).toNat (y % (4294967296:Int)).toNat rs x_1+(↑((2:Nat) ^ x_1):Int) * d)))=SV.c (SC.v (Value.int IntKind.i64 (je (x % (4294967296:Int)).toNat (y % (4294967296:Int)).toNat rs x')))∧SV.c (SC.v (Value.int IntKind.i64 ((2:Int) * (↑((2:Nat) ^ x_1):Int))))=SV.c (SC.v (Value.int IntKind.i64 (↑((2:Nat) ^ x'):Int)))∧SV.c (SC.v (Value.int IntKind.i64 ((↑((x % (4294967296:Int)).toNat / (2:Nat) ^ x_1):Int).tdiv (2:Int))))=SV.c (SC.v (Value.int IntKind.i64 (↑((x % (4294967296:Int)).toNat / (2:Nat) ^ x'):Int)))∧SV.c (SC.v (Value.int IntKind.i64 ((↑((y % (4294967296:Int)).toNat / (2:Nat) ^ x_1):Int).tdiv (2:Int))))=SV.c (SC.v (Value.int IntKind.i64 (↑((y % (4294967296:Int)).toNat / (2:Nat) ^ x'):Int)))∧True)∧[(([]:Go.aV.Gd),aj.obj (203:Nat) (Sh.arr (4:Nat) abA) rs)]=[(([]:Go.aV.Gd),aj.obj (203:Nat) (Sh.arr (4:Nat) abA) rs)]∧(32:Nat) - x' < (32:Nat) - x_1) (True∧([]:List Go.aV.aj)=[]∧aT.one (SV.c (SC.v (Value.int IntKind.i64 (aI (je (Int.toNat (x % (4294967296:abA.den))) (Int.toNat (y % (4294967296:abA.den))) rs (32:Nat))))))=aT.one (SV.c (SC.v (Value.int IntKind.i64 (aI (je (x % (4294967296:Int)).toNat (y % (4294967296:Int)).toNat rs x_1))))))) ((∃x_1,x_1≤(32:Nat)∧(SV.c (SC.v (Value.int IntKind.i64 (0:Int)))=SV.c (SC.v (Value.int IntKind.i64 (↑x_1:Int)))∧SV.c (SC.v (Value.int IntKind.i64 (0:Int)))=SV.c (SC.v (Value.int IntKind.i64 (je (x % (4294967296:Int)).toNat (y % (4294967296:Int)).toNat rs x_1)))∧SV.c (SC.v (Value.int IntKind.i64 (1:Int)))=SV.c (SC.v (Value.int IntKind.i64 (↑((2:Nat) ^ x_1):Int)))∧SV.c (SC.v (Value.int IntKind.i64 (x+(4294967296:Int))))=SV.c (SC.v (Value.int IntKind.i64 (↑((x % (4294967296:Int)).toNat / (2:Nat) ^ x_1):Int)))∧SV.c (SC.v (Value.int IntKind.i64 y))=SV.c (SC.v (Value.int IntKind.i64 (↑((y % (4294967296:Int)).toNat / (2:Nat) ^ x_1):Int)))∧True)∧[(([]:Go.aV.Gd),aj.obj (203:Nat) (Sh.arr (4:Nat) abA) rs)]=[(([]:Go.aV.Gd),aj.obj (203:Nat) (Sh.arr (4:Nat) abA) rs)])∧∀(x_1:Nat),x_1≤(32:Nat)→br (decide ((↑x_1:Int) < (32:Int))) ((2:Int)≠(0:Int)∧cZ IntKind.i64 ((2:Int) * (↑((x % (4294967296:Int)).toNat / (2:Nat) ^ x_1):Int).tmod (2:Int))∧(2:Int)≠(0:Int)∧cZ IntKind.i64 ((2:Int) * (↑((x % (4294967296:Int)).toNat / (2:Nat) ^ x_1):Int).tmod (2:Int)+(↑((y % (4294967296:Int)).toNat / (2:Nat) ^ x_1):Int).tmod (2:Int))∧((0:Int)≤(2:Int) * (↑((x % (4294967296:Int)).toNat / (2:Nat) ^ x_1):Int).tmod (2:Int)+(↑((y % (4294967296:Int)).toNat / (2:Nat) ^ x_1):Int).tmod (2:Int)∧(2:Int) * (↑((x % (4294967296:Int)).toNat / (2:Nat) ^ x_1):Int).tmod (2:Int)+(↑((y % (4294967296:Int)).toNat / (2:Nat) ^ x_1):Int).tmod (2:Int) < (4:Int))∧((2:Int) * (↑((x % (4294967296:Int)).toNat / (2:Nat) ^ x_1):Int).tmod (2:Int)+(↑((y % (4294967296:Int)).toNat / (2:Nat) ^ x_1):Int).tmod (2:Int)).toNat < (4:Nat)∧∀(d:Int),rs[((2:Int) * (↑((x % (4294967296:Int)).toNat / (2:Nat) ^ x_1):Int).tmod (2:Int)+(↑((y % (4294967296:Int)).toNat / (2:Nat) ^ x_1):Int).tmod (2:Int)).toNat]?=some d→cZ IntKind.i64 ((↑((2:Nat) ^ x_1):Int) * d)∧cZ IntKind.i64 (je (x % (4294967296:Int)).toNat (y % (4294967296:Int)).toNat rs x_1+(↑((2:Nat) ^ x_1):Int) * d)∧(2:Int)≠(0:Int)∧cZ IntKind.i64 ((↑((x % (4294967296:Int)).toNat / (2:Nat) ^ x_1):Int).tdiv (2:Int))∧(2:Int)≠(0:Int)∧cZ IntKind.i64 ((↑((y % (4294967296:Int)).toNat / (2:Nat) ^ x_1):Int).tdiv (2:Int))∧cZ IntKind.i64 ((2:Int) * (↑((2:Nat) ^ x_1):Int))∧cZ IntKind.i64 ((↑x_1:Int)+(1:Int))∧∃x',x'≤(32:Nat)∧(SV.c (SC.v (Value.int IntKind.i64 ((↑x_1:Int)+(1:Int))))=SV.c (SC.v (Value.int IntKind.i64 (↑x':Int)))∧SV.c (SC.v (Value.int IntKind.i64 (je (x % (4294967296:Int)).toNat (y % (4294967296:Int)).toNat rs x_1+(↑((2:Nat) ^ x_1):Int) * d)))=SV.c (SC.v (Value.int IntKind.i64 (je (x % (4294967296:Int)).toNat (y % (4294967296:Int)).toNat rs x')))∧SV.c (SC.v (Value.int IntKind.i64 ((2:Int) * (↑((2:Nat) ^ x_1):Int))))=SV.c (SC.v (Value.int IntKind.i64 (↑((2:Nat) ^ x'):Int)))∧SV.c (SC.v (Value.int IntKind.i64 ((↑((x % (4294967296:Int)).toNat / (2:Nat) ^ x_1):Int).tdiv (2:Int))))=SV.c (SC.v (Value.int IntKind.i64 (↑((x % (4294967296:Int)).toNat / (2:Nat) ^ x'):Int)))∧SV.c (SC.v (Value.int IntKind.i64 ((↑((y % (4294967296:Int)).toNat / (2:Nat) ^ x_1):Int).tdiv (2:Int))))=SV.c (SC.v (Value.int IntKind.i64 (↑((y % (4294967296:Int)).toNat / (2:Nat) ^ x'):Int)))∧True)∧[(([]:Go.aV.Gd),aj.obj (203:Nat) (Sh.arr (4:Nat) abA) rs)]=[(([]:Go.aV.Gd),aj.obj (203:Nat) (Sh.arr (4:Nat) abA) rs)]∧(32:Nat) - x' < (32:Nat) - x_1) (True∧([]:List Go.aV.aj)=[]∧aT.one (SV.c (SC.v (Value.int IntKind.i64 (aI (je (Int.toNat (x % (4294967296:abA.den))) (Int.toNat (y % (4294967296:abA.den))) rs (32:Nat))))))=aT.one (SV.c (SC.v (Value.int IntKind.i64 (aI (je (x % (4294967296:Int)).toNat (y % (4294967296:Int)).toNat rs x_1)))))))) (br (decide (y < (0:Int))) (cZ IntKind.i64 (y+(4294967296:Int))∧(∃x_1,x_1≤(32:Nat)∧(SV.c (SC.v (Value.int IntKind.i64 (0:Int)))=SV.c (SC.v (Value.int IntKind.i64 (↑x_1:Int)))∧SV.c (SC.v (Value.int IntKind.i64 (0:Int)))=SV.c (SC.v (Value.int IntKind.i64 (je (x % (4294967296:Int)).toNat (y % (4294967296:Int)).toNat rs x_1)))∧SV.c (SC.v (Value.int IntKind.i64 (1:Int)))=SV.c (SC.v (Value.int IntKind.i64 (↑((2:Nat) ^ x_1):Int)))∧SV.c (SC.v (Value.int IntKind.i64 x))=SV.c (SC.v (Value.int IntKind.i64 (↑((x % (4294967296:Int)).toNat / (2:Nat) ^ x_1):Int)))∧SV.c (SC.v (Value.int IntKind.i64 (y+(4294967296:Int))))=SV.c (SC.v (Value.int IntKind.i64 (↑((y % (4294967296:Int)).toNat / (2:Nat) ^ x_1):Int)))∧True)∧[(([]:Go.aV.Gd),aj.obj (203:Nat) (Sh.arr (4:Nat) abA) rs)]=[(([]:Go.aV.Gd),aj.obj (203:Nat) (Sh.arr (4:Nat) abA) rs)])∧∀(x_1:Nat),x_1≤(32:Nat)→br (decide ((↑x_1:Int) < (32:Int))) ((2:Int)≠(0:Int)∧cZ IntKind.i64 ((2:Int) * (↑((x % (4294967296:Int)).toNat / (2:Nat) ^ x_1):Int).tmod (2:Int))∧(2:Int)≠(0:Int)∧cZ IntKind.i64 ((2:Int) * (↑((x % (4294967296:Int)).toNat / (2:Nat) ^ x_1):Int).tmod (2:Int)+(↑((y % (4294967296:Int)).toNat / (2:Nat) ^ x_1):Int).tmod (2:Int))∧((0:Int)≤(2:Int) * (↑((x % (4294967296:Int)).toNat / (2:Nat) ^ x_1):Int).tmod (2:Int)+(↑((y % (4294967296:Int)).toNat / (2:Nat) ^ x_1):Int).tmod (2:Int)∧(2:Int) * (↑((x % (4294967296:Int)).toNat / (2:Nat) ^ x_1):Int).tmod (2:Int)+(↑((y % (4294967296:Int)).toNat / (2:Nat) ^ x_1):Int).tmod (2:Int) < (4:Int))∧((2:Int) * (↑((x % (4294967296:Int)).toNat / (2:Nat) ^ x_1):Int).tmod (2:Int)+(↑((y % (4294967296:Int)).toNat / (2:Nat) ^ x_1):Int).tmod (2:Int)).toNat < (4:Nat)∧∀(d:Int),rs[((2:Int) * (↑((x % (4294967296:Int)).toNat / (2:Nat) ^ x_1):Int).tmod (2:Int)+(↑((y % (4294967296:Int)).toNat / (2:Nat) ^ x_1):Int).tmod (2:Int)).toNat]?=some d→cZ IntKind.i64 ((↑((2:Nat) ^ x_1):Int) * d)∧cZ IntKind.i64 (je (x % (4294967296:Int)).toNat (y % (4294967296:Int)).toNat rs x_1+(↑((2:Nat) ^ x_1):Int) * d)∧(2:Int)≠(0:Int)∧cZ IntKind.i64 ((↑((x % (4294967296:Int)).toNat / (2:Nat) ^ x_1):Int).tdiv (2:Int))∧(2:Int)≠(0:Int)∧cZ IntKind.i64 ((↑((y % (4294967296:Int)).toNat / (2:Nat) ^ x_1):Int).tdiv (2:Int))∧cZ IntKind.i64 ((2:Int) * (↑((2:Nat) ^ x_1):Int))∧cZ IntKind.i64 ((↑x_1:Int)+(1:Int))∧∃x',x'≤(32:Nat)∧(SV.c (SC.v (Value.int IntKind.i64 ((↑x_1:Int)+(1:Int))))=SV.c (SC.v (Value.int IntKind.i64 (↑x':Int)))∧SV.c (SC.v (Value.int IntKind.i64 (je (x % (4294967296:Int)).toNat (y % (4294967296:Int)).toNat rs x_1+(↑((2:Nat) ^ x_1):Int) * d)))=SV.c (SC.v (Value.int IntKind.i64 (je (x % (4294967296:Int)).toNat (y % (4294967296:Int)).toNat rs x')))∧SV.c (SC.v (Value.int IntKind.i64 ((2:Int) * (↑((2:Nat) ^ x_1):Int))))=SV.c (SC.v (Value.int IntKind.i64 (↑((2:Nat) ^ x'):Int)))∧SV.c (SC.v (Value.int IntKind.i64 ((↑((x % (4294967296:Int)).toNat / (2:Nat) ^ x_1):Int).tdiv (2:Int))))=SV.c (SC.v (Value.int IntKind.i64 (↑((x % (4294967296:Int)).toNat / (2:Nat) ^ x'):Int)))∧SV.c (SC.v (Value.int IntKind.i64 ((↑((y % (4294967296:Int)).toNat / (2:Nat) ^ x_1):Int).tdiv (2:Int))))=SV.c (SC.v (Value.int IntKind.i64 (↑((y % (4294967296:Int)).toNat / (2:Nat) ^ x'):Int)))∧True)∧[(([]:Go.aV.Gd),aj.obj (203:Nat) (Sh.arr (4:Nat) abA) rs)]=[(([]:Go.aV.Gd),aj.obj (203:Nat) (Sh.arr (4:Nat) abA) rs)]∧(32:Nat) - x' < (32:Nat) - x_1) (True∧([]:List Go.aV.aj)=[]∧aT.one (SV.c (SC.v (Value.int IntKind.i64 (aI (je (Int.toNat (x % (4294967296:abA.den))) (Int.toNat (y % (4294967296:abA.den))) rs (32:Nat))))))=aT.one (SV.c (SC.v (Value.int IntKind.i64 (aI (je (x % (4294967296:Int)).toNat (y % (4294967296:Int)).toNat rs x_1))))))) ((∃x_1,x_1≤(32:Nat)∧(SV.c (SC.v (Value.int IntKind.i64 (0:Int)))=SV.c (SC.v (Value.int IntKind.i64 (↑x_1:Int)))∧SV.c (SC.v (Value.int IntKind.i64 (0:Int)))=SV.c (SC.v (Value.int IntKind.i64 (je (x % (4294967296:Int)).toNat (y % (4294967296:Int)).toNat rs x_1)))∧SV.c (SC.v (Value.int IntKind.i64 (1:Int)))=SV.c (SC.v (Value.int IntKind.i64 (↑((2:Nat) ^ x_1):Int)))∧SV.c (SC.v (Value.int IntKind.i64 x))=SV.c (SC.v (Value.int IntKind.i64 (↑((x % (4294967296:Int)).toNat / (2:Nat) ^ x_1):Int)))∧SV.c (SC.v (Value.int IntKind.i64 y))=SV.c (SC.v (Value.int IntKind.i64 (↑((y % (4294967296:Int)).toNat / (2:Nat) ^ x_1):Int)))∧True)∧[(([]:Go.aV.Gd),aj.obj (203:Nat) (Sh.arr (4:Nat) abA) rs)]=[(([]:Go.aV.Gd),aj.obj (203:Nat) (Sh.arr (4:Nat) abA) rs)])∧∀(x_1:Nat),x_1≤(32:Nat)→br (decide ((↑x_1:Int) < (32:Int))) ((2:Int)≠(0:Int)∧cZ IntKind.i64 ((2:Int) * (↑((x % (4294967296:Int)).toNat / (2:Nat) ^ x_1):Int).tmod (2:Int))∧(2:Int)≠(0:Int)∧cZ IntKind.i64 ((2:Int) * (↑((x % (4294967296:Int)).toNat / (2:Nat) ^ x_1):Int).tmod (2:Int)+(↑((y % (4294967296:Int)).toNat / (2:Nat) ^ x_1):Int).tmod (2:Int))∧((0:Int)≤(2:Int) * (↑((x % (4294967296:Int)).toNat / (2:Nat) ^ x_1):Int).tmod (2:Int)+(↑((y % (4294967296:Int)).toNat / (2:Nat) ^ x_1):Int).tmod (2:Int)∧(2:Int) * (↑((x % (4294967296:Int)).toNat / (2:Nat) ^ x_1):Int).tmod (2:Int)+(↑((y % (4294967296:Int)).toNat / (2:Nat) ^ x_1):Int).tmod (2:Int) < (4:Int))∧((2:Int) * (↑((x % (4294967296:Int)).toNat / (2:Nat) ^ x_1):Int).tmod (2:Int)+(↑((y % (4294967296:Int)).toNat / (2:Nat) ^ x_1):Int).tmod (2:Int)).toNat < (4:Nat)∧∀(d:Int),rs[((2:Int) * (↑((x % (4294967296:Int)).toNat / (2:Nat) ^ x_1):Int).tmod (2:Int)+(↑((y % (4294967296:Int)).toNat / (2:Nat) ^ x_1):Int).tmod (2:Int)).toNat]?=some d→cZ IntKind.i64 ((↑((2:Nat) ^ x_1):Int) * d)∧cZ IntKind.i64 (je (x % (4294967296:Int)).toNat (y % (4294967296:Int)).toNat rs x_1+(↑((2:Nat) ^ x_1):Int) * d)∧(2:Int)≠(0:Int)∧cZ IntKind.i64 ((↑((x % (4294967296:Int)).toNat / (2:Nat) ^ x_1):Int).tdiv (2:Int))∧(2:Int)≠(0:Int)∧cZ IntKind.i64 ((↑((y % (4294967296:Int)).toNat / (2:Nat) ^ x_1):Int).tdiv (2:Int))∧cZ IntKind.i64 ((2:Int) * (↑((2:Nat) ^ x_1):Int))∧cZ IntKind.i64 ((↑x_1:Int)+(1:Int))∧∃x',x'≤(32:Nat)∧(SV.c (SC.v (Value.int IntKind.i64 ((↑x_1:Int)+(1:Int))))=SV.c (SC.v (Value.int IntKind.i64 (↑x':Int)))∧SV.c (SC.v (Value.int IntKind.i64 (je (x % (4294967296:Int)).toNat (y % (4294967296:Int)).toNat rs x_1+(↑((2:Nat) ^ x_1):Int) * d)))=SV.c (SC.v (Value.int IntKind.i64 (je (x % (4294967296:Int)).toNat (y % (4294967296:Int)).toNat rs x')))∧SV.c (SC.v (Value.int IntKind.i64 ((2:Int) * (↑((2:Nat) ^ x_1):Int))))=SV.c (SC.v (Value.int IntKind.i64 (↑((2:Nat) ^ x'):Int)))∧SV.c (SC.v (Value.int IntKind.i64 ((↑((x % (4294967296:Int)).toNat / (2:Nat) ^ x_1):Int).tdiv (2:Int))))=SV.c (SC.v (Value.int IntKind.i64 (↑((x % (4294967296:Int)).toNat / (2:Nat) ^ x'):Int)))∧SV.c (SC.v (Value.int IntKind.i64 ((↑((y % (4294967296:Int)).toNat / (2:Nat) ^ x_1):Int).tdiv (2:Int))))=SV.c (SC.v (Value.int IntKind.i64 (↑((y % (4294967296:Int)).toNat / (2:Nat) ^ x'):Int)))∧True)∧[(([]:Go.aV.Gd),aj.obj (203:Nat) (Sh.arr (4:Nat) abA) rs)]=[(([]:Go.aV.Gd),aj.obj (203:Nat) (Sh.arr (4:Nat) abA) rs)]∧(32:Nat) - x' < (32:Nat) - x_1) (True∧([]:List Go.aV.aj)=[]∧aT.one (SV.c (SC.v (Value.int IntKind.i64 (aI (je (Int.toNat (x % (4294967296:abA.den))) (Int.toNat (y % (4294967296:abA.den))) rs (32:Nat))))))=aT.one (SV.c (SC.v (Value.int IntKind.i64 (aI (je (x % (4294967296:Int)).toNat (y % (4294967296:Int)).toNat rs x_1)))))))):=by
 delta abA;obtain⟨hx,hy,hv⟩:(-2147483648≤x∧x≤2147483647)∧(-2147483648≤y∧y≤2147483647)∧(∀v∈rs,v=0∨v=1):=aA;have vi:∀{a b:Int},a=b→SV.c (SC.v (Value.int .i64 a))=SV.c (SC.v (Value.int .i64 b)):=λh=>by rw[h]
 have x0:∀(z:Int),((z % 4294967296).toNat / 2 ^ 0:Nat)=(z % 4294967296).toNat:=λz=>by simp
 have step:∀i:Nat,i≤32→br (decide ((i:Int) < 32)) ((2:Int)≠0∧cZ .i64 (2 * ((((x % 4294967296).toNat / 2 ^ i:Nat):Int)).tmod 2)∧(2:Int)≠0∧cZ .i64 (2 * ((((x % 4294967296).toNat / 2 ^ i:Nat):Int)).tmod 2+((((y % 4294967296).toNat / 2 ^ i:Nat):Int)).tmod 2)∧(0≤2 * ((((x % 4294967296).toNat / 2 ^ i:Nat):Int)).tmod 2+((((y % 4294967296).toNat / 2 ^ i:Nat):Int)).tmod 2∧2 * ((((x % 4294967296).toNat / 2 ^ i:Nat):Int)).tmod 2+((((y % 4294967296).toNat / 2 ^ i:Nat):Int)).tmod 2 < 4)∧(2 * ((((x % 4294967296).toNat / 2 ^ i:Nat):Int)).tmod 2+((((y % 4294967296).toNat / 2 ^ i:Nat):Int)).tmod 2).toNat < 4 ∧
  ∀(d:Int),rs[(2 * ((((x % 4294967296).toNat / 2 ^ i:Nat):Int)).tmod 2+((((y % 4294967296).toNat / 2 ^ i:Nat):Int)).tmod 2).toNat]?=some d→cZ .i64 (((2 ^ i:Nat):Int) * d)∧cZ .i64 (je (x % 4294967296).toNat (y % 4294967296).toNat rs i+((2 ^ i:Nat):Int) * d)∧(2:Int)≠0∧cZ .i64 ((((x % 4294967296).toNat / 2 ^ i:Nat):Int).tdiv 2)∧(2:Int)≠0∧cZ .i64 ((((y % 4294967296).toNat / 2 ^ i:Nat):Int).tdiv 2)∧cZ .i64 (2 * ((2 ^ i:Nat):Int))∧cZ .i64 ((i:Int)+1) ∧
    ∃x':Nat,x'≤32∧(SV.c (SC.v (Value.int .i64 ((i:Int)+1)))=SV.c (SC.v (Value.int .i64 (x':Int)))∧SV.c (SC.v (Value.int .i64 (je (x % 4294967296).toNat (y % 4294967296).toNat rs i+((2 ^ i:Nat):Int) * d)))=SV.c (SC.v (Value.int .i64 (je (x % 4294967296).toNat (y % 4294967296).toNat rs x')))∧SV.c (SC.v (Value.int .i64 (2 * ((2 ^ i:Nat):Int))))=SV.c (SC.v (Value.int .i64 ((2 ^ x':Nat):Int)))∧SV.c (SC.v (Value.int .i64 ((((x % 4294967296).toNat / 2 ^ i:Nat):Int).tdiv 2)))=SV.c (SC.v (Value.int .i64 (((x % 4294967296).toNat / 2 ^ x':Nat):Int)))∧SV.c (SC.v (Value.int .i64 ((((y % 4294967296).toNat / 2 ^ i:Nat):Int).tdiv 2)))=SV.c (SC.v (Value.int .i64 (((y % 4294967296).toNat / 2 ^ x':Nat):Int)))∧True)∧[(([]:Go.aV.Gd),aj.obj 203 (.arr 4 (.int .i64)) rs)]=[(([]:Go.aV.Gd),aj.obj 203 (.arr 4 (.int .i64)) rs)]∧32 - x' < 32 - i) (True∧([]:List Go.aV.aj)=[]∧aT.one (SV.c (SC.v (Value.int .i64 (aI (je (x % 4294967296).toNat (y % 4294967296).toNat rs 32)))))=aT.one (SV.c (SC.v (Value.int .i64 (aI (je (x % 4294967296).toNat (y % 4294967296).toNat rs i)))))):=by
  intro i hi;have hr:=I5 (X:=(x % 4294967296).toNat) (Y:=(y % 4294967296).toNat) hv i;have hX:(x % 4294967296).toNat < 4294967296:=by omega
  have hY:(y % 4294967296).toNat < 4294967296:=by omega
  have hb:je (x % 4294967296).toNat (y % 4294967296).toNat rs (i+1)=je (x % 4294967296).toNat (y % 4294967296).toNat rs i+2 ^ i * rs.getD (2 * ((x % 4294967296).toNat / 2 ^ i % 2)+(y % 4294967296).toNat / 2 ^ i % 2) 0:=rfl;generalize (x % 4294967296).toNat=X at *;generalize (y % 4294967296).toNat=Y at *;have hc:(2:Int) ^ i=((2 ^ i:Nat):Int):=by push_cast;rfl
  rw[hc]at hr hb;have hu:X / 2 ^ (i+1)=X / 2 ^ i / 2:=by rw[Nat.pow_succ,Nat.div_div_eq_div_mul]
  have hw:Y / 2 ^ (i+1)=Y / 2 ^ i / 2:=by rw[Nat.pow_succ,Nat.div_div_eq_div_mul]
  have lx:X / 2 ^ i≤X:=Nat.div_le_self _ _;have ly:Y / 2 ^ i≤Y:=Nat.div_le_self _ _;have hp1:2 ^ (i+1)=2 * 2 ^ i:=by rw[Nat.pow_succ];omega
  refine aJ.2 ⟨λh=>?_,λh=>⟨trivial,rfl,?_⟩⟩
  ·have hp:2 ^ i≤2147483648:=by
    have:=Nat.pow_le_pow_right (n:=2) (by omega) (show i≤31 by omega)
    simpa using this
   generalize X / 2 ^ i=u at *;generalize Y / 2 ^ i=w at *;have t1:((u:Int)).tmod 2=((u % 2:Nat):Int):=by rw[aeC (by omega)];omega
   have t2:((w:Int)).tmod 2=((w % 2:Nat):Int):=by rw[aeC (by omega)];omega
   have t3:((u:Int)).tdiv 2=((u / 2:Nat):Int):=by rw[VL (by omega)];omega
   have t4:((w:Int)).tdiv 2=((w / 2:Nat):Int):=by rw[VL (by omega)];omega
   rw[t1,t2,t3,t4];have ei:(2 * ((u % 2:Nat):Int)+((w % 2:Nat):Int)).toNat=2 * (u % 2)+w % 2:=by omega
   rw[ei];refine⟨by decide,au.2 (by omega),by decide,au.2 (by omega),by omega,by omega,λd hd=>?_⟩
   have hd1:=hv d (iF hd);have hg:rs.getD (2 * (u % 2)+w % 2) 0=d:=by rw[H8,hd];rfl
   rw[hg]at hb;have hm:((2 ^ i:Nat):Int) * d=0∨((2 ^ i:Nat):Int) * d=((2 ^ i:Nat):Int):=by
    rcases hd1 with e | e
    ·left;rw[e];simp
    ·right;rw[e];simp
   refine⟨au.2 (by omega),au.2 (by omega),by decide,au.2 (by omega),by decide,au.2 (by omega),au.2 (by omega),au.2 (by omega),i+1,by omega,⟨rfl,vi hb.symm,vi (by rw[hp1];omega),vi (by rw[hu]),vi (by rw[hw]),trivial⟩,rfl,by omega⟩
  ·have:i=32:=by omega
   rw[this]
 refine aJ.2 ⟨λh=>⟨au.2 (by omega),aJ.2 ⟨λh2=>⟨au.2 (by omega),⟨0,by omega,⟨rfl,rfl,rfl,vi (by rw[x0];omega),vi (by rw[x0];omega),trivial⟩,rfl⟩,step⟩,λh2=>⟨⟨0,by omega,⟨rfl,rfl,rfl,vi (by rw[x0];omega),vi (by rw[x0];omega),trivial⟩,rfl⟩,step⟩⟩⟩,
  λh=>aJ.2 ⟨λh2=>⟨au.2 (by omega),⟨0,by omega,⟨rfl,rfl,rfl,vi (by rw[x0];omega),vi (by rw[x0];omega),trivial⟩,rfl⟩,step⟩,λh2=>⟨⟨0,by omega,⟨rfl,rfl,rfl,vi (by rw[x0];omega),vi (by rw[x0];omega),trivial⟩,rfl⟩,step⟩⟩⟩
theorem acO:Go.aV.Met Tryz.prog aK.gd 194 acN:=
 bW (cx:=aK) (n:=42) (cl:=[(193,Lh)]) (rc:=[]) ay ⟨OV,trivial⟩ Tryz.func194 λd hd=>by
  obtain⟨x,y,rs,⟨⟩⟩:=d;exact aH (anH x y rs) (ahS x y rs hd) (by kernel_rfl)
abbrev RP:CT:={ ps:=[.int .i64,.int .i64,.int .i64],pre:=λd=>True,res:=λd=>([],.gX [.c (.v (.int .i64 (dP d.1 d.2.1 d.2.2.1).1)),.c (.v (.int .i64 (dP d.1 d.2.1 d.2.2.1).2))]) }
theorem ahT(f a b:Int):
 let z1:=[cI ((dP f a b).fst),cI ((dP f a b).snd)];let z2:=(-2147483648)≤aI a∧aI a≤2147483647;let z3:=(-2147483648)≤aI b∧aI b≤2147483647;let z4:=[(0:Int),(0:Int),(0:Int),(1:Int)];let z7:=Int.toNat (aI a % (4294967296:Int));let z8:=Int.toNat (aI b % (4294967296:Int));let z5:=[(0:Int),(1:Int),(1:Int),(1:Int)];let z6:=[(0:Int),(1:Int),(1:Int),(0:Int)];True∧True∧br (decide (f=1)) (cZ IntKind.i64 (aI a+aI b)∧True∧rT z1 [cI (aI (aI a+aI b)),cI 0]) (br (decide (f=2)) (cZ IntKind.i64 (aI a - aI b)∧True∧rT z1 [cI (aI (aI a - aI b)),cI 0]) (br (decide (f=3)) (cZ IntKind.i64 (aI a * aI b)∧True∧rT z1 [cI (aI (aI a * aI b)),cI 0]) (br (decide (f=4)) ((z2∧z3∧∀(v:Int),v∈z4→v=0∨v=1)∧rT z1 [cI (aI (je z7 z8 z4 32)),cI 0]) (br (decide (f=5)) ((z2∧z3∧∀(v:Int),v∈z5→v=0∨v=1)∧rT z1 [cI (aI (je z7 z8 z5 32)),cI 0]) (br (decide (f=6)) ((z2∧z3∧∀(v:Int),v∈z6→v=0∨v=1)∧rT z1 [cI (aI (je z7 z8 z6 32)),cI 0]) (br (decide (f=7)) (True∧rT z1 [cI (if decide (aI a=aI b)=true then(1:Int) else(0:Int)),cI 0]) (br (decide (f=8)) (True∧rT z1 [cI (if(!decide (aI a=aI b))=true then(1:Int) else(0:Int)),cI 0]) (br (decide (f=9)) (True∧rT z1 [cI (if decide (aI a < aI b)=true then(1:Int) else(0:Int)),cI 0]) (br (decide (f=10)) (True∧rT z1 [cI (if decide (aI a≤aI b)=true then(1:Int) else(0:Int)),cI 0]) (rT z1 [cI 0,cI 8])))))))))):=by
 conv=>zeta
 delta cI rT;have ha:=oL a;have hb:=oL b;have hm:=ako ha hb;have b1:=ach (x:=aI a) (y:=aI b);have b2:=ahv (x:=aI a) (y:=aI b);have b3:=aci (x:=aI a) (y:=aI b);unfold dP
 refine⟨trivial,trivial,aJ.2 ⟨λh=>⟨au.2 (by omega),trivial,rfl,by rw[if_pos h]⟩,λn1=>aJ.2 ⟨λh=>⟨au.2 (by omega),trivial,rfl,by rw[if_neg n1,if_pos h]⟩,λn2=>aJ.2 ⟨λh=>⟨au.2 (by omega),trivial,rfl,by rw[if_neg n1,if_neg n2,if_pos h]⟩,λn3=>aJ.2 ⟨λh=>⟨⟨ha,hb,λv hv=>by simp at hv;omega⟩,rfl,by rw[if_neg n1,if_neg n2,if_neg n3,if_pos h];exact Ec (λz=>aT.gX [SV.c (SC.v (Value.int .i64 z)),SV.c (SC.v (Value.int .i64 0))]) b1.symm⟩,λn4=>aJ.2 ⟨λh=>⟨⟨ha,hb,λv hv=>by simp at hv;omega⟩,rfl,by rw[if_neg n1,if_neg n2,if_neg n3,if_neg n4,if_pos h];exact Ec (λz=>aT.gX [SV.c (SC.v (Value.int .i64 z)),SV.c (SC.v (Value.int .i64 0))]) b2.symm⟩,λn5=>aJ.2 ⟨λh=>⟨⟨ha,hb,λv hv=>by simp at hv;omega⟩,rfl,by rw[if_neg n1,if_neg n2,if_neg n3,if_neg n4,if_neg n5,if_pos h];exact Ec (λz=>aT.gX [SV.c (SC.v (Value.int .i64 z)),SV.c (SC.v (Value.int .i64 0))]) b3.symm⟩,λn6=>aJ.2 ⟨λh=>⟨trivial,rfl,by simp[h]⟩,λn7=>aJ.2 ⟨λh=>⟨trivial,rfl,by simp[h]⟩,λn8=>aJ.2 ⟨λh=>⟨trivial,rfl,by simp[h]⟩,λn9=>aJ.2 ⟨λh=>⟨trivial,rfl,by simp[h]⟩,λn10=>⟨rfl,by simp[n1,n2,n3,n4,n5,n6,n7,n8,n9,n10]⟩⟩⟩⟩⟩⟩⟩⟩⟩⟩⟩⟩
theorem OW:Go.aV.Met Tryz.prog aK.gd 159 RP:=
 bW (cx:=aK) (n:=75) (cl:=[(193,Lh),(195,acL),(194,acN)]) (rc:=[]) ay ⟨OV,acM,acO,trivial⟩ Tryz.func159 λd hd=>by
  obtain⟨f,a,b,⟨⟩⟩:=d;exact aH (λ_=>none) (ahT f a b) (by kernel_rfl)
abbrev RQ:CT:={ ps:=[.int .i64],pre:=λd=>True,res:=λd=>([],vB (jf d.1)) }
theorem ahU(op:Int):
 qB (jf op) (decide (8≤op) && decide (op≤22)):=by
 delta qB;refine⟨rfl,?_⟩;rw[show jf op=(decide (8≤op) && decide (op≤22)) by unfold jf;rw[Ee];simp]
theorem OX:Go.aV.Met Tryz.prog aK.gd 152 RQ:=
 jC (cx:=aK) (n:=9) (cl:=[]) ay trivial Tryz.func152 λd hd=>by
  obtain⟨op,⟨⟩⟩:=d;exact aH (λ_=>none) (ahU op) (by kernel_rfl)
abbrev Ja:CT:={ ps:=[.int .i64],pre:=λd=>d.1≤9223372036854775807,res:=λd=>([],vB (decide (0≤aU d.1))) }
@[reducible] def arj (id:Int):Nat→Option (St→iC):=λk=>match k with
  | 2=>some λ_=>.inv { α:=Nat×Int,slots:=λx=>[(3,.c (.v (.int .i64 x.1))),(0,.c (.v (.int .i64 x.2)))],res:=λ_=>[],inv:=λx=>x.1≤5∧x.2≤9223372036854775807∧aU id=if x.2 < 0 then -1 else dY (5 - x.1) x.1 x.2,meas:=λx=>5 - x.1 }
  | _=>none
theorem anI(id:Int) (aA:Ja.pre (id,())):
 let z1:=λ(x:Nat×Int)=>x.fst≤5∧x.snd≤9223372036854775807∧aU id=if x.snd < 0 then(-1:Int) else dY (5 - x.fst) (↑x.fst:Int) x.snd;let z2:=qB (decide (0≤aU id)) false;(∃(x:Nat×Int),(z1 x)∧(cI 0=cI (↑x.fst:Int)∧cI id=cI x.snd∧True)∧([]:List aal)=[])∧∀(x:Nat×Int),(z1 x)→br (decide ((↑x.fst:Int)≤(4:Int))) (br (decide (x.snd < 0)) z2 (br (decide (x.snd < 8)) (qB (decide (0≤aU id)) true) ((8:Int)≠(0:Int)∧br (decide (7≤x.snd.tmod (8:Int))) z2 ((8:Int)≠(0:Int)∧cZ IntKind.i64 (x.snd.tdiv (8:Int))∧cZ IntKind.i64 (x.snd.tdiv (8:Int) - (1:Int))∧cZ IntKind.i64 ((↑x.fst:Int)+(1:Int))∧∃(x':Nat×Int),(z1 x')∧(cI ((↑x.fst:Int)+(1:Int))=cI (↑x'.fst:Int)∧cI (x.snd.tdiv (8:Int) - (1:Int))=cI x'.snd∧True)∧([]:List aal)=[]∧5 - x'.fst < 5 - x.fst)))) z2:=by
 conv=>zeta
 delta aal cI qB;have hp:id≤9223372036854775807:=aA;refine⟨⟨(0,id),⟨by omega,hp,rfl⟩,⟨rfl,rfl,trivial⟩,rfl⟩,λx hx=>?_⟩
 obtain⟨k,v⟩:=x;obtain⟨x1,x2,x3⟩:=hx;have x1:k≤5:=x1;have x2:v≤9223372036854775807:=x2;have x3:aU id=if v < 0 then -1 else dY (5 - k) k v:=x3
 refine aJ.2 ⟨λh=>aJ.2 ⟨λh2=>?_,λh2=>aJ.2 ⟨λh3=>?_,λh3=>⟨by decide,aJ.2 ⟨λh4=>?_,λh4=>?_⟩⟩⟩⟩,λh=>?_⟩
 ·have h2:v < 0:=h2;rw[if_pos h2]at x3;rw[x3];exact⟨rfl,rfl⟩
 all_goals first | (have h:k≤4:=by(have:(k:Int)≤4:=h);omega) | skip
 all_goals first | (have h2:¬v < 0:=h2) | skip
 ·have h3:v < 8:=h3;rw[if_neg h2]at x3;obtain⟨m,hm⟩:∃m,5 - k=m+1:=⟨4 - k,by omega⟩
  rw[hm,dY,if_pos h3]at x3;rw[x3,show decide ((0:Int)≤k)=true from L6 (by omega)];exact⟨rfl,rfl⟩
 ·have h3:¬v < 8:=h3;have h4:7≤v.tmod 8:=h4;rw[if_neg h2]at x3;obtain⟨m,hm⟩:∃m,5 - k=m+1:=⟨4 - k,by omega⟩
  rw[hm,dY,if_neg h3,if_pos h4]at x3;rw[x3];exact⟨rfl,rfl⟩
 ·have h3:¬v < 8:=h3;have h4:¬7≤v.tmod 8:=h4;rw[if_neg h2]at x3;obtain⟨m,hm⟩:∃m,5 - k=m+1:=⟨4 - k,by omega⟩
  rw[hm,dY,if_neg h3,if_neg h4]at x3;have e:v.tdiv 8=v / 8:=VL (by omega)
  refine⟨by decide,au.2 (show(-9223372036854775808:Int)≤v.tdiv 8∧v.tdiv 8≤9223372036854775807 by omega),au.2 (show(-9223372036854775808:Int)≤v.tdiv 8 - 1∧v.tdiv 8 - 1≤9223372036854775807 by omega),au.2 (show(-9223372036854775808:Int)≤(k:Int)+1∧(k:Int)+1≤9223372036854775807 by omega),(k+1,v.tdiv 8 - 1),⟨show k+1≤5 by omega,show v.tdiv 8 - 1≤9223372036854775807 by omega,?_⟩,⟨rfl,rfl,trivial⟩,rfl,show 5 - (k+1) < 5 - k by omega⟩
  show aU id=if v.tdiv 8 - 1 < 0 then -1 else dY (5 - (k+1)) ((k+1:Nat):Int) (v.tdiv 8 - 1)
  rw[if_neg (by omega),x3,show 5 - (k+1)=m by omega];rfl
 ·have h:¬k≤4:=by
   have:¬(k:Int)≤4:=h;omega
  rw[show 5 - k=0 by omega]at x3
  have:aU id = -1:=by rw[x3];split<;>rfl
  rw[this];exact⟨rfl,rfl⟩
theorem DL:Go.aV.Met Tryz.prog aK.gd 80 Ja:=
 jC (cx:=aK) (n:=18) (cl:=[]) ay trivial Tryz.func80 λd hd=>by
  obtain⟨id,⟨⟩⟩:=d;exact aH (arj id) (anI id hd) (by kernel_rfl)
abbrev U4:CT:={ ps:=[.int .i64],pre:=λd=>d.1≤9223372036854775807,res:=λd=>([],.one (.c (.v (.int .i64 (iI d.1))))) }
@[reducible] def anJ (id:Int):Nat→Option (St→iC):=λk=>match k with
  | 4=>some λ_=>.inv { α:=Nat×Int,slots:=λx=>[(3,.c (.v (.int .i64 x.1))),(0,.c (.v (.int .i64 x.2)))],res:=λ_=>[],inv:=λx=>x.1≤4∧0≤x.2∧x.2≤9223372036854775807∧0≤aU id∧dY (5 - x.1) x.1 x.2=aU id,meas:=λx=>x.2.toNat }
  | _=>none
theorem ahW(id:Int) (aA:U4.pre (id,())):
 let z1:=λ(x:Nat×Int)=>x.fst≤4∧0≤x.snd∧x.snd≤9223372036854775807∧0≤aU id∧dY (5 - x.fst) (↑x.fst:Int) x.snd=aU id;id≤9223372036854775807∧br (!decide (0≤aU id)) (qI (iI id) (0:Int)) ((∃(x:Nat×Int),(z1 x)∧(cI 0=cI (↑x.fst:Int)∧cI id=cI x.snd∧True)∧([]:List aal)=[])∧∀(x:Nat×Int),x.fst≤4∧0≤x.snd∧x.snd≤9223372036854775807∧0≤aU id∧dY (5 - x.fst) (↑x.fst:Int) x.snd=aU id→br (decide (8≤x.snd)) ((8:Int)≠(0:Int)∧cZ IntKind.i64 (x.snd.tdiv (8:Int))∧cZ IntKind.i64 (x.snd.tdiv (8:Int) - (1:Int))∧cZ IntKind.i64 ((↑x.fst:Int)+(1:Int))∧∃(x':Nat×Int),(z1 x')∧(cI ((↑x.fst:Int)+(1:Int))=cI (↑x'.fst:Int)∧cI (x.snd.tdiv (8:Int) - (1:Int))=cI x'.snd∧True)∧([]:List aal)=[]∧x'.snd.toNat < x.snd.toNat) (qI (iI id) (↑x.fst:Int))):=by
 conv=>zeta
 delta aal cI qI;have hp:id≤9223372036854775807:=aA;refine⟨hp,ah.2 ⟨λh=>?_,λh=>?_⟩⟩
 ·have h:¬0≤aU id:=by simpa using h
  have e:iI id=0:=by unfold iI;rw[if_pos (by omega)]
  rw[e];exact⟨rfl,rfl⟩
 have h:0≤aU id:=by simpa using h
 have hl:=mQ h;have em:iI id=aU id:=by unfold iI;rw[if_neg (by omega)]
 refine⟨⟨(0,id),⟨by omega,hl.1,hp,h,by unfold aU;rw[if_neg (by omega)];rfl⟩,⟨rfl,rfl,trivial⟩,rfl⟩,λx hx=>?_⟩
 obtain⟨k,v⟩:=x;obtain⟨x1,x2,x3,_,x4⟩:=hx;have x1:k≤4:=x1;have x2:0≤v:=x2;have x3:v≤9223372036854775807:=x3;have x4:dY (5 - k) k v=aU id:=x4;obtain⟨m,hm⟩:∃m,5 - k=m+1:=⟨4 - k,by omega⟩
 rw[hm,dY]at x4;refine aJ.2 ⟨λh2=>?_,λh2=>?_⟩
 ·have h2:¬v < 8:=by
   have:8≤v:=h2;omega
  rw[if_neg h2]at x4;split at x4
  ·omega
  have e:v.tdiv 8=v / 8:=VL x2;have hm0:m≠0:=by
   intro q;subst q;simp[dY]at x4;omega
  refine⟨by decide,au.2 (show(-9223372036854775808:Int)≤v.tdiv 8∧v.tdiv 8≤9223372036854775807 by omega),au.2 (show(-9223372036854775808:Int)≤v.tdiv 8 - 1∧v.tdiv 8 - 1≤9223372036854775807 by omega),au.2 (show(-9223372036854775808:Int)≤(k:Int)+1∧(k:Int)+1≤9223372036854775807 by omega),(k+1,v.tdiv 8 - 1),⟨show k+1≤4 by omega,show 0≤v.tdiv 8 - 1 by omega,show v.tdiv 8 - 1≤9223372036854775807 by omega,h,?_⟩,⟨rfl,rfl,trivial⟩,rfl,show(v.tdiv 8 - 1).toNat < v.toNat by omega⟩
  show dY (5 - (k+1)) ((k+1:Nat):Int) (v.tdiv 8 - 1)=aU id;rw[←x4,show 5 - (k+1)=m by omega];rfl
 ·have h2:v < 8:=by
   have:¬8≤v:=h2;omega
  rw[if_pos h2]at x4;rw[em,←x4];exact⟨rfl,rfl⟩
theorem OY:Go.aV.Met Tryz.prog aK.gd 196 U4:=
 jC (cx:=aK) (n:=15) (cl:=[(80,Ja)]) ay ⟨DL,trivial⟩ Tryz.func196 λd hd=>by
  obtain⟨id,⟨⟩⟩:=d;exact aH (anJ id) (ahW id hd) (by kernel_rfl)
abbrev U5:CT:={ ps:=[dQ],pre:=λd=>d.1.1≤9223372036854775807,res:=λd=>([],.gX [.c (.v (.int .i64 (dB d.1.1 d.1.2.2.2.2.2.1).1)),.c (.v (.bool (dB d.1.1 d.1.2.2.2.2.2.1).2))]) }
theorem ahX(id fn pc:Int) (rg:List Int) (st ch ph su fa:Int) (he:List Int) (aA:U5.pre ((id,fn,pc,rg,st,ch,ph,su,fa,he,()),())):
 let z1:=[cI ((dB id ch).fst),cB ((dB id ch).snd)];id≤9223372036854775807∧((!!decide (0≤aU id))=true→id≤9223372036854775807)∧br (!decide (0≤aU id) || decide (iI id=4) || decide (ch < 0) || decide (7≤ch)) (rT z1 [cI 0,cB false]) (cZ IntKind.i64 (id+1)∧cZ IntKind.i64 ((8:Int) * (id+1))∧cZ IntKind.i64 ((8:Int) * (id+1)+ch)∧rT z1 [cI ((8:Int) * (id+1)+ch),cB true]):=by
 conv=>zeta
 delta cI cB rT;have hp:id≤9223372036854775807:=aA;refine⟨hp,λ_=>hp,ah.2 ⟨λh=>?_,λh=>?_⟩⟩
 ·have e:dB id ch=(0,false):=by
   unfold dB;rw[if_pos];unfold iI at h;simp only[AA,G6,dG,dh]at h;split at h<;>omega
  rw[e];exact⟨rfl,rfl⟩
 ·simp only[qH,yI,dG,dh]at h;obtain⟨⟨⟨h1,h2⟩,h3⟩,h4⟩:=h;unfold iI at h2;rw[if_neg (by omega)]at h2
  have e:dB id ch=(8 * (id+1)+ch,true):=by
   unfold dB;rw[if_neg (by omega)]
  have:=mQ h1;rw[e];exact⟨au.2 (by omega),au.2 (by omega),au.2 (by omega),rfl,rfl⟩
theorem OZ:Go.aV.Met Tryz.prog aK.gd 160 U5:=
 jC (cx:=aK) (n:=31) (cl:=[(80,Ja),(196,U4)]) ay ⟨DL,OY,trivial⟩ Tryz.func160 λd hd=>by
  obtain⟨⟨id,fn,pc,rg,st,ch,ph,su,fa,he,⟨⟩⟩,⟨⟩⟩:=d;exact aH (λ_=>none) (ahX id fn pc rg st ch ph su fa he hd) (by kernel_rfl)
abbrev vM:CT:={ ps:=[.sl (.int .i64),.int .i64],pre:=λd=>d.1.length≤1000000,res:=λd=>([],vB (dM d.1 d.2.1)) }
@[reducible] def anK (l:List Int) (x:Int):Nat→Option (St→iC):=λk=>match k with
  | 2=>some λ_=>.inv { α:=Nat,slots:=λk=>[(5,.c (.v (.int .i64 k)))],res:=λk=>[],inv:=λk=>k≤(l).length∧∀j < k,∀y,l[j]?=some y→¬y=x,meas:=λk=>(l).length - k }
  | _=>none
theorem ahY(l:List Int) (x:Int) (aA:vM.pre (l,x,())):
 let z1:=λ(x_1:Nat)=>(x_1≤l.length∧∀(j:Nat),j < x_1→∀(y:Int),l[j]?=some y→¬y=x);(∃x_1,(z1 x_1)∧(cI 0=cI (↑x_1:Int)∧True)∧([]:List aal)=[])∧∀(x_1:Nat),(z1 x_1)→br (decide ((↑x_1:Int) < (↑l.length:Int))) ((0≤(↑x_1:Int)∧(↑x_1:Int) < (↑l.length:Int))∧∀(d:Int),l[(↑x_1:Int).toNat]?=some d→br (decide (d=x)) (qB (dM l x) true) (cZ IntKind.i64 ((↑x_1:Int)+(1:Int))∧∃x',(x'≤l.length∧∀(j:Nat),j < x'→∀(y:Int),l[j]?=some y→¬y=x)∧(cI ((↑x_1:Int)+(1:Int))=cI (↑x':Int)∧True)∧([]:List aal)=[]∧l.length - x' < l.length - x_1)) (qB (dM l x) false):=by
 conv=>zeta
 delta aal cI qB;have hp:l.length≤1000000:=aA;refine⟨⟨0,⟨by omega,λj hj=>by omega⟩,⟨rfl,trivial⟩,rfl⟩,λk hk=>ah.2 ⟨λh=>?_,λh=>?_⟩⟩
 ·simp only[dG]at h;have hN:(↑k:Int).toNat=k:=by omega
  rw[hN];refine⟨by omega,λd hd=>ah.2 ⟨λh2=>⟨rfl,?_⟩,λh2=>⟨au.2 (by omega),k+1,⟨by omega,λj hj y hy=>?_⟩,⟨rfl,trivial⟩,rfl,by omega⟩⟩⟩
  ·have e:dM l x=true:=by
    unfold dM;exact VR.2 ⟨d,iF hd,h2⟩
   rw[e]
  ·by_cases gq:j=k
   ·subst gq;rw[hd]at hy;cases hy;simpa using h2
   ·exact hk.2 j (by omega) y hy
 ·simp only[dh]at h;have e:dM l x=false:=by
   unfold dM;rw[P9];intro i hi;obtain⟨j,hj⟩:=wQ hi;simpa using hk.2 j (by have:=(eU.1 hj).1;omega) i hj
  rw[e];exact⟨rfl,rfl⟩
theorem O1:Go.aV.Met Tryz.prog aK.gd 191 vM:=
 jC (cx:=aK) (n:=18) (cl:=[]) ay trivial Tryz.func191 λd hd=>by
  obtain⟨l,x,⟨⟩⟩:=d;exact aH (anK l x) (ahY l x hd) (by kernel_rfl)
abbrev Lj:CT:={ ps:=[.int .i64],pre:=λd=>True,res:=λd=>([],vB (bV d.1)) }
theorem anO(n:Int):
 qB (bV n) (decide ((-2147483648)≤n) && decide (n≤2147483647)):=by
 delta qB;refine⟨rfl,?_⟩;rw[show bV n=(decide (-2147483648≤n) && decide (n≤2147483647)) by unfold bV;rw[Ee];simp]
theorem Ll:Go.aV.Met Tryz.prog aK.gd 81 Lj:=
 jC (cx:=aK) (n:=9) (cl:=[]) ay trivial Tryz.func81 λd hd=>by
  obtain⟨n,⟨⟩⟩:=d;exact aH (λ_=>none) (anO n) (by kernel_rfl)
abbrev BH:CT:={ ps:=[oH,dQ],pre:=λd=>0≤d.2.1.2.1∧d.2.1.2.1 < d.1.2.2.2.1.length,res:=λd=>([],.one (.c (.sl qO (codeF d.1.2.2.2.1 d.2.1.2.1)))) }
theorem ah1(vs:List VD) (ms cs:List ByteArray) (fs:List FD) (ts:List SD) (id fn pc:Int) (rg:List Int) (st ch ph su fa:Int) (he:List Int) (aA:BH.pre ((vs,ms,cs,fs,ts,()),(id,fn,pc,rg,st,ch,ph,su,fa,he,()),())):
 (0≤fn∧fn < (↑fs.length:Int))∧∀(d:ByteArray×((I6.pair (I6.pair (I6.pair (I6.pair (I6.pair (I6.pair (I6.pair (I6.pair Sh.unit)))))))).sl.pair Sh.unit).den),fs[fn.toNat]?=some d→rE (aT.one (SV.c (SC.sl kq5 (codeF fs fn)))) (aT.one (SV.c (SC.sl kq5 d.snd.fst))):=by
 delta kq5 rE I6;have hp:0≤fn∧fn < (fs.length:Int):=aA;refine⟨hp,λd hd=>⟨rfl,?_⟩⟩
 obtain⟨y,hy,ey⟩:=oN hp;rw[hd]at hy;cases hy;rw[ey]
theorem Ae:Go.aV.Met Tryz.prog aK.gd 123 BH:=
 bW (cx:=aK) (n:=12) (cl:=[]) (rc:=[]) ay trivial Tryz.func123 λd hd=>by
  obtain⟨⟨vs,ms,cs,fs,ts,⟨⟩⟩,⟨id,fn,pc,rg,st,ch,ph,su,fa,he,⟨⟩⟩,⟨⟩⟩:=d;exact aH (λ_=>none) (ah1 vs ms cs fs ts id fn pc rg st ch ph su fa he hd) (by kernel_rfl)
abbrev U6:CT:={ ps:=[dQ,qO],pre:=λd=>d.1.2.2.2.2.2.2.2.2.2.1.length≤1000000∧d.1.1≤9223372036854775807,res:=λd=>([],.one (.c (.v (.int .i64 (iQ d.1.1 d.1.2.2.2.2.2.1 d.1.2.2.2.2.2.2.1 d.1.2.2.2.2.2.2.2.2.2.1 d.2.1))))) }
theorem ah2(id fn pc:Int) (rg:List Int) (st ch ph su fa:Int) (he:List Int) (op a b c obj n fo ord:Int) (aA:U6.pre ((id,fn,pc,rg,st,ch,ph,su,fa,he,()),(op,a,b,c,obj,n,fo,ord,()),())):
 let z2:=iQ id ch ph he (op,a,b,c,obj,n,fo,ord,());let z1:=qI z2 (0:Int);br (!decide (ph=0)) z1 ((decide (op=16)=true→he.length≤1000000)∧((decide (op=18) && !(decide (op=16) && !dM he obj))=true→he.length≤1000000)∧br (decide (op=16) && !dM he obj || decide (op=18) && !dM he n) (qI z2 (27:Int)) (br (decide (op=21)) (id≤9223372036854775807∧br (!(dB id ch).snd) (qI z2 (28:Int)) z1) z1)):=by
 conv=>zeta
 delta qI;obtain⟨h1,h2⟩:he.length≤1000000∧id≤9223372036854775807:=aA;unfold iQ;refine ah.2 ⟨λh=>⟨rfl,?_⟩,λh=>⟨λ_=>h1,λ_=>h1,ah.2 ⟨λq=>⟨rfl,?_⟩,λq=>aJ.2 ⟨λq2=>⟨h2,ah.2 ⟨λq3=>⟨rfl,?_⟩,λq3=>⟨rfl,?_⟩⟩⟩,λq2=>⟨rfl,?_⟩⟩⟩⟩⟩
 ·have h:ph≠0:=by simpa using h
  rw[if_pos h]
 all_goals
  have h:¬ph≠0:=by simpa using h
  rw[if_neg h]
 ·by_cases e:op=18
  ·subst e;simp at q;simp[q]
  ·by_cases e2:op=16
   ·subst e2;simp at q;simp[q]
   ·simp[e,e2]at q
 ·subst q2;simp at q3;simp[q3]
 ·subst q2;simp at q3;simp[q3]
 ·by_cases e:op=18
  ·subst e;simp at q;simp[q]
  ·by_cases e2:op=16
   ·subst e2;simp at q;simp[q]
   ·simp[e,e2,q2]
theorem O4:Go.aV.Met Tryz.prog aK.gd 153 U6:=
 bW (cx:=aK) (n:=44) (cl:=[(191,vM),(160,U5)]) (rc:=[]) ay ⟨O1,OZ,trivial⟩ Tryz.func153 λd hd=>by
  obtain⟨⟨id,fn,pc,rg,st,ch,ph,su,fa,he,⟨⟩⟩,⟨op,a,b,c,obj,n,fo,ord,⟨⟩⟩,⟨⟩⟩:=d;exact aH (λ_=>none) (ah2 id fn pc rg st ch ph su fa he op a b c obj n fo ord hd) (by kernel_rfl)
abbrev aks:CT:={ ps:=[dQ,.int .i64],pre:=λd=>True,res:=λd=>([],.one (.dat dQ (zY d.1 3 d.2.1))) }
theorem ah3(id fn pc:Int) (rg:List Int) (st ch ph su fa:Int) (he:List Int) (er:Int):
 rE (aT.one (SV.dat (I6.pair (I6.pair (I6.pair ((Sh.arr 8 I6).pair kq7)))) (zY (id,fn,pc,rg,st,ch,ph,su,fa,he,()) (3:Int) er))) (aT.one (SV.dat (I6.pair (I6.pair (I6.pair ((Sh.arr 8 I6).pair kq7)))) ((id,fn,pc,rg,st,ch,ph,(3:Int),er,he,())))):=by
 delta kq7 rE I6;exact⟨rfl,rfl⟩
theorem acT:Go.aV.Met Tryz.prog aK.gd 154 aks:=
 bW (cx:=aK) (n:=9) (cl:=[]) (rc:=[.data dQ]) ay trivial Tryz.func154 λd hd=>by
  obtain⟨⟨id,fn,pc,rg,st,ch,ph,su,fa,he,⟨⟩⟩,er,⟨⟩⟩:=d;exact aH (λ_=>none) (ah3 id fn pc rg st ch ph su fa he er) (by kernel_rfl)
abbrev RX:CT:={ ps:=[dQ,qO],pre:=λd=>(0≤d.2.1.2.1∧d.2.1.2.1 < 8)∧(0≤d.2.1.2.2.1∧d.2.1.2.2.1 < 8)∧(0≤d.2.1.2.2.2.1∧d.2.1.2.2.2.1 < 8)∧(0≤d.1.2.2.1∧d.1.2.2.1≤1000000)∧(d.2.1.1=3→(dP d.2.1.2.2.2.2.2.2.1 (d.1.2.2.2.1.getD d.2.1.2.2.1.toNat 0) (d.1.2.2.2.1.getD d.2.1.2.2.2.1.toNat 0)).2=0)∧¬(d.2.1.1=6∧d.1.2.2.2.1.getD d.2.1.2.2.1.toNat 0=0)∧d.2.1.1≠7,res:=λd=>([],.one (.dat dQ (dW d.1 d.2.1).1)) }
theorem ah4(id fn pc:Int) (rg:List Int) (st ch ph su fa:Int) (he:List Int) (op a b c obj n fo ord:Int) (aA:RX.pre ((id,fn,pc,rg,st,ch,ph,su,fa,he,()),(op,a,b,c,obj,n,fo,ord,()),())):
 let z3:=dW (id,fn,pc,rg,st,ch,ph,su,fa,he,()) (op,a,b,c,obj,n,fo,ord,());let z2:=rE (aT.one (SV.dat (I6.pair (I6.pair (I6.pair ((Sh.arr 8 I6).pair kq7)))) z3.fst)) (aT.one (SV.dat (I6.pair (I6.pair (I6.pair ((Sh.arr 8 I6).pair kq7)))) ((id,fn,n,rg,st,ch,ph,su,fa,he,()))));let z1:=rE (aT.one (SV.dat (I6.pair (I6.pair (I6.pair ((Sh.arr 8 I6).pair kq7)))) z3.fst)) (aT.one (SV.dat (I6.pair (I6.pair (I6.pair ((Sh.arr 8 I6).pair kq7)))) ((id,fn,pc+1,rg,st,ch,ph,su,fa,he,()))));cZ IntKind.i64 (pc+1)∧br (decide (op=1)) ((0≤a∧a < 8)∧a.toNat < 8∧rE (aT.one (SV.dat (I6.pair (I6.pair (I6.pair ((Sh.arr 8 I6).pair kq7)))) z3.fst)) (aT.one (SV.dat (I6.pair (I6.pair (I6.pair ((Sh.arr 8 I6).pair kq7)))) ((id,fn,pc+1,rg.set a.toNat n,st,ch,ph,su,fa,he,()))))) (br (decide (op=2)) ((0≤b∧b < 8)∧b.toNat < 8∧∀(d:Int),rg[b.toNat]?=some d→(0≤a∧a < 8)∧a.toNat < 8∧rE (aT.one (SV.dat (I6.pair (I6.pair (I6.pair ((Sh.arr 8 I6).pair kq7)))) z3.fst)) (aT.one (SV.dat (I6.pair (I6.pair (I6.pair ((Sh.arr 8 I6).pair kq7)))) ((id,fn,pc+1,rg.set a.toNat d,st,ch,ph,su,fa,he,()))))) (br (decide (op=3)) ((0≤b∧b < 8)∧b.toNat < 8∧∀(d:Int),rg[b.toNat]?=some d→(0≤c∧c < 8)∧c.toNat < 8∧∀(dH:Int),rg[c.toNat]?=some dH→True∧(0≤a∧a < 8)∧a.toNat < 8∧rE (aT.one (SV.dat (I6.pair (I6.pair (I6.pair ((Sh.arr 8 I6).pair kq7)))) z3.fst)) (aT.one (SV.dat (I6.pair (I6.pair (I6.pair ((Sh.arr 8 I6).pair kq7)))) ((id,fn,pc+1,rg.set a.toNat (dP fo d dH).fst,st,ch,ph,su,fa,he,()))))) (br (decide (op=4)) z2 (br (decide (op=5)) ((0≤b∧b < 8)∧b.toNat < 8∧∀(d:Int),rg[b.toNat]?=some d→br (!decide (d=0)) z2 z1) z1)))):=by
 conv=>zeta
 delta kq7 rE I6;obtain⟨hA,hB,hC,⟨hp0,hp1⟩,h33,h66,h77⟩:(0≤a∧a < 8)∧(0≤b∧b < 8)∧(0≤c∧c < 8)∧(0≤pc∧pc≤1000000)∧(op=3→(dP fo (rg.getD b.toNat 0) (rg.getD c.toNat 0)).2=0)∧¬(op=6∧rg.getD b.toNat 0=0)∧op≠7:=aA;have hA8:a.toNat < 8:=by omega
 have hB8:b.toNat < 8:=by omega
 have hC8:c.toNat < 8:=by omega
 have gd:∀{x d:Int},rg[x.toNat]?=some d→rg.getD x.toNat 0=d:=λhd=>by rw[H8,hd];rfl
 refine⟨au.2 (by omega),aJ.2 ⟨λh=>?_,λh=>aJ.2 ⟨λh2=>?_,λh2=>aJ.2 ⟨λh3=>?_,λh3=>aJ.2 ⟨λh4=>?_,λh4=>aJ.2 ⟨λh5=>?_,λh5=>?_⟩⟩⟩⟩⟩⟩
 ·have e:dW (id,fn,pc,rg,st,ch,ph,su,fa,he,()) (op,a,b,c,obj,n,fo,ord,())=((id,fn,pc+1,rg.set a.toNat n,st,ch,ph,su,fa,he,()),true):=by simp only[dW,if_pos h]
  rw[e];exact⟨hA,hA8,rfl,rfl⟩
 ·refine⟨hB,hB8,λd hd=>?_⟩
  have e:dW (id,fn,pc,rg,st,ch,ph,su,fa,he,()) (op,a,b,c,obj,n,fo,ord,())=((id,fn,pc+1,rg.set a.toNat d,st,ch,ph,su,fa,he,()),true):=by simp only[dW,if_neg h,if_pos h2,gd hd]
  rw[e];exact⟨hA,hA8,rfl,rfl⟩
 ·refine⟨hB,hB8,λd hd=>⟨hC,hC8,λd1 hd1=>⟨trivial,hA,hA8,rfl,?_⟩⟩⟩
  have h8:=h33 h3;rw[gd hd,gd hd1]at h8;have e:dW (id,fn,pc,rg,st,ch,ph,su,fa,he,()) (op,a,b,c,obj,n,fo,ord,())=((id,fn,pc+1,rg.set a.toNat (dP fo d d1).1,st,ch,ph,su,fa,he,()),true):=by simp only[dW,if_neg h,if_neg h2,if_pos h3,gd hd,gd hd1,if_pos h8]
  rw[e]
 ·have e:dW (id,fn,pc,rg,st,ch,ph,su,fa,he,()) (op,a,b,c,obj,n,fo,ord,())=((id,fn,n,rg,st,ch,ph,su,fa,he,()),true):=by simp only[dW,if_neg h,if_neg h2,if_neg h3,if_pos h4]
  rw[e];exact⟨rfl,rfl⟩
 ·refine⟨hB,hB8,λd hd=>ah.2 ⟨λh8=>?_,λh8=>?_⟩⟩
  ·have h8:¬d=0:=by simpa using h8
   have e:dW (id,fn,pc,rg,st,ch,ph,su,fa,he,()) (op,a,b,c,obj,n,fo,ord,())=((id,fn,n,rg,st,ch,ph,su,fa,he,()),true):=by simp only[dW,if_neg h,if_neg h2,if_neg h3,if_neg h4,if_pos h5,gd hd,if_neg h8]
   rw[e];exact⟨rfl,rfl⟩
  ·have h8:d=0:=by simpa using h8
   have e:dW (id,fn,pc,rg,st,ch,ph,su,fa,he,()) (op,a,b,c,obj,n,fo,ord,())=((id,fn,pc+1,rg,st,ch,ph,su,fa,he,()),true):=by simp only[dW,if_neg h,if_neg h2,if_neg h3,if_neg h4,if_pos h5,gd hd,if_pos h8]
   rw[e];exact⟨rfl,rfl⟩
 ·have e:dW (id,fn,pc,rg,st,ch,ph,su,fa,he,()) (op,a,b,c,obj,n,fo,ord,())=((id,fn,pc+1,rg,st,ch,ph,su,fa,he,()),true):=by simp only[dW,if_neg h,if_neg h2,if_neg h3,if_neg h4,if_neg h5,if_neg h77];rw[if_neg h66]
  rw[e];exact⟨rfl,rfl⟩
theorem acU:Go.aV.Met Tryz.prog aK.gd 155 RX:=
 bW (cx:=aK) (n:=72) (cl:=[(159,RP)]) (rc:=[.data dQ]) ay ⟨OW,trivial⟩ Tryz.func155 λd hd=>by
  obtain⟨⟨id,fn,pc,rg,st,ch,ph,su,fa,he,⟨⟩⟩,⟨op,a,b,c,obj,n,fo,ord,⟨⟩⟩,⟨⟩⟩:=d;exact aH (λ_=>none) (ah4 id fn pc rg st ch ph su fa he op a b c obj n fo ord hd) (by kernel_rfl)
abbrev Gq:CT:={ ps:=[oH,.int .i64],pre:=λd=>bnd (d.1,()),res:=λd=>([],.one (.c (.v (.int .i64 (bM (aB d.1.1 d.1.2.1 d.1.2.2.1 d.1.2.2.2.1 d.1.2.2.2.2.1).1 d.2.1))))) }
theorem anP(vs:List VD) (ms cs:List ByteArray) (fs:List FD) (ts:List SD) (bound:Int) (aA:Gq.pre ((vs,ms,cs,fs,ts,()),bound,())):
 let z2:=aB vs ms cs fs ts;let z1:=bM z2.fst bound;(vs.length≤1000000∧ms.length≤1000000∧cs.length≤1000000∧fs.length≤1000000∧ts.length≤1000000∧(∀(x:ByteArray×((I6.pair (I6.pair (I6.pair (I6.pair (I6.pair (I6.pair (I6.pair (I6.pair Sh.unit)))))))).sl.pair Sh.unit).den),x∈fs→List.length x.snd.fst≤1000000)∧(dR fs).length≤1000000)∧br (!decide (z2.fst=0)) (qI z1 (z2.fst)) (br (decide (bound < 1) || decide (32 < bound)) (qI z1 (2:Int)) (qI z1 (0:Int))):=by
 conv=>zeta
 delta qI I6;have hb:bnd ((vs,ms,cs,fs,ts,()),()):=aA;refine⟨hb,ah.2 ⟨λh=>?_,λh=>ah.2 ⟨λh2=>?_,λh2=>?_⟩⟩⟩
 ·have h:(aB vs ms cs fs ts).1≠0:=by simpa using h
  unfold bM;rw[if_pos h];exact⟨rfl,rfl⟩
 ·have h:¬(aB vs ms cs fs ts).1≠0:=by simpa using h
  have h2:bound < 1∨32 < bound:=by simpa using h2
  unfold bM;rw[if_neg h,if_pos h2];exact⟨rfl,rfl⟩
 ·have h:¬(aB vs ms cs fs ts).1≠0:=by simpa using h
  have h2:¬(bound < 1∨32 < bound):=by simp only[qH,dh]at h2;omega
  unfold bM;rw[if_neg h,if_neg h2];exact⟨rfl,rfl⟩
theorem Lm:Go.aV.Met Tryz.prog aK.gd 79 Gq:=
 jC (cx:=aK) (n:=23) (cl:=[(66,F6)]) ay ⟨KP,trivial⟩ Tryz.func79 λd hd=>by
  obtain⟨⟨vs,ms,cs,fs,ts,⟨⟩⟩,bound,⟨⟩⟩:=d;exact aH (λ_=>none) (anP vs ms cs fs ts bound hd) (by kernel_rfl)
theorem acW{id fn pc st ch ph su fa:Int}{rg he:List Int}{u:Unit}{i:ID} (h:i.1=7):dW (id,fn,pc,rg,st,ch,ph,su,fa,he,u) i=((id,fn,pc,rg,st,ch,ph,2,0,he,()),false):=by
 obtain⟨op,a,b,c,obj,n,f,ord,u2⟩:=i;have h:op=7:=h;subst h;simp[dW]
theorem RZ{id fn pc st ch ph su fa:Int}{rg he:List Int}{u:Unit}{i:ID} (h:i.1=6) (h0:rg.getD i.2.2.1.toNat 0=0):dW (id,fn,pc,rg,st,ch,ph,su,fa,he,u) i=((id,fn,pc,rg,st,ch,ph,3,26,he,()),false):=by
 obtain⟨op,a,b,c,obj,n,f,ord,u2⟩:=i;have h:op=6:=h;have h0:rg.getD b.toNat 0=0:=h0;subst h;simp only[dW];rw[if_neg (by decide),if_neg (by decide),if_neg (by decide),if_neg (by decide),if_neg (by decide),if_pos ⟨trivial,h0⟩]
theorem acX{id fn pc st ch ph su fa:Int}{rg he:List Int}{u:Unit}{i:ID} (h7:i.1≠7) (h6:¬(i.1=6∧rg.getD i.2.2.1.toNat 0=0)):(dW (id,fn,pc,rg,st,ch,ph,su,fa,he,u) i).2=true:=by
 obtain⟨op,a,b,c,obj,n,f,ord,u2⟩:=i;have h7:op≠7:=h7;have h6:¬(op=6∧rg.getD b.toNat 0=0):=h6;simp only[dW];rw[if_neg h6,if_neg h7]
 repeat' split
 all_goals rfl
theorem acY{f a b:Int} (h:1≤f∧f≤10):(dP f a b).2=0:=by
 unfold dP
 repeat' split
 all_goals first | rfl | omega
abbrev Lp:CT:={ ps:=[oH,.int .i64,dQ],pre:=λd=>(aB d.1.1 d.1.2.1 d.1.2.2.1 d.1.2.2.2.1 d.1.2.2.2.2.1).1=0∧bG d.1.2.1 d.1.2.2.2.1 d.2.1 d.2.2.1∧d.2.2.1.2.2.2.2.2.2.2.2.1=0∧d.2.2.1.2.2.2.2.2.2.2.2.2.1.length≤1000000∧d.2.2.1.1≤9223372036854775807∧d.2.2.1.2.2.2.1.length=8,res:=λd=>([],.one (.dat dQ (eF d.1.2.2.2.1 d.2.1 256 d.2.2.1))) }
@[reducible] def ark (vs:List VD) (ms cs:List ByteArray) (fs:List FD) (ts:List SD) (bound id fn pc:Int) (rg:List Int) (st ch ph su fa:Int) (he:List Int):Nat→Option (St→iC):=λk=>match k with
  | 4=>some λ_=>.inv { α:=Nat×TD,slots:=λx=>[(7,.c (.v (.int .i64 x.1)))],res:=λx=>[(1,.obj 56 dQ x.2)],inv:=λx=>x.1≤256∧bG ms fs bound x.2∧x.2.2.2.2.2.2.2.2.2.2.1=he∧x.2.1=id∧x.2.2.2.2.1.length=8∧x.2.2.2.2.2.2.2.2.2.1=0∧eF fs bound (256 - x.1) x.2=eF fs bound 256 (id,fn,pc,rg,st,ch,ph,su,fa,he,()),meas:=λx=>257 - x.1 }
  | _=>none
theorem anR(vs:List VD) (ms cs:List ByteArray) (fs:List FD) (ts:List SD) (bound id fn pc:Int) (rg:List Int) (st ch ph su fa:Int) (he:List Int) (aA:Lp.pre ((vs,ms,cs,fs,ts,()),bound,(id,fn,pc,rg,st,ch,ph,su,fa,he,()),())):
 let z9:=(id,fn,pc,rg,st,ch,ph,su,fa,he,());let z4:=λ(x:Nat×TD)=>x.fst≤256∧bG ms fs bound x.snd∧x.snd.snd.snd.snd.snd.snd.snd.snd.snd.snd.fst=he∧x.snd.fst=id∧x.snd.snd.snd.snd.fst.length=8∧x.snd.snd.snd.snd.snd.snd.snd.snd.snd.fst=0∧eF fs bound (256 - x.fst) x.snd=eF fs bound 256 z9;let z6:=[SC.sl aea vs,SC.sl Sh.str ms,SC.sl Sh.str cs,SC.sl kq2 fs,SC.sl aeb ts];let z8:=λ(x:Nat×TD)=>0≤x.snd.snd.fst∧x.snd.snd.fst < (↑fs.length:Int);let z10:=λ(x:Nat×TD)=>codeF fs x.snd.snd.fst;let z7:=eF fs bound 256 z9;let z3:=λ(x:Nat×TD)=>rE (aT.one (SV.dat (I6.pair (I6.pair (I6.pair ((Sh.arr 8 I6).pair kq7)))) z7)) (aT.one (SV.dat (I6.pair (I6.pair (I6.pair ((Sh.arr 8 I6).pair kq7)))) ((x.2.fst,x.2.2.fst,x.2.2.2.fst,x.2.2.2.2.fst,x.2.2.2.2.2.fst,x.2.2.2.2.2.2.fst,x.2.2.2.2.2.2.2.fst,(2:Int),x.2.2.2.2.2.2.2.2.snd))));let z5:=λ(x:Nat×TD)=>0≤x.snd.snd.snd.fst∧x.snd.snd.snd.fst < (↑(z10 x).length:Int);let z2:=λ(x:Nat×TD) (d:ID)=>(List.length x.snd.snd.snd.snd.snd.snd.snd.snd.snd.snd.fst≤1000000∧x.snd.fst≤9223372036854775807)∧br (!decide (iQ x.snd.fst x.snd.snd.snd.snd.snd.snd.fst x.snd.snd.snd.snd.snd.snd.snd.fst x.snd.snd.snd.snd.snd.snd.snd.snd.snd.snd.fst d=0)) (True∧rE (aT.one (SV.dat (I6.pair (I6.pair (I6.pair ((Sh.arr 8 I6).pair kq7)))) z7)) (aT.one (SV.dat (I6.pair (I6.pair (I6.pair ((Sh.arr 8 I6).pair kq7)))) (zY x.snd (3:Int) (iQ x.snd.fst x.snd.snd.snd.snd.snd.snd.fst x.snd.snd.snd.snd.snd.snd.snd.fst x.snd.snd.snd.snd.snd.snd.snd.snd.snd.snd.fst d))))) (br (decide (x.snd.snd.snd.snd.snd.fst=bound)) (rE (aT.one (SV.dat (I6.pair (I6.pair (I6.pair ((Sh.arr 8 I6).pair kq7)))) z7)) (aT.one (SV.dat (I6.pair (I6.pair (I6.pair ((Sh.arr 8 I6).pair kq7)))) ((x.2.fst,x.2.2.fst,x.2.2.2.fst,x.2.2.2.2.fst,x.2.2.2.2.2.fst,x.2.2.2.2.2.2.fst,x.2.2.2.2.2.2.2.fst,(4:Int),x.2.2.2.2.2.2.2.2.snd))))) (rE (aT.one (SV.dat (I6.pair (I6.pair (I6.pair ((Sh.arr 8 I6).pair kq7)))) z7)) (aT.one (SV.dat (I6.pair (I6.pair (I6.pair ((Sh.arr 8 I6).pair kq7)))) (x.snd)))));let z1:=λ(x:Nat×TD) (d:ID)=>br (decide ((↑x.fst:Int)=(256:Int))) (True∧rE (aT.one (SV.dat (I6.pair (I6.pair (I6.pair ((Sh.arr 8 I6).pair kq7)))) z7)) (aT.one (SV.dat (I6.pair (I6.pair (I6.pair ((Sh.arr 8 I6).pair kq7)))) (zY x.snd (3:Int) (29:Int))))) (br (decide (d.fst=7)) (z3 x) ((decide (d.fst=6)=true→0≤d.snd.snd.fst∧d.snd.snd.fst < 8)∧(decide (d.fst=6)=true→Int.toNat d.snd.snd.fst < 8)∧∀(dH:Int),(decide (d.fst=6)=true→(x.2.2.2.2.fst,8,0).fst[Int.toNat d.snd.snd.fst]?=some dH)→br (decide (d.fst=6) && decide (dH=(0:Int))) (True∧rE (aT.one (SV.dat (I6.pair (I6.pair (I6.pair ((Sh.arr 8 I6).pair kq7)))) z7)) (aT.one (SV.dat (I6.pair (I6.pair (I6.pair ((Sh.arr 8 I6).pair kq7)))) (zY x.snd (3:Int) (26:Int))))) (((0≤d.snd.fst∧d.snd.fst < 8)∧(0≤d.snd.snd.fst∧d.snd.snd.fst < 8)∧(0≤d.snd.snd.snd.fst∧d.snd.snd.snd.fst < 8)∧(0≤x.snd.snd.snd.fst∧x.snd.snd.snd.fst≤1000000)∧(d.fst=3→(dP (d.snd.snd.snd.snd.snd.snd.fst,d.snd.snd.snd.snd.snd.snd.snd.fst,()).fst (List.getD x.snd.snd.snd.snd.fst (Int.toNat d.snd.snd.fst) (0:Int)) (List.getD x.snd.snd.snd.snd.fst (Int.toNat d.snd.snd.snd.fst) (0:Int))).snd=0)∧¬(d.fst=6∧List.getD x.snd.snd.snd.snd.fst (Int.toNat d.snd.snd.fst) (0:Int)=(0:Int))∧d.fst≠7)∧cZ IntKind.i64 ((↑x.fst:Int)+(1:Int))∧∃(x':Nat×TD),(z4 x')∧(cI ((↑x.fst:Int)+(1:Int))=cI (↑x'.fst:Int)∧True)∧[g0 (aj.blk 27 z6),g0 (aj.obj 56 (I6.pair (I6.pair (I6.pair ((Sh.arr 8 I6).pair kq7)))) ((dW x.snd d).fst)),g0 (aj.obj 56 (I6.pair (I6.pair (I6.pair ((Sh.arr 8 I6).pair kq7)))) ((0:Int),(0:Int),(0:Int),List.replicate 8 (0:Int),(0:Int),(0:Int),(0:Int),(0:Int),(0:Int),[],())),g0 aj.gone]=[g0 (aj.blk 27 z6),g0 (aj.obj 56 (I6.pair (I6.pair (I6.pair ((Sh.arr 8 I6).pair kq7)))) x'.snd),g0 (aj.obj 56 (I6.pair (I6.pair (I6.pair ((Sh.arr 8 I6).pair kq7)))) ((0:Int),(0:Int),(0:Int),List.replicate 8 (0:Int),(0:Int),(0:Int),(0:Int),(0:Int),(0:Int),[],())),g0 aj.gone]∧257 - x'.fst < 257 - x.fst)));jS (0+List.length (he)) 8∧(∃(x:Nat×TD),(z4 x)∧(cI 0=cI (↑x.fst:Int)∧True)∧[g0 (aj.blk 27 z6),g0 (aj.obj 56 (I6.pair (I6.pair (I6.pair ((Sh.arr 8 I6).pair kq7)))) (id,fn,pc,rg,st,ch,ph,su,fa,([]++he),())),g0 (aj.obj 56 (I6.pair (I6.pair (I6.pair ((Sh.arr 8 I6).pair kq7)))) ((0:Int),(0:Int),(0:Int),List.replicate 8 (0:Int),(0:Int),(0:Int),(0:Int),(0:Int),(0:Int),[],())),g0 aj.gone]=[g0 (aj.blk 27 z6),g0 (aj.obj 56 (I6.pair (I6.pair (I6.pair ((Sh.arr 8 I6).pair kq7)))) x.snd),g0 (aj.obj 56 (I6.pair (I6.pair (I6.pair ((Sh.arr 8 I6).pair kq7)))) ((0:Int),(0:Int),(0:Int),List.replicate 8 (0:Int),(0:Int),(0:Int),(0:Int),(0:Int),(0:Int),[],())),g0 aj.gone])∧∀(x:Nat×TD),x.fst≤256∧bG ms fs bound x.snd∧x.snd.snd.snd.snd.snd.snd.snd.snd.snd.snd.fst=he∧x.snd.fst=id∧x.snd.snd.snd.snd.fst.length=8∧x.snd.snd.snd.snd.snd.snd.snd.snd.snd.fst=0∧eF fs bound (256 - x.fst) x.snd=eF fs bound 256 z9→(z8 x)∧br (decide (x.snd.snd.snd.fst=(↑(z10 x).length:Int))) (z3 x) (((z8 x)∧(z5 x)∧∀(d:ID),(z10 x)[Int.toNat x.snd.snd.snd.fst]?=some d→True∧br (jf d.fst) (z2 x d) (z1 x d))∧(z8 x)∧(z5 x)∧∀(d:ID),(z10 x)[Int.toNat x.snd.snd.snd.fst]?=some d→True∧br (jf d.fst) (z2 x d) (z1 x d)):=by
 conv=>zeta
 delta aea kq2 aeb kq7 cI g0 rE I6;obtain⟨hc,hF,hf0,yE,hid,hrg⟩:(aB vs ms cs fs ts).1=0∧bG ms fs bound (id,fn,pc,rg,st,ch,ph,su,fa,he,())∧fa=0∧he.length≤1000000∧id≤9223372036854775807∧rg.length=8:=aA;have both:∀{A:Prop},A→A∧A:=λq=>⟨q,q⟩
 refine⟨bI.2 (by omega),⟨(0,(id,fn,pc,rg,st,ch,ph,su,fa,he,())),⟨by omega,hF,rfl,rfl,hrg,hf0,rfl⟩,⟨rfl,trivial⟩,rfl⟩,λx hx=>?_⟩
 obtain⟨k,id',fn',pc',DI,st',ch',I8,Oz,UH,he',⟨⟩⟩:=x;obtain⟨x1,x2,x3,x4,x5,x7,x6⟩:=hx;have x1:k≤256:=x1;have x3:he'=he:=x3;have x4:id'=id:=x4;have x5:DI.length=8:=x5;have x7:UH=0:=x7;have x6:eF fs bound (256 - k) (id',fn',pc',DI,st',ch',I8,Oz,UH,he',())=eF fs bound 256 (id,fn,pc,rg,st,ch,ph,su,fa,he,()):=x6;have x2:bG ms fs bound (id',fn',pc',DI,st',ch',I8,Oz,UH,he',()):=x2;subst x3;subst x4;subst x7;rw[←x6];have hfn:=x2.2.1;have hpc:=x2.2.2.1;refine⟨hfn,aJ.2 ⟨λh=>?_,λh=>both ⟨hfn,⟨hpc.1,?_⟩,λi ha=>?_⟩⟩⟩
 ·have ha:lH fs fn' pc'=none:=by
   have h:pc'=((codeF fs fn').length:Int):=h;exact qJ (by omega)
  rw[OJ ha];exact⟨rfl,rfl⟩
 ·have h:¬pc'=((codeF fs fn').length:Int):=h;show pc' < ((codeF fs fn').length:Int);omega
 have ha:lH fs fn' pc'=some i:=ha;have hci:=(mY (xk hc hfn ha)).1;obtain⟨r1,r2,r3,r4⟩:=kH hci;have h64:=tN hc hfn;refine⟨trivial,ah.2 ⟨λhv=>?_,λhv=>?_⟩⟩
 ·have hv:jf i.1=true:=hv;rw[UR ha hv];refine⟨⟨yE,hid⟩,ah.2 ⟨λh1=>?_,λh1=>aJ.2 ⟨λh2=>?_,λh2=>?_⟩⟩⟩
  ·have h1:iQ id' ch' I8 he' i≠0:=by simpa using h1
   rw[if_pos h1];exact⟨trivial,rfl,rfl⟩
  ·have h1:¬iQ id' ch' I8 he' i≠0:=by simpa using h1
   have h2:st'=bound:=h2;rw[if_neg h1,if_pos h2];exact⟨rfl,rfl⟩
  ·have h1:¬iQ id' ch' I8 he' i≠0:=by simpa using h1
   have h2:¬st'=bound:=h2;rw[if_neg h1,if_neg h2];exact⟨rfl,rfl⟩
 ·have hv:jf i.1=false:=hv;refine aJ.2 ⟨λh1=>?_,λh1=>?_⟩
  ·have h1:k=256:=by
    have:(k:Int)=256:=h1;omega
   rw[h1,show 256 - 256=0 from rfl,OL ha hv]
   exact⟨trivial,rfl,rfl⟩
  ·have h1:¬k=256:=by
    have:¬(k:Int)=256:=h1;omega
   obtain⟨m,hm⟩:∃m,256 - k=m+1:=⟨255 - k,by omega⟩
   rw[hm,OM ha hv];have hk:=Ac (id',fn',pc',DI,st',ch',I8,Oz,0,he',()) i;have hlen:=DK (id',fn',pc',DI,st',ch',I8,Oz,0,he',()) i;have hfo:=yw hc x2 ha hv;refine aJ.2 ⟨λh7=>?_,λh7=>⟨λ_=>r2,λ_=>by omega,λd1 hd1=>ah.2 ⟨λg=>?_,λg=>?_⟩⟩⟩
   ·rw[acW h7];exact⟨rfl,rfl⟩
   ·rw[A8]at g;have h6:i.1=6:=A83 g.1;have h0:d1=0:=A83 g.2;have hd1:DI[i.2.2.1.toNat]?=some d1:=hd1 (L6 h6);have e0:DI.getD i.2.2.1.toNat 0=0:=by rw[H8,hd1];exact h0
    rw[RZ h6 e0];exact⟨trivial,rfl,rfl⟩
   ·have h6:¬(i.1=6∧DI.getD i.2.2.1.toNat 0=0):=λq=>by
     have hd1:DI[i.2.2.1.toNat]?=some d1:=hd1 (L6 q.1);have e0:DI.getD i.2.2.1.toNat 0=d1:=by rw[H8,hd1];rfl
     have:=q.2;rw[e0]at this;rw[A86]at g;rcases g with g | g
     ·exact absurd q.1 (A97 g)
     ·exact absurd this (A97 g)
    have hmo:=acX (id:=id') (fn:=fn') (pc:=pc') (st:=st') (ch:=ch') (ph:=I8) (su:=Oz) (fa:=0) (he:=he') (u:=()) h7 h6;refine⟨⟨r1,r2,r3,⟨hpc.1,show pc'≤1000000 by omega⟩,λh3=>acY (ahw hci h3),h6,h7⟩,au.2 (show(-9223372036854775808:Int)≤(k:Int)+1∧(k:Int)+1≤9223372036854775807 by omega),(k+1,(dW (id',fn',pc',DI,st',ch',I8,Oz,0,he',()) i).1),⟨show k+1≤256 by omega,hfo,hk.2.2.2.2.2.1,hk.1,hlen.trans x5,(hk.2.2.2.2.2.2 hmo).2,?_⟩,⟨rfl,trivial⟩,rfl,show 257 - (k+1) < 257 - k by omega⟩
    show eF fs bound (256 - (k+1)) _=_;rw[if_pos hmo,show 256 - (k+1)=m by omega]
theorem U7:Go.aV.Met Tryz.prog aK.gd 82 Lp:=
 bW (cx:=aK) (n:=75) (cl:=[(123,BH),(152,RQ),(153,U6),(154,aks),(155,RX)]) (rc:=[.data dQ]) ay ⟨Ae,OX,O4,acT,acU,trivial⟩ Tryz.func82 λd hd=>by
  obtain⟨⟨vs,ms,cs,fs,ts,⟨⟩⟩,bound,⟨id,fn,pc,rg,st,ch,ph,su,fa,he,⟨⟩⟩,⟨⟩⟩:=d;exact aH (ark vs ms cs fs ts bound id fn pc rg st ch ph su fa he) (anR vs ms cs fs ts bound id fn pc rg st ch ph su fa he hd) (by kernel_rfl)
abbrev Si:CT:={ ps:=[oH,.int .i64,.int .i64,.int .i64,.int .i64],pre:=λd=>bnd (d.1,())∧d.2.2.1≤9223372036854775807,res:=λd=>([],.gX [.dat dQ (newS (aB d.1.1 d.1.2.1 d.1.2.2.1 d.1.2.2.2.1 d.1.2.2.2.2.1).1 d.1.2.2.2.1 d.2.1 d.2.2.1 d.2.2.2.1 d.2.2.2.2.1).1,.c (.v (.int .i64 (newS (aB d.1.1 d.1.2.1 d.1.2.2.1 d.1.2.2.2.1 d.1.2.2.2.2.1).1 d.1.2.2.2.1 d.2.1 d.2.2.1 d.2.2.2.1 d.2.2.2.2.1).2))]) }
theorem anS(vs:List VD) (ms cs:List ByteArray) (fs:List FD) (ts:List SD) (bound id fn arg:Int) (aA:Si.pre ((vs,ms,cs,fs,ts,()),bound,id,fn,arg,())):
 let z4:=aB vs ms cs fs ts;let z3:=newS z4.fst fs bound id fn arg;let z2:=[SV.dat (I6.pair (I6.pair (I6.pair ((Sh.arr 8 I6).pair kq7)))) z3.fst,cI (z3.snd)];let z1:=rT z2 [SV.dat (I6.pair (I6.pair (I6.pair ((Sh.arr 8 I6).pair kq7)))) (((0:Int),(0:Int),(0:Int),kq4,(0:Int),(0:Int),(0:Int),(0:Int),(0:Int),[],())),cI 2];(vs.length≤1000000∧ms.length≤1000000∧cs.length≤1000000∧fs.length≤1000000∧ts.length≤1000000∧(∀(x:ByteArray×((I6.pair (I6.pair (I6.pair (I6.pair (I6.pair (I6.pair (I6.pair (I6.pair Sh.unit)))))))).sl.pair Sh.unit).den),x∈fs→List.length x.snd.fst≤1000000)∧(dR fs).length≤1000000)∧br (!decide (bM z4.fst bound=0)) (rT z2 [SV.dat (I6.pair (I6.pair (I6.pair ((Sh.arr 8 I6).pair kq7)))) (((0:Int),(0:Int),(0:Int),kq4,(0:Int),(0:Int),(0:Int),(0:Int),(0:Int),[],())),cI (bM z4.fst bound)]) (id≤9223372036854775807∧br (!decide (0≤aU id)) z1 (br (decide (fn < 0) || decide ((↑fs.length:Int)≤fn)) (rT z2 [SV.dat (I6.pair (I6.pair (I6.pair ((Sh.arr 8 I6).pair kq7)))) (((0:Int),(0:Int),(0:Int),kq4,(0:Int),(0:Int),(0:Int),(0:Int),(0:Int),[],())),cI 11]) (True∧br (!bV arg) z1 (((0:Int)≤(0:Int)∧(0:Int) < (8:Int))∧0 < 8∧(z4.fst=0∧bG ms fs bound (id,fn,(0:Int),kq4.set 0 arg,(0:Int),(0:Int),(0:Int),(1:Int),(0:Int),[],())∧(0:Int)=(0:Int)∧0≤1000000∧id≤9223372036854775807∧(kq4.set 0 arg).length=8)∧rT z2 [SV.dat (I6.pair (I6.pair (I6.pair ((Sh.arr 8 I6).pair kq7)))) (eF fs bound 256 (id,fn,(0:Int),kq4.set 0 arg,(0:Int),(0:Int),(0:Int),(1:Int),(0:Int),[],())),cI 0])))):=by
 conv=>zeta
 delta kq7 kq4 cI rT I6;obtain⟨hb,hid⟩:bnd ((vs,ms,cs,fs,ts,()),())∧id≤9223372036854775807:=aA;refine⟨hb,ah.2 ⟨λh=>?_,λh=>⟨hid,ah.2 ⟨λh2=>?_,λh2=>ah.2 ⟨λh3=>?_,λh3=>⟨trivial,ah.2 ⟨λh4=>?_,λh4=>?_⟩⟩⟩⟩⟩⟩⟩
 ·have h:bM (aB vs ms cs fs ts).1 bound≠0:=by simpa using h
  have e:newS (aB vs ms cs fs ts).1 fs bound id fn arg=(zT,bM (aB vs ms cs fs ts).1 bound):=by unfold newS;rw[if_pos h]
  rw[e];exact⟨rfl,rfl⟩
 all_goals have h:¬bM (aB vs ms cs fs ts).1 bound≠0:=by simpa using h
 ·have h2:aU id < 0:=by simpa using h2
  have e:newS (aB vs ms cs fs ts).1 fs bound id fn arg=(zT,2):=by unfold newS;rw[if_neg h,if_pos h2]
  rw[e];exact⟨rfl,rfl⟩
 all_goals have h2:¬aU id < 0:=by simpa using h2
 ·have h3:fn < 0∨(fs.length:Int)≤fn:=by simpa using h3
  have e:newS (aB vs ms cs fs ts).1 fs bound id fn arg=(zT,11):=by unfold newS;rw[if_neg h,if_neg h2,if_pos h3]
  rw[e];exact⟨rfl,rfl⟩
 all_goals have h3:¬(fn < 0∨(fs.length:Int)≤fn):=by simp only[qH,dh]at h3;omega
 ·have h4:bV arg=false:=by simpa using h4
  have e:newS (aB vs ms cs fs ts).1 fs bound id fn arg=(zT,2):=by unfold newS;rw[if_neg h,if_neg h2,if_neg h3,if_pos h4]
  rw[e];exact⟨rfl,rfl⟩
 ·have h4:¬bV arg=false:=by simpa using h4
  have e:newS (aB vs ms cs fs ts).1 fs bound id fn arg=(eF fs bound 256 (id,fn,0,[arg,0,0,0,0,0,0,0],0,0,0,1,0,[],()),0):=by unfold newS;rw[if_neg h,if_neg h2,if_neg h3,if_neg h4]
  have hs:=fM.1 (GU.1 h);rw[e];exact⟨by omega,by omega,⟨hs.1,yD ms hs.2.1 h2 h3 h4,rfl,by omega,hid,rfl⟩,rfl,rfl⟩
theorem ah7:Go.aV.Met Tryz.prog aK.gd 36 Si:=
 bW (cx:=aK) (n:=49) (cl:=[(79,Gq),(80,Ja),(81,Lj),(82,Lp)]) (rc:=[.data dQ,.keep]) ay ⟨Lm,DL,Ll,U7,trivial⟩ Tryz.func36 λd hd=>by
  obtain⟨⟨vs,ms,cs,fs,ts,⟨⟩⟩,bound,id,fn,arg,⟨⟩⟩:=d;exact aH (λ_=>none) (anS vs ms cs fs ts bound id fn arg hd) (by kernel_rfl)
instance (l:List Int):Decidable (SS l):=inferInstanceAs (Decidable (l.Pairwise (· < ·)))
end
end Go.Proofs.YtjhenjhcbcalpaaGreatDoor
