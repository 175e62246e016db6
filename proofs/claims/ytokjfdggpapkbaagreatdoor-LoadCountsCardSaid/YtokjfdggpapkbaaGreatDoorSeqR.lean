/-
The sequences of layer 4 in memory: a Qch as a row of records; loads and stores of its fields.
Conditions: none of its own.
-/
import Derived.Test.YtokjfdggpapkbaaGreatDoorGMem
import Derived.Test.YtokjfdggpapkbaaGreatDoorSn
set_option linter.unusedVariables false
set_option linter.unusedSimpArgs false
namespace Go.Proofs.YtokjfdggpapkbaaGreatDoor
open Go
namespace Seq
@[ext] structure S where
 up:Nat→Int
 left:Nat→Int
 right:Nat→Int
 turned:Nat→Bool
 size:Nat→Int
 value:Nat→Int
 sum:Nat→Int
 least:Nat→Int
 most:Nat→Int
def S.w_up (s:S) (i:Nat) (v:Int):S:={s with up:=upd s.up i v}
def S.Qa2 (s:S) (i:Nat) (v:Int):S:={s with left:=upd s.left i v}
def S.Qaz (s:S) (i:Nat) (v:Int):S:={s with right:=upd s.right i v}
def S.Qa8 (s:S) (i:Nat) (v:Bool):S:={s with turned:=upd s.turned i v}
def S.Qcn (s:S) (i:Nat) (v:Int):S:={s with size:=upd s.size i v}
def S.Qbd (s:S) (i:Nat) (v:Int):S:={s with value:=upd s.value i v}
def S.Qf6 (s:S) (i:Nat) (v:Int):S:={s with sum:=upd s.sum i v}
def S.Qbq (s:S) (i:Nat) (v:Int):S:={s with least:=upd s.least i v}
def S.Qco (s:S) (i:Nat) (v:Int):S:={s with most:=upd s.most i v}
@[simp] theorem S.Qy0 (s:S) (i:Nat) (v:Int):(s.w_up i v).up=upd s.up i v:=rfl
@[simp] theorem S.Qt3 (s:S) (i:Nat) (v:Int):(s.w_up i v).left=s.left:=rfl
@[simp] theorem S.Qro (s:S) (i:Nat) (v:Int):(s.w_up i v).right=s.right:=rfl
@[simp] theorem S.turned_w_up (s:S) (i:Nat) (v:Int):(s.w_up i v).turned=s.turned:=rfl
@[simp] theorem S.size_w_up (s:S) (i:Nat) (v:Int):(s.w_up i v).size=s.size:=rfl
@[simp] theorem S.value_w_up (s:S) (i:Nat) (v:Int):(s.w_up i v).value=s.value:=rfl
@[simp] theorem S.sum_w_up (s:S) (i:Nat) (v:Int):(s.w_up i v).sum=s.sum:=rfl
@[simp] theorem S.least_w_up (s:S) (i:Nat) (v:Int):(s.w_up i v).least=s.least:=rfl
@[simp] theorem S.most_w_up (s:S) (i:Nat) (v:Int):(s.w_up i v).most=s.most:=rfl
@[simp] theorem S.up_w_left (s:S) (i:Nat) (v:Int):(s.Qa2 i v).up=s.up:=rfl
@[simp] theorem S.left_w_left (s:S) (i:Nat) (v:Int):(s.Qa2 i v).left=upd s.left i v:=rfl
@[simp] theorem S.right_w_left (s:S) (i:Nat) (v:Int):(s.Qa2 i v).right=s.right:=rfl
@[simp] theorem S.turned_w_left (s:S) (i:Nat) (v:Int):(s.Qa2 i v).turned=s.turned:=rfl
@[simp] theorem S.size_w_left (s:S) (i:Nat) (v:Int):(s.Qa2 i v).size=s.size:=rfl
@[simp] theorem S.value_w_left (s:S) (i:Nat) (v:Int):(s.Qa2 i v).value=s.value:=rfl
@[simp] theorem S.sum_w_left (s:S) (i:Nat) (v:Int):(s.Qa2 i v).sum=s.sum:=rfl
@[simp] theorem S.least_w_left (s:S) (i:Nat) (v:Int):(s.Qa2 i v).least=s.least:=rfl
@[simp] theorem S.most_w_left (s:S) (i:Nat) (v:Int):(s.Qa2 i v).most=s.most:=rfl
@[simp] theorem S.up_w_right (s:S) (i:Nat) (v:Int):(s.Qaz i v).up=s.up:=rfl
@[simp] theorem S.left_w_right (s:S) (i:Nat) (v:Int):(s.Qaz i v).left=s.left:=rfl
@[simp] theorem S.right_w_right (s:S) (i:Nat) (v:Int):(s.Qaz i v).right=upd s.right i v:=rfl
@[simp] theorem S.turned_w_right (s:S) (i:Nat) (v:Int):(s.Qaz i v).turned=s.turned:=rfl
@[simp] theorem S.size_w_right (s:S) (i:Nat) (v:Int):(s.Qaz i v).size=s.size:=rfl
@[simp] theorem S.value_w_right (s:S) (i:Nat) (v:Int):(s.Qaz i v).value=s.value:=rfl
@[simp] theorem S.sum_w_right (s:S) (i:Nat) (v:Int):(s.Qaz i v).sum=s.sum:=rfl
@[simp] theorem S.least_w_right (s:S) (i:Nat) (v:Int):(s.Qaz i v).least=s.least:=rfl
@[simp] theorem S.most_w_right (s:S) (i:Nat) (v:Int):(s.Qaz i v).most=s.most:=rfl
@[simp] theorem S.up_w_turned (s:S) (i:Nat) (v:Bool):(s.Qa8 i v).up=s.up:=rfl
@[simp] theorem S.left_w_turned (s:S) (i:Nat) (v:Bool):(s.Qa8 i v).left=s.left:=rfl
@[simp] theorem S.right_w_turned (s:S) (i:Nat) (v:Bool):(s.Qa8 i v).right=s.right:=rfl
@[simp] theorem S.Qwx (s:S) (i:Nat) (v:Bool):(s.Qa8 i v).turned=upd s.turned i v:=rfl
@[simp] theorem S.size_w_turned (s:S) (i:Nat) (v:Bool):(s.Qa8 i v).size=s.size:=rfl
@[simp] theorem S.value_w_turned (s:S) (i:Nat) (v:Bool):(s.Qa8 i v).value=s.value:=rfl
@[simp] theorem S.sum_w_turned (s:S) (i:Nat) (v:Bool):(s.Qa8 i v).sum=s.sum:=rfl
@[simp] theorem S.least_w_turned (s:S) (i:Nat) (v:Bool):(s.Qa8 i v).least=s.least:=rfl
@[simp] theorem S.most_w_turned (s:S) (i:Nat) (v:Bool):(s.Qa8 i v).most=s.most:=rfl
@[simp] theorem S.up_w_size (s:S) (i:Nat) (v:Int):(s.Qcn i v).up=s.up:=rfl
@[simp] theorem S.left_w_size (s:S) (i:Nat) (v:Int):(s.Qcn i v).left=s.left:=rfl
@[simp] theorem S.right_w_size (s:S) (i:Nat) (v:Int):(s.Qcn i v).right=s.right:=rfl
@[simp] theorem S.turned_w_size (s:S) (i:Nat) (v:Int):(s.Qcn i v).turned=s.turned:=rfl
@[simp] theorem S.Q1a (s:S) (i:Nat) (v:Int):(s.Qcn i v).size=upd s.size i v:=rfl
@[simp] theorem S.value_w_size (s:S) (i:Nat) (v:Int):(s.Qcn i v).value=s.value:=rfl
@[simp] theorem S.sum_w_size (s:S) (i:Nat) (v:Int):(s.Qcn i v).sum=s.sum:=rfl
@[simp] theorem S.least_w_size (s:S) (i:Nat) (v:Int):(s.Qcn i v).least=s.least:=rfl
@[simp] theorem S.most_w_size (s:S) (i:Nat) (v:Int):(s.Qcn i v).most=s.most:=rfl
@[simp] theorem S.up_w_value (s:S) (i:Nat) (v:Int):(s.Qbd i v).up=s.up:=rfl
@[simp] theorem S.left_w_value (s:S) (i:Nat) (v:Int):(s.Qbd i v).left=s.left:=rfl
@[simp] theorem S.right_w_value (s:S) (i:Nat) (v:Int):(s.Qbd i v).right=s.right:=rfl
@[simp] theorem S.turned_w_value (s:S) (i:Nat) (v:Int):(s.Qbd i v).turned=s.turned:=rfl
@[simp] theorem S.size_w_value (s:S) (i:Nat) (v:Int):(s.Qbd i v).size=s.size:=rfl
@[simp] theorem S.value_w_value (s:S) (i:Nat) (v:Int):(s.Qbd i v).value=upd s.value i v:=rfl
@[simp] theorem S.sum_w_value (s:S) (i:Nat) (v:Int):(s.Qbd i v).sum=s.sum:=rfl
@[simp] theorem S.least_w_value (s:S) (i:Nat) (v:Int):(s.Qbd i v).least=s.least:=rfl
@[simp] theorem S.most_w_value (s:S) (i:Nat) (v:Int):(s.Qbd i v).most=s.most:=rfl
@[simp] theorem S.up_w_sum (s:S) (i:Nat) (v:Int):(s.Qf6 i v).up=s.up:=rfl
@[simp] theorem S.left_w_sum (s:S) (i:Nat) (v:Int):(s.Qf6 i v).left=s.left:=rfl
@[simp] theorem S.right_w_sum (s:S) (i:Nat) (v:Int):(s.Qf6 i v).right=s.right:=rfl
@[simp] theorem S.turned_w_sum (s:S) (i:Nat) (v:Int):(s.Qf6 i v).turned=s.turned:=rfl
@[simp] theorem S.size_w_sum (s:S) (i:Nat) (v:Int):(s.Qf6 i v).size=s.size:=rfl
@[simp] theorem S.value_w_sum (s:S) (i:Nat) (v:Int):(s.Qf6 i v).value=s.value:=rfl
@[simp] theorem S.sum_w_sum (s:S) (i:Nat) (v:Int):(s.Qf6 i v).sum=upd s.sum i v:=rfl
@[simp] theorem S.least_w_sum (s:S) (i:Nat) (v:Int):(s.Qf6 i v).least=s.least:=rfl
@[simp] theorem S.most_w_sum (s:S) (i:Nat) (v:Int):(s.Qf6 i v).most=s.most:=rfl
@[simp] theorem S.up_w_least (s:S) (i:Nat) (v:Int):(s.Qbq i v).up=s.up:=rfl
@[simp] theorem S.left_w_least (s:S) (i:Nat) (v:Int):(s.Qbq i v).left=s.left:=rfl
@[simp] theorem S.right_w_least (s:S) (i:Nat) (v:Int):(s.Qbq i v).right=s.right:=rfl
@[simp] theorem S.turned_w_least (s:S) (i:Nat) (v:Int):(s.Qbq i v).turned=s.turned:=rfl
@[simp] theorem S.Q0b (s:S) (i:Nat) (v:Int):(s.Qbq i v).size=s.size:=rfl
@[simp] theorem S.value_w_least (s:S) (i:Nat) (v:Int):(s.Qbq i v).value=s.value:=rfl
@[simp] theorem S.Q05 (s:S) (i:Nat) (v:Int):(s.Qbq i v).sum=s.sum:=rfl
@[simp] theorem S.Qzi (s:S) (i:Nat) (v:Int):(s.Qbq i v).least=upd s.least i v:=rfl
@[simp] theorem S.most_w_least (s:S) (i:Nat) (v:Int):(s.Qbq i v).most=s.most:=rfl
@[simp] theorem S.up_w_most (s:S) (i:Nat) (v:Int):(s.Qco i v).up=s.up:=rfl
@[simp] theorem S.left_w_most (s:S) (i:Nat) (v:Int):(s.Qco i v).left=s.left:=rfl
@[simp] theorem S.right_w_most (s:S) (i:Nat) (v:Int):(s.Qco i v).right=s.right:=rfl
@[simp] theorem S.turned_w_most (s:S) (i:Nat) (v:Int):(s.Qco i v).turned=s.turned:=rfl
@[simp] theorem S.Q1b (s:S) (i:Nat) (v:Int):(s.Qco i v).size=s.size:=rfl
@[simp] theorem S.value_w_most (s:S) (i:Nat) (v:Int):(s.Qco i v).value=s.value:=rfl
@[simp] theorem S.sum_w_most (s:S) (i:Nat) (v:Int):(s.Qco i v).sum=s.sum:=rfl
@[simp] theorem S.Q0g (s:S) (i:Nat) (v:Int):(s.Qco i v).least=s.least:=rfl
@[simp] theorem S.Q1l (s:S) (i:Nat) (v:Int):(s.Qco i v).most=upd s.most i v:=rfl
def encS (s:S) (i:Nat):List Value:=[.int .i32 (s.up i),.int .i32 (s.left i),.int .i32 (s.right i),.bool (s.turned i),.int .i32 (s.size i),.int .i64 (s.value i),.int .i64 (s.sum i),.int .i64 (s.least i),.int .i64 (s.most i)]
theorem Qwo (s:S) (i:Nat):(encS s i).length=9:=rfl
theorem projS:(∀(s:S) (i:Nat) (v:Int),(s.w_up i v).up=upd s.up i v)∧(∀(s:S) (i:Nat) (v:Int),(s.w_up i v).left=s.left)∧(∀(s:S) (i:Nat) (v:Int),(s.w_up i v).right=s.right)∧(∀(s:S) (i:Nat) (v:Int),(s.w_up i v).turned=s.turned)∧(∀(s:S) (i:Nat) (v:Int),(s.w_up i v).size=s.size)∧(∀(s:S) (i:Nat) (v:Int),(s.w_up i v).value=s.value)∧(∀(s:S) (i:Nat) (v:Int),(s.w_up i v).sum=s.sum)∧(∀(s:S) (i:Nat) (v:Int),(s.w_up i v).least=s.least)∧(∀(s:S) (i:Nat) (v:Int),(s.w_up i v).most=s.most)∧(∀(s:S) (i:Nat) (v:Int),(s.Qa2 i v).up=s.up)∧(∀(s:S) (i:Nat) (v:Int),(s.Qa2 i v).left=upd s.left i v)∧(∀(s:S) (i:Nat) (v:Int),(s.Qa2 i v).right=s.right)∧(∀(s:S) (i:Nat) (v:Int),(s.Qa2 i v).turned=s.turned)∧(∀(s:S) (i:Nat) (v:Int),(s.Qa2 i v).size=s.size)∧(∀(s:S) (i:Nat) (v:Int),(s.Qa2 i v).value=s.value)∧(∀(s:S) (i:Nat) (v:Int),(s.Qa2 i v).sum=s.sum)∧(∀(s:S) (i:Nat) (v:Int),(s.Qa2 i v).least=s.least)∧(∀(s:S) (i:Nat) (v:Int),(s.Qa2 i v).most=s.most)∧(∀(s:S) (i:Nat) (v:Int),(s.Qaz i v).up=s.up)∧(∀(s:S) (i:Nat) (v:Int),(s.Qaz i v).left=s.left)∧(∀(s:S) (i:Nat) (v:Int),(s.Qaz i v).right=upd s.right i v)∧(∀(s:S) (i:Nat) (v:Int),(s.Qaz i v).turned=s.turned)∧(∀(s:S) (i:Nat) (v:Int),(s.Qaz i v).size=s.size)∧(∀(s:S) (i:Nat) (v:Int),(s.Qaz i v).value=s.value)∧(∀(s:S) (i:Nat) (v:Int),(s.Qaz i v).sum=s.sum)∧(∀(s:S) (i:Nat) (v:Int),(s.Qaz i v).least=s.least)∧(∀(s:S) (i:Nat) (v:Int),(s.Qaz i v).most=s.most)∧(∀(s:S) (i:Nat) (v:Bool),(s.Qa8 i v).up=s.up)∧(∀(s:S) (i:Nat) (v:Bool),(s.Qa8 i v).left=s.left)∧(∀(s:S) (i:Nat) (v:Bool),(s.Qa8 i v).right=s.right)∧(∀(s:S) (i:Nat) (v:Bool),(s.Qa8 i v).turned=upd s.turned i v)∧(∀(s:S) (i:Nat) (v:Bool),(s.Qa8 i v).size=s.size)∧(∀(s:S) (i:Nat) (v:Bool),(s.Qa8 i v).value=s.value)∧(∀(s:S) (i:Nat) (v:Bool),(s.Qa8 i v).sum=s.sum)∧(∀(s:S) (i:Nat) (v:Bool),(s.Qa8 i v).least=s.least)∧(∀(s:S) (i:Nat) (v:Bool),(s.Qa8 i v).most=s.most)∧(∀(s:S) (i:Nat) (v:Int),(s.Qcn i v).up=s.up)∧(∀(s:S) (i:Nat) (v:Int),(s.Qcn i v).left=s.left)∧(∀(s:S) (i:Nat) (v:Int),(s.Qcn i v).right=s.right)∧(∀(s:S) (i:Nat) (v:Int),(s.Qcn i v).turned=s.turned)∧(∀(s:S) (i:Nat) (v:Int),(s.Qcn i v).size=upd s.size i v)∧(∀(s:S) (i:Nat) (v:Int),(s.Qcn i v).value=s.value)∧(∀(s:S) (i:Nat) (v:Int),(s.Qcn i v).sum=s.sum)∧(∀(s:S) (i:Nat) (v:Int),(s.Qcn i v).least=s.least)∧(∀(s:S) (i:Nat) (v:Int),(s.Qcn i v).most=s.most)∧(∀(s:S) (i:Nat) (v:Int),(s.Qbd i v).up=s.up)∧(∀(s:S) (i:Nat) (v:Int),(s.Qbd i v).left=s.left)∧(∀(s:S) (i:Nat) (v:Int),(s.Qbd i v).right=s.right)∧(∀(s:S) (i:Nat) (v:Int),(s.Qbd i v).turned=s.turned)∧(∀(s:S) (i:Nat) (v:Int),(s.Qbd i v).size=s.size)∧(∀(s:S) (i:Nat) (v:Int),(s.Qbd i v).value=upd s.value i v)∧(∀(s:S) (i:Nat) (v:Int),(s.Qbd i v).sum=s.sum)∧(∀(s:S) (i:Nat) (v:Int),(s.Qbd i v).least=s.least)∧(∀(s:S) (i:Nat) (v:Int),(s.Qbd i v).most=s.most)∧(∀(s:S) (i:Nat) (v:Int),(s.Qf6 i v).up=s.up)∧(∀(s:S) (i:Nat) (v:Int),(s.Qf6 i v).left=s.left)∧(∀(s:S) (i:Nat) (v:Int),(s.Qf6 i v).right=s.right)∧(∀(s:S) (i:Nat) (v:Int),(s.Qf6 i v).turned=s.turned)∧(∀(s:S) (i:Nat) (v:Int),(s.Qf6 i v).size=s.size)∧(∀(s:S) (i:Nat) (v:Int),(s.Qf6 i v).value=s.value)∧(∀(s:S) (i:Nat) (v:Int),(s.Qf6 i v).sum=upd s.sum i v)∧(∀(s:S) (i:Nat) (v:Int),(s.Qf6 i v).least=s.least)∧(∀(s:S) (i:Nat) (v:Int),(s.Qf6 i v).most=s.most)∧(∀(s:S) (i:Nat) (v:Int),(s.Qbq i v).up=s.up)∧(∀(s:S) (i:Nat) (v:Int),(s.Qbq i v).left=s.left)∧(∀(s:S) (i:Nat) (v:Int),(s.Qbq i v).right=s.right)∧(∀(s:S) (i:Nat) (v:Int),(s.Qbq i v).turned=s.turned)∧(∀(s:S) (i:Nat) (v:Int),(s.Qbq i v).size=s.size)∧(∀(s:S) (i:Nat) (v:Int),(s.Qbq i v).value=s.value)∧(∀(s:S) (i:Nat) (v:Int),(s.Qbq i v).sum=s.sum)∧(∀(s:S) (i:Nat) (v:Int),(s.Qbq i v).least=upd s.least i v)∧(∀(s:S) (i:Nat) (v:Int),(s.Qbq i v).most=s.most)∧(∀(s:S) (i:Nat) (v:Int),(s.Qco i v).up=s.up)∧(∀(s:S) (i:Nat) (v:Int),(s.Qco i v).left=s.left)∧(∀(s:S) (i:Nat) (v:Int),(s.Qco i v).right=s.right)∧(∀(s:S) (i:Nat) (v:Int),(s.Qco i v).turned=s.turned)∧(∀(s:S) (i:Nat) (v:Int),(s.Qco i v).size=s.size)∧(∀(s:S) (i:Nat) (v:Int),(s.Qco i v).value=s.value)∧(∀(s:S) (i:Nat) (v:Int),(s.Qco i v).sum=s.sum)∧(∀(s:S) (i:Nat) (v:Int),(s.Qco i v).least=s.least)∧(∀(s:S) (i:Nat) (v:Int),(s.Qco i v).most=upd s.most i v):=⟨fun _ _ _=>rfl,fun _ _ _=>rfl,fun _ _ _=>rfl,fun _ _ _=>rfl,fun _ _ _=>rfl,fun _ _ _=>rfl,fun _ _ _=>rfl,fun _ _ _=>rfl,fun _ _ _=>rfl,fun _ _ _=>rfl,fun _ _ _=>rfl,fun _ _ _=>rfl,fun _ _ _=>rfl,fun _ _ _=>rfl,fun _ _ _=>rfl,fun _ _ _=>rfl,fun _ _ _=>rfl,fun _ _ _=>rfl,fun _ _ _=>rfl,fun _ _ _=>rfl,fun _ _ _=>rfl,fun _ _ _=>rfl,fun _ _ _=>rfl,fun _ _ _=>rfl,fun _ _ _=>rfl,fun _ _ _=>rfl,fun _ _ _=>rfl,fun _ _ _=>rfl,fun _ _ _=>rfl,fun _ _ _=>rfl,fun _ _ _=>rfl,fun _ _ _=>rfl,fun _ _ _=>rfl,fun _ _ _=>rfl,fun _ _ _=>rfl,fun _ _ _=>rfl,fun _ _ _=>rfl,fun _ _ _=>rfl,fun _ _ _=>rfl,fun _ _ _=>rfl,fun _ _ _=>rfl,fun _ _ _=>rfl,fun _ _ _=>rfl,fun _ _ _=>rfl,fun _ _ _=>rfl,fun _ _ _=>rfl,fun _ _ _=>rfl,fun _ _ _=>rfl,fun _ _ _=>rfl,fun _ _ _=>rfl,fun _ _ _=>rfl,fun _ _ _=>rfl,fun _ _ _=>rfl,fun _ _ _=>rfl,fun _ _ _=>rfl,fun _ _ _=>rfl,fun _ _ _=>rfl,fun _ _ _=>rfl,fun _ _ _=>rfl,fun _ _ _=>rfl,fun _ _ _=>rfl,fun _ _ _=>rfl,fun _ _ _=>rfl,fun _ _ _=>rfl,fun _ _ _=>rfl,fun _ _ _=>rfl,fun _ _ _=>rfl,fun _ _ _=>rfl,fun _ _ _=>rfl,fun _ _ _=>rfl,fun _ _ _=>rfl,fun _ _ _=>rfl,fun _ _ _=>rfl,fun _ _ _=>rfl,fun _ _ _=>rfl,fun _ _ _=>rfl,fun _ _ _=>rfl,fun _ _ _=>rfl,fun _ _ _=>rfl,fun _ _ _=>rfl,fun _ _ _=>rfl⟩
structure IsF (h:Array Obj) (F L n:Nat) (s:S):Prop where
 f:Row h F Qm0 [.slice (some ⟨L,0,none⟩) n n]
 l:Row h L Qff (recs (encS s) n)
 ne:F≠L
structure St (w₀ w:World) (F L n:Nat) (s:S):Prop where
 i:IsF w.heap F L n s
 c:Chg (·=L) w₀ w
 lt:F<w₀.heap.size∧L<w₀.heap.size
section
variable {w₀ w:World} {F L n:Nat} {s:S}
theorem St.drew (h:St w₀ w F L n s):St w₀ w.drew F L n s:=⟨h.i,h.c.drew,h.lt⟩
theorem St.start (h:IsF w.heap F L n s):St w w F L n s:=⟨h,Chg.refl _ _,h.f.lt,h.l.lt⟩
theorem IsF.alloc (h:IsF w.heap F L n s) (o:Obj):IsF (w.alloc o).heap F L n s:=⟨h.f.alloc o,h.l.alloc o,h.ne⟩
theorem St.alloc (h:St w₀ w F L n s) (o:Obj):St w₀ (w.alloc o) F L n s:=⟨h.i.alloc o,h.c.alloc o,h.lt⟩
theorem St.trans {w':World} {t:S} (h:St w₀ w F L n s) (k:St w w' F L n t):St w₀ w' F L n t:=⟨k.i,h.c.trans k.c,h.lt⟩
theorem IsF.chg {w w':World} (h:IsF w.heap F L n s) {T:Nat→Prop} (c:Chg T w w') (hF:¬T F) (hL:¬T L):IsF w'.heap F L n s:=⟨c.row hF h.f,c.row hL h.l,h.ne⟩
theorem St.own {w':World} (h:St w₀ w F L n s) (k:Chg (w₀.heap.size≤·) w w'):St w₀ w' F L n s:=
 ⟨h.i.chg k (by have:=h.lt.1;omega) (by have:=h.lt.2;omega),h.c.trans' k (fun i hi=>.inr hi),h.lt⟩
theorem Qdi {K:Option Addr→Nat→Nat→Prop} (h:St w₀ w F L n s) (k:K (some ⟨L,0,none⟩) n n):ldS ⟨F,0,none⟩ w K:=Qaj h.i.f rfl k
theorem Qay {i:Int} {K:Addr→Prop} (h0:0≤i) (h1:i<n) (k:K ⟨L,i.toNat*9,none⟩):ixS (some ⟨L,0,none⟩) n i 9 K:=Qs1 h0 h1 (by rw [Nat.zero_add];exact k)
theorem St.cell (h:St w₀ w F L n s) {i k:Nat} (hi:i<n) (hk:k<9):w.cell? ⟨L,i*9+k,none⟩=(encS s i)[k]?:=by
 rw [h.i.l.cell,Qe5 (encS s) (Qwo s) hi hk]
theorem St.set (h:St w₀ w F L n s) {t:S} {i k:Nat} (hi:i<n) (hk:k<9) {v:Value} (ho:∀j,j≠i→encS t j=encS s j) (hx:encS t i=(encS s i).set k v):St w₀ (w.setCell ⟨L,i*9+k,none⟩ v) F L n t:=
 ⟨⟨h.i.f.Qc9 _ _ (fun e=>h.i.ne e.symm),by rw [←Qcy (encS s) (Qwo s) hi hk ho hx];exact h.i.l.set _ _,h.i.ne⟩,h.c.setCell _ _ (.inl rfl),h.lt⟩
theorem Qu6 {i:Int} {K:Int→Prop} (h:St w₀ w F L n s) (h1:i.toNat<n) (k:K (s.up i.toNat)):ldI .i32 (Addr.mk L (i.toNat*9) none) w K:=by
 have e:(Addr.mk L (i.toNat*9) none)=Addr.mk L (i.toNat*9+0) none:=rfl
 rw [e]
 exact ⟨_,h.cell h1 (by decide:0<9),k⟩
theorem Qsu {i:Int} {v:Int} {K:World→Prop} (h:St w₀ w F L n s) (h1:i.toNat<n) (k:∀w',St w₀ w' F L n (s.w_up i.toNat v)→K w'):sto (Addr.mk L (i.toNat*9) none) (.int .i32 v) w K:=by
 have e:(Addr.mk L (i.toNat*9) none)=Addr.mk L (i.toNat*9+0) none:=rfl
 rw [e]
 exact ⟨rfl,⟨_,h.cell h1 (by decide:0<9)⟩,h.i.l.frozen _,k _ (h.set h1 (by decide) (fun j hj=>by simp [encS,Qag _ _ hj]) (by simp [encS,Qab]))⟩
theorem Qp9 {i:Int} {K:Int→Prop} (h:St w₀ w F L n s) (h1:i.toNat<n) (k:K (s.left i.toNat)):ldI .i32 ((Addr.mk L (i.toNat*9) none).add 1) w K:=by
 have e:((Addr.mk L (i.toNat*9) none).add 1)=Addr.mk L (i.toNat*9+1) none:=Qac _ _ _
 rw [e]
 exact ⟨_,h.cell h1 (by decide:1<9),k⟩
theorem Qpp {i:Int} {v:Int} {K:World→Prop} (h:St w₀ w F L n s) (h1:i.toNat<n) (k:∀w',St w₀ w' F L n (s.Qa2 i.toNat v)→K w'):sto ((Addr.mk L (i.toNat*9) none).add 1) (.int .i32 v) w K:=by
 have e:((Addr.mk L (i.toNat*9) none).add 1)=Addr.mk L (i.toNat*9+1) none:=Qac _ _ _
 rw [e]
 exact ⟨rfl,⟨_,h.cell h1 (by decide:1<9)⟩,h.i.l.frozen _,k _ (h.set h1 (by decide) (fun j hj=>by simp [encS,Qag _ _ hj]) (by simp [encS,Qab]))⟩
theorem Qlw {i:Int} {K:Int→Prop} (h:St w₀ w F L n s) (h1:i.toNat<n) (k:K (s.right i.toNat)):ldI .i32 ((Addr.mk L (i.toNat*9) none).add 2) w K:=by
 have e:((Addr.mk L (i.toNat*9) none).add 2)=Addr.mk L (i.toNat*9+2) none:=Qac _ _ _
 rw [e]
 exact ⟨_,h.cell h1 (by decide:2<9),k⟩
theorem Qk2 {i:Int} {v:Int} {K:World→Prop} (h:St w₀ w F L n s) (h1:i.toNat<n) (k:∀w',St w₀ w' F L n (s.Qaz i.toNat v)→K w'):sto ((Addr.mk L (i.toNat*9) none).add 2) (.int .i32 v) w K:=by
 have e:((Addr.mk L (i.toNat*9) none).add 2)=Addr.mk L (i.toNat*9+2) none:=Qac _ _ _
 rw [e]
 exact ⟨rfl,⟨_,h.cell h1 (by decide:2<9)⟩,h.i.l.frozen _,k _ (h.set h1 (by decide) (fun j hj=>by simp [encS,Qag _ _ hj]) (by simp [encS,Qab]))⟩
theorem Qkb {i:Int} {K:Bool→Prop} (h:St w₀ w F L n s) (h1:i.toNat<n) (k:K (s.turned i.toNat)):ldB ((Addr.mk L (i.toNat*9) none).add 3) w K:=by
 have e:((Addr.mk L (i.toNat*9) none).add 3)=Addr.mk L (i.toNat*9+3) none:=Qac _ _ _
 rw [e]
 exact ⟨_,h.cell h1 (by decide:3<9),k⟩
theorem Qtr {i:Int} {v:Bool} {K:World→Prop} (h:St w₀ w F L n s) (h1:i.toNat<n) (k:∀w',St w₀ w' F L n (s.Qa8 i.toNat v)→K w'):sto ((Addr.mk L (i.toNat*9) none).add 3) (.bool v) w K:=by
 have e:((Addr.mk L (i.toNat*9) none).add 3)=Addr.mk L (i.toNat*9+3) none:=Qac _ _ _
 rw [e]
 exact ⟨rfl,⟨_,h.cell h1 (by decide:3<9)⟩,h.i.l.frozen _,k _ (h.set h1 (by decide) (fun j hj=>by simp [encS,Qag _ _ hj]) (by simp [encS,Qab]))⟩
theorem Qp6 {i:Int} {K:Int→Prop} (h:St w₀ w F L n s) (h1:i.toNat<n) (k:K (s.size i.toNat)):ldI .i32 ((Addr.mk L (i.toNat*9) none).add 4) w K:=by
 have e:((Addr.mk L (i.toNat*9) none).add 4)=Addr.mk L (i.toNat*9+4) none:=Qac _ _ _
 rw [e]
 exact ⟨_,h.cell h1 (by decide:4<9),k⟩
theorem Q07 {i:Int} {v:Int} {K:World→Prop} (h:St w₀ w F L n s) (h1:i.toNat<n) (k:∀w',St w₀ w' F L n (s.Qcn i.toNat v)→K w'):sto ((Addr.mk L (i.toNat*9) none).add 4) (.int .i32 v) w K:=by
 have e:((Addr.mk L (i.toNat*9) none).add 4)=Addr.mk L (i.toNat*9+4) none:=Qac _ _ _
 rw [e]
 exact ⟨rfl,⟨_,h.cell h1 (by decide:4<9)⟩,h.i.l.frozen _,k _ (h.set h1 (by decide) (fun j hj=>by simp [encS,Qag _ _ hj]) (by simp [encS,Qab]))⟩
theorem Qrr {i:Int} {K:Int→Prop} (h:St w₀ w F L n s) (h1:i.toNat<n) (k:K (s.value i.toNat)):ldI .i64 ((Addr.mk L (i.toNat*9) none).add 5) w K:=by
 have e:((Addr.mk L (i.toNat*9) none).add 5)=Addr.mk L (i.toNat*9+5) none:=Qac _ _ _
 rw [e]
 exact ⟨_,h.cell h1 (by decide:5<9),k⟩
theorem Qwi {i:Int} {v:Int} {K:World→Prop} (h:St w₀ w F L n s) (h1:i.toNat<n) (k:∀w',St w₀ w' F L n (s.Qbd i.toNat v)→K w'):sto ((Addr.mk L (i.toNat*9) none).add 5) (.int .i64 v) w K:=by
 have e:((Addr.mk L (i.toNat*9) none).add 5)=Addr.mk L (i.toNat*9+5) none:=Qac _ _ _
 rw [e]
 exact ⟨rfl,⟨_,h.cell h1 (by decide:5<9)⟩,h.i.l.frozen _,k _ (h.set h1 (by decide) (fun j hj=>by simp [encS,Qag _ _ hj]) (by simp [encS,Qab]))⟩
theorem Qw9 {i:Int} {K:Int→Prop} (h:St w₀ w F L n s) (h1:i.toNat<n) (k:K (s.sum i.toNat)):ldI .i64 ((Addr.mk L (i.toNat*9) none).add 6) w K:=by
 have e:((Addr.mk L (i.toNat*9) none).add 6)=Addr.mk L (i.toNat*9+6) none:=Qac _ _ _
 rw [e]
 exact ⟨_,h.cell h1 (by decide:6<9),k⟩
theorem st_sum {i:Int} {v:Int} {K:World→Prop} (h:St w₀ w F L n s) (h1:i.toNat<n) (k:∀w',St w₀ w' F L n (s.Qf6 i.toNat v)→K w'):sto ((Addr.mk L (i.toNat*9) none).add 6) (.int .i64 v) w K:=by
 have e:((Addr.mk L (i.toNat*9) none).add 6)=Addr.mk L (i.toNat*9+6) none:=Qac _ _ _
 rw [e]
 exact ⟨rfl,⟨_,h.cell h1 (by decide:6<9)⟩,h.i.l.frozen _,k _ (h.set h1 (by decide) (fun j hj=>by simp [encS,Qag _ _ hj]) (by simp [encS,Qab]))⟩
theorem Qly {i:Int} {K:Int→Prop} (h:St w₀ w F L n s) (h1:i.toNat<n) (k:K (s.least i.toNat)):ldI .i64 ((Addr.mk L (i.toNat*9) none).add 7) w K:=by
 have e:((Addr.mk L (i.toNat*9) none).add 7)=Addr.mk L (i.toNat*9+7) none:=Qac _ _ _
 rw [e]
 exact ⟨_,h.cell h1 (by decide:7<9),k⟩
theorem Qy2 {i:Int} {v:Int} {K:World→Prop} (h:St w₀ w F L n s) (h1:i.toNat<n) (k:∀w',St w₀ w' F L n (s.Qbq i.toNat v)→K w'):sto ((Addr.mk L (i.toNat*9) none).add 7) (.int .i64 v) w K:=by
 have e:((Addr.mk L (i.toNat*9) none).add 7)=Addr.mk L (i.toNat*9+7) none:=Qac _ _ _
 rw [e]
 exact ⟨rfl,⟨_,h.cell h1 (by decide:7<9)⟩,h.i.l.frozen _,k _ (h.set h1 (by decide) (fun j hj=>by simp [encS,Qag _ _ hj]) (by simp [encS,Qab]))⟩
theorem Qp8 {i:Int} {K:Int→Prop} (h:St w₀ w F L n s) (h1:i.toNat<n) (k:K (s.most i.toNat)):ldI .i64 ((Addr.mk L (i.toNat*9) none).add 8) w K:=by
 have e:((Addr.mk L (i.toNat*9) none).add 8)=Addr.mk L (i.toNat*9+8) none:=Qac _ _ _
 rw [e]
 exact ⟨_,h.cell h1 (by decide:8<9),k⟩
theorem Q08 {i:Int} {v:Int} {K:World→Prop} (h:St w₀ w F L n s) (h1:i.toNat<n) (k:∀w',St w₀ w' F L n (s.Qco i.toNat v)→K w'):sto ((Addr.mk L (i.toNat*9) none).add 8) (.int .i64 v) w K:=by
 have e:((Addr.mk L (i.toNat*9) none).add 8)=Addr.mk L (i.toNat*9+8) none:=Qac _ _ _
 rw [e]
 exact ⟨rfl,⟨_,h.cell h1 (by decide:8<9)⟩,h.i.l.frozen _,k _ (h.set h1 (by decide) (fun j hj=>by simp [encS,Qag _ _ hj]) (by simp [encS,Qab]))⟩
theorem gF {K:Option Addr→Nat→Nat→Prop} (h:St w₀ w F L n s:=by first | assumption | exact St.drew (by assumption) | exact St.drew (St.drew (by assumption)) | exact St.drew (St.drew (St.drew (by assumption)))) (k:K (some ⟨L,0,none⟩) n n):ldS ⟨F,0,none⟩ w K:=Qdi h k
theorem g0 {i:Int} {K:Int→Prop} (h:St w₀ w F L n s:=by first | assumption | exact St.drew (by assumption) | exact St.drew (St.drew (by assumption)) | exact St.drew (St.drew (St.drew (by assumption)))) (h1:i.toNat<n:=by omega) (k:K (s.up i.toNat)):ldI .i32 (Addr.mk L (i.toNat*9) none) w K:=Qu6 h h1 k
theorem s0 {i:Int} {v:Int} {K:World→Prop} (h:St w₀ w F L n s:=by first | assumption | exact St.drew (by assumption) | exact St.drew (St.drew (by assumption)) | exact St.drew (St.drew (St.drew (by assumption)))) (h1:i.toNat<n:=by omega) (k:∀w',St w₀ w' F L n (s.w_up i.toNat v)→K w'):sto (Addr.mk L (i.toNat*9) none) (.int .i32 v) w K:=Qsu h h1 k
theorem g1 {i:Int} {K:Int→Prop} (h:St w₀ w F L n s:=by first | assumption | exact St.drew (by assumption) | exact St.drew (St.drew (by assumption)) | exact St.drew (St.drew (St.drew (by assumption)))) (h1:i.toNat<n:=by omega) (k:K (s.left i.toNat)):ldI .i32 ((Addr.mk L (i.toNat*9) none).add 1) w K:=Qp9 h h1 k
theorem s1 {i:Int} {v:Int} {K:World→Prop} (h:St w₀ w F L n s:=by first | assumption | exact St.drew (by assumption) | exact St.drew (St.drew (by assumption)) | exact St.drew (St.drew (St.drew (by assumption)))) (h1:i.toNat<n:=by omega) (k:∀w',St w₀ w' F L n (s.Qa2 i.toNat v)→K w'):sto ((Addr.mk L (i.toNat*9) none).add 1) (.int .i32 v) w K:=Qpp h h1 k
theorem g2 {i:Int} {K:Int→Prop} (h:St w₀ w F L n s:=by first | assumption | exact St.drew (by assumption) | exact St.drew (St.drew (by assumption)) | exact St.drew (St.drew (St.drew (by assumption)))) (h1:i.toNat<n:=by omega) (k:K (s.right i.toNat)):ldI .i32 ((Addr.mk L (i.toNat*9) none).add 2) w K:=Qlw h h1 k
theorem s2 {i:Int} {v:Int} {K:World→Prop} (h:St w₀ w F L n s:=by first | assumption | exact St.drew (by assumption) | exact St.drew (St.drew (by assumption)) | exact St.drew (St.drew (St.drew (by assumption)))) (h1:i.toNat<n:=by omega) (k:∀w',St w₀ w' F L n (s.Qaz i.toNat v)→K w'):sto ((Addr.mk L (i.toNat*9) none).add 2) (.int .i32 v) w K:=Qk2 h h1 k
theorem g3 {i:Int} {K:Bool→Prop} (h:St w₀ w F L n s:=by first | assumption | exact St.drew (by assumption) | exact St.drew (St.drew (by assumption)) | exact St.drew (St.drew (St.drew (by assumption)))) (h1:i.toNat<n:=by omega) (k:K (s.turned i.toNat)):ldB ((Addr.mk L (i.toNat*9) none).add 3) w K:=Qkb h h1 k
theorem s3 {i:Int} {v:Bool} {K:World→Prop} (h:St w₀ w F L n s:=by first | assumption | exact St.drew (by assumption) | exact St.drew (St.drew (by assumption)) | exact St.drew (St.drew (St.drew (by assumption)))) (h1:i.toNat<n:=by omega) (k:∀w',St w₀ w' F L n (s.Qa8 i.toNat v)→K w'):sto ((Addr.mk L (i.toNat*9) none).add 3) (.bool v) w K:=Qtr h h1 k
theorem g4 {i:Int} {K:Int→Prop} (h:St w₀ w F L n s:=by first | assumption | exact St.drew (by assumption) | exact St.drew (St.drew (by assumption)) | exact St.drew (St.drew (St.drew (by assumption)))) (h1:i.toNat<n:=by omega) (k:K (s.size i.toNat)):ldI .i32 ((Addr.mk L (i.toNat*9) none).add 4) w K:=Qp6 h h1 k
theorem s4 {i:Int} {v:Int} {K:World→Prop} (h:St w₀ w F L n s:=by first | assumption | exact St.drew (by assumption) | exact St.drew (St.drew (by assumption)) | exact St.drew (St.drew (St.drew (by assumption)))) (h1:i.toNat<n:=by omega) (k:∀w',St w₀ w' F L n (s.Qcn i.toNat v)→K w'):sto ((Addr.mk L (i.toNat*9) none).add 4) (.int .i32 v) w K:=Q07 h h1 k
theorem g5 {i:Int} {K:Int→Prop} (h:St w₀ w F L n s:=by first | assumption | exact St.drew (by assumption) | exact St.drew (St.drew (by assumption)) | exact St.drew (St.drew (St.drew (by assumption)))) (h1:i.toNat<n:=by omega) (k:K (s.value i.toNat)):ldI .i64 ((Addr.mk L (i.toNat*9) none).add 5) w K:=Qrr h h1 k
theorem s5 {i:Int} {v:Int} {K:World→Prop} (h:St w₀ w F L n s:=by first | assumption | exact St.drew (by assumption) | exact St.drew (St.drew (by assumption)) | exact St.drew (St.drew (St.drew (by assumption)))) (h1:i.toNat<n:=by omega) (k:∀w',St w₀ w' F L n (s.Qbd i.toNat v)→K w'):sto ((Addr.mk L (i.toNat*9) none).add 5) (.int .i64 v) w K:=Qwi h h1 k
theorem g6 {i:Int} {K:Int→Prop} (h:St w₀ w F L n s:=by first | assumption | exact St.drew (by assumption) | exact St.drew (St.drew (by assumption)) | exact St.drew (St.drew (St.drew (by assumption)))) (h1:i.toNat<n:=by omega) (k:K (s.sum i.toNat)):ldI .i64 ((Addr.mk L (i.toNat*9) none).add 6) w K:=Qw9 h h1 k
theorem s6 {i:Int} {v:Int} {K:World→Prop} (h:St w₀ w F L n s:=by first | assumption | exact St.drew (by assumption) | exact St.drew (St.drew (by assumption)) | exact St.drew (St.drew (St.drew (by assumption)))) (h1:i.toNat<n:=by omega) (k:∀w',St w₀ w' F L n (s.Qf6 i.toNat v)→K w'):sto ((Addr.mk L (i.toNat*9) none).add 6) (.int .i64 v) w K:=st_sum h h1 k
theorem g7 {i:Int} {K:Int→Prop} (h:St w₀ w F L n s:=by first | assumption | exact St.drew (by assumption) | exact St.drew (St.drew (by assumption)) | exact St.drew (St.drew (St.drew (by assumption)))) (h1:i.toNat<n:=by omega) (k:K (s.least i.toNat)):ldI .i64 ((Addr.mk L (i.toNat*9) none).add 7) w K:=Qly h h1 k
theorem s7 {i:Int} {v:Int} {K:World→Prop} (h:St w₀ w F L n s:=by first | assumption | exact St.drew (by assumption) | exact St.drew (St.drew (by assumption)) | exact St.drew (St.drew (St.drew (by assumption)))) (h1:i.toNat<n:=by omega) (k:∀w',St w₀ w' F L n (s.Qbq i.toNat v)→K w'):sto ((Addr.mk L (i.toNat*9) none).add 7) (.int .i64 v) w K:=Qy2 h h1 k
theorem g8 {i:Int} {K:Int→Prop} (h:St w₀ w F L n s:=by first | assumption | exact St.drew (by assumption) | exact St.drew (St.drew (by assumption)) | exact St.drew (St.drew (St.drew (by assumption)))) (h1:i.toNat<n:=by omega) (k:K (s.most i.toNat)):ldI .i64 ((Addr.mk L (i.toNat*9) none).add 8) w K:=Qp8 h h1 k
theorem s8 {i:Int} {v:Int} {K:World→Prop} (h:St w₀ w F L n s:=by first | assumption | exact St.drew (by assumption) | exact St.drew (St.drew (by assumption)) | exact St.drew (St.drew (St.drew (by assumption)))) (h1:i.toNat<n:=by omega) (k:∀w',St w₀ w' F L n (s.Qco i.toNat v)→K w'):sto ((Addr.mk L (i.toNat*9) none).add 8) (.int .i64 v) w K:=Q08 h h1 k
end
end Seq
end Go.Proofs.YtokjfdggpapkbaaGreatDoor
