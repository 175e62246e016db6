/-
The sequences of layer 4 in memory: a forest as a row of records; loads and stores of its fields.
Conditions: none of its own.
-/
import Derived.Test.YtpmicakdjhoafaaGreatDoorGMem
import Derived.Test.YtpmicakdjhoafaaGreatDoorSn
set_option linter.unusedVariables false
set_option linter.unusedSimpArgs false
namespace Go.Proofs.YtpmicakdjhoafaaGreatDoor
open Go
namespace Seq
@[ext] structure S where
 up:Nat→Int
 left:Nat→Int
 right:Nat→Int
 turned:Nat→Bool
 size:Nat→Int
 value:Nat→Int
 sum:Nat→Int
 least:Nat→Int
 most:Nat→Int
def S.w_up (s:S) (i:Nat) (v:Int):S:={s with up:=upd s.up i v}
def S.Qbe (s:S) (i:Nat) (v:Int):S:={s with left:=upd s.left i v}
def S.Qa4 (s:S) (i:Nat) (v:Int):S:={s with right:=upd s.right i v}
def S.Qbg (s:S) (i:Nat) (v:Bool):S:={s with turned:=upd s.turned i v}
def S.Qdj (s:S) (i:Nat) (v:Int):S:={s with size:=upd s.size i v}
def S.Qbs (s:S) (i:Nat) (v:Int):S:={s with value:=upd s.value i v}
def S.Qhf (s:S) (i:Nat) (v:Int):S:={s with sum:=upd s.sum i v}
def S.Qb2 (s:S) (i:Nat) (v:Int):S:={s with least:=upd s.least i v}
def S.Qdk (s:S) (i:Nat) (v:Int):S:={s with most:=upd s.most i v}
@[simp] theorem S.Qvy (s:S) (i:Nat) (v:Int):(s.w_up i v).up=upd s.up i v:=rfl
@[simp] theorem S.Qsa (s:S) (i:Nat) (v:Int):(s.w_up i v).left=s.left:=rfl
@[simp] theorem S.Qp8 (s:S) (i:Nat) (v:Int):(s.w_up i v).right=s.right:=rfl
@[simp] theorem S.turned_w_up (s:S) (i:Nat) (v:Int):(s.w_up i v).turned=s.turned:=rfl
@[simp] theorem S.size_w_up (s:S) (i:Nat) (v:Int):(s.w_up i v).size=s.size:=rfl
@[simp] theorem S.value_w_up (s:S) (i:Nat) (v:Int):(s.w_up i v).value=s.value:=rfl
@[simp] theorem S.sum_w_up (s:S) (i:Nat) (v:Int):(s.w_up i v).sum=s.sum:=rfl
@[simp] theorem S.least_w_up (s:S) (i:Nat) (v:Int):(s.w_up i v).least=s.least:=rfl
@[simp] theorem S.most_w_up (s:S) (i:Nat) (v:Int):(s.w_up i v).most=s.most:=rfl
@[simp] theorem S.up_w_left (s:S) (i:Nat) (v:Int):(s.Qbe i v).up=s.up:=rfl
@[simp] theorem S.left_w_left (s:S) (i:Nat) (v:Int):(s.Qbe i v).left=upd s.left i v:=rfl
@[simp] theorem S.right_w_left (s:S) (i:Nat) (v:Int):(s.Qbe i v).right=s.right:=rfl
@[simp] theorem S.turned_w_left (s:S) (i:Nat) (v:Int):(s.Qbe i v).turned=s.turned:=rfl
@[simp] theorem S.size_w_left (s:S) (i:Nat) (v:Int):(s.Qbe i v).size=s.size:=rfl
@[simp] theorem S.value_w_left (s:S) (i:Nat) (v:Int):(s.Qbe i v).value=s.value:=rfl
@[simp] theorem S.sum_w_left (s:S) (i:Nat) (v:Int):(s.Qbe i v).sum=s.sum:=rfl
@[simp] theorem S.least_w_left (s:S) (i:Nat) (v:Int):(s.Qbe i v).least=s.least:=rfl
@[simp] theorem S.most_w_left (s:S) (i:Nat) (v:Int):(s.Qbe i v).most=s.most:=rfl
@[simp] theorem S.up_w_right (s:S) (i:Nat) (v:Int):(s.Qa4 i v).up=s.up:=rfl
@[simp] theorem S.left_w_right (s:S) (i:Nat) (v:Int):(s.Qa4 i v).left=s.left:=rfl
@[simp] theorem S.right_w_right (s:S) (i:Nat) (v:Int):(s.Qa4 i v).right=upd s.right i v:=rfl
@[simp] theorem S.turned_w_right (s:S) (i:Nat) (v:Int):(s.Qa4 i v).turned=s.turned:=rfl
@[simp] theorem S.size_w_right (s:S) (i:Nat) (v:Int):(s.Qa4 i v).size=s.size:=rfl
@[simp] theorem S.value_w_right (s:S) (i:Nat) (v:Int):(s.Qa4 i v).value=s.value:=rfl
@[simp] theorem S.sum_w_right (s:S) (i:Nat) (v:Int):(s.Qa4 i v).sum=s.sum:=rfl
@[simp] theorem S.least_w_right (s:S) (i:Nat) (v:Int):(s.Qa4 i v).least=s.least:=rfl
@[simp] theorem S.most_w_right (s:S) (i:Nat) (v:Int):(s.Qa4 i v).most=s.most:=rfl
@[simp] theorem S.up_w_turned (s:S) (i:Nat) (v:Bool):(s.Qbg i v).up=s.up:=rfl
@[simp] theorem S.left_w_turned (s:S) (i:Nat) (v:Bool):(s.Qbg i v).left=s.left:=rfl
@[simp] theorem S.right_w_turned (s:S) (i:Nat) (v:Bool):(s.Qbg i v).right=s.right:=rfl
@[simp] theorem S.Qt7 (s:S) (i:Nat) (v:Bool):(s.Qbg i v).turned=upd s.turned i v:=rfl
@[simp] theorem S.size_w_turned (s:S) (i:Nat) (v:Bool):(s.Qbg i v).size=s.size:=rfl
@[simp] theorem S.value_w_turned (s:S) (i:Nat) (v:Bool):(s.Qbg i v).value=s.value:=rfl
@[simp] theorem S.sum_w_turned (s:S) (i:Nat) (v:Bool):(s.Qbg i v).sum=s.sum:=rfl
@[simp] theorem S.least_w_turned (s:S) (i:Nat) (v:Bool):(s.Qbg i v).least=s.least:=rfl
@[simp] theorem S.most_w_turned (s:S) (i:Nat) (v:Bool):(s.Qbg i v).most=s.most:=rfl
@[simp] theorem S.up_w_size (s:S) (i:Nat) (v:Int):(s.Qdj i v).up=s.up:=rfl
@[simp] theorem S.left_w_size (s:S) (i:Nat) (v:Int):(s.Qdj i v).left=s.left:=rfl
@[simp] theorem S.right_w_size (s:S) (i:Nat) (v:Int):(s.Qdj i v).right=s.right:=rfl
@[simp] theorem S.turned_w_size (s:S) (i:Nat) (v:Int):(s.Qdj i v).turned=s.turned:=rfl
@[simp] theorem S.Qyb (s:S) (i:Nat) (v:Int):(s.Qdj i v).size=upd s.size i v:=rfl
@[simp] theorem S.value_w_size (s:S) (i:Nat) (v:Int):(s.Qdj i v).value=s.value:=rfl
@[simp] theorem S.sum_w_size (s:S) (i:Nat) (v:Int):(s.Qdj i v).sum=s.sum:=rfl
@[simp] theorem S.least_w_size (s:S) (i:Nat) (v:Int):(s.Qdj i v).least=s.least:=rfl
@[simp] theorem S.most_w_size (s:S) (i:Nat) (v:Int):(s.Qdj i v).most=s.most:=rfl
@[simp] theorem S.up_w_value (s:S) (i:Nat) (v:Int):(s.Qbs i v).up=s.up:=rfl
@[simp] theorem S.left_w_value (s:S) (i:Nat) (v:Int):(s.Qbs i v).left=s.left:=rfl
@[simp] theorem S.right_w_value (s:S) (i:Nat) (v:Int):(s.Qbs i v).right=s.right:=rfl
@[simp] theorem S.turned_w_value (s:S) (i:Nat) (v:Int):(s.Qbs i v).turned=s.turned:=rfl
@[simp] theorem S.size_w_value (s:S) (i:Nat) (v:Int):(s.Qbs i v).size=s.size:=rfl
@[simp] theorem S.value_w_value (s:S) (i:Nat) (v:Int):(s.Qbs i v).value=upd s.value i v:=rfl
@[simp] theorem S.sum_w_value (s:S) (i:Nat) (v:Int):(s.Qbs i v).sum=s.sum:=rfl
@[simp] theorem S.least_w_value (s:S) (i:Nat) (v:Int):(s.Qbs i v).least=s.least:=rfl
@[simp] theorem S.most_w_value (s:S) (i:Nat) (v:Int):(s.Qbs i v).most=s.most:=rfl
@[simp] theorem S.up_w_sum (s:S) (i:Nat) (v:Int):(s.Qhf i v).up=s.up:=rfl
@[simp] theorem S.left_w_sum (s:S) (i:Nat) (v:Int):(s.Qhf i v).left=s.left:=rfl
@[simp] theorem S.right_w_sum (s:S) (i:Nat) (v:Int):(s.Qhf i v).right=s.right:=rfl
@[simp] theorem S.turned_w_sum (s:S) (i:Nat) (v:Int):(s.Qhf i v).turned=s.turned:=rfl
@[simp] theorem S.size_w_sum (s:S) (i:Nat) (v:Int):(s.Qhf i v).size=s.size:=rfl
@[simp] theorem S.value_w_sum (s:S) (i:Nat) (v:Int):(s.Qhf i v).value=s.value:=rfl
@[simp] theorem S.sum_w_sum (s:S) (i:Nat) (v:Int):(s.Qhf i v).sum=upd s.sum i v:=rfl
@[simp] theorem S.least_w_sum (s:S) (i:Nat) (v:Int):(s.Qhf i v).least=s.least:=rfl
@[simp] theorem S.most_w_sum (s:S) (i:Nat) (v:Int):(s.Qhf i v).most=s.most:=rfl
@[simp] theorem S.up_w_least (s:S) (i:Nat) (v:Int):(s.Qb2 i v).up=s.up:=rfl
@[simp] theorem S.left_w_least (s:S) (i:Nat) (v:Int):(s.Qb2 i v).left=s.left:=rfl
@[simp] theorem S.right_w_least (s:S) (i:Nat) (v:Int):(s.Qb2 i v).right=s.right:=rfl
@[simp] theorem S.turned_w_least (s:S) (i:Nat) (v:Int):(s.Qb2 i v).turned=s.turned:=rfl
@[simp] theorem S.Qw7 (s:S) (i:Nat) (v:Int):(s.Qb2 i v).size=s.size:=rfl
@[simp] theorem S.value_w_least (s:S) (i:Nat) (v:Int):(s.Qb2 i v).value=s.value:=rfl
@[simp] theorem S.Qx7 (s:S) (i:Nat) (v:Int):(s.Qb2 i v).sum=s.sum:=rfl
@[simp] theorem S.Qwf (s:S) (i:Nat) (v:Int):(s.Qb2 i v).least=upd s.least i v:=rfl
@[simp] theorem S.most_w_least (s:S) (i:Nat) (v:Int):(s.Qb2 i v).most=s.most:=rfl
@[simp] theorem S.up_w_most (s:S) (i:Nat) (v:Int):(s.Qdk i v).up=s.up:=rfl
@[simp] theorem S.left_w_most (s:S) (i:Nat) (v:Int):(s.Qdk i v).left=s.left:=rfl
@[simp] theorem S.right_w_most (s:S) (i:Nat) (v:Int):(s.Qdk i v).right=s.right:=rfl
@[simp] theorem S.turned_w_most (s:S) (i:Nat) (v:Int):(s.Qdk i v).turned=s.turned:=rfl
@[simp] theorem S.Qyc (s:S) (i:Nat) (v:Int):(s.Qdk i v).size=s.size:=rfl
@[simp] theorem S.value_w_most (s:S) (i:Nat) (v:Int):(s.Qdk i v).value=s.value:=rfl
@[simp] theorem S.sum_w_most (s:S) (i:Nat) (v:Int):(s.Qdk i v).sum=s.sum:=rfl
@[simp] theorem S.Qxh (s:S) (i:Nat) (v:Int):(s.Qdk i v).least=s.least:=rfl
@[simp] theorem S.Qyl (s:S) (i:Nat) (v:Int):(s.Qdk i v).most=upd s.most i v:=rfl
def encS (s:S) (i:Nat):List Value:=[.int .i32 (s.up i),.int .i32 (s.left i),.int .i32 (s.right i),.bool (s.turned i),.int .i32 (s.size i),.int .i64 (s.value i),.int .i64 (s.sum i),.int .i64 (s.least i),.int .i64 (s.most i)]
theorem Qt2 (s:S) (i:Nat):(encS s i).length=9:=rfl
theorem projS:(∀(s:S) (i:Nat) (v:Int),(s.w_up i v).up=upd s.up i v)∧(∀(s:S) (i:Nat) (v:Int),(s.w_up i v).left=s.left)∧(∀(s:S) (i:Nat) (v:Int),(s.w_up i v).right=s.right)∧(∀(s:S) (i:Nat) (v:Int),(s.w_up i v).turned=s.turned)∧(∀(s:S) (i:Nat) (v:Int),(s.w_up i v).size=s.size)∧(∀(s:S) (i:Nat) (v:Int),(s.w_up i v).value=s.value)∧(∀(s:S) (i:Nat) (v:Int),(s.w_up i v).sum=s.sum)∧(∀(s:S) (i:Nat) (v:Int),(s.w_up i v).least=s.least)∧(∀(s:S) (i:Nat) (v:Int),(s.w_up i v).most=s.most)∧(∀(s:S) (i:Nat) (v:Int),(s.Qbe i v).up=s.up)∧(∀(s:S) (i:Nat) (v:Int),(s.Qbe i v).left=upd s.left i v)∧(∀(s:S) (i:Nat) (v:Int),(s.Qbe i v).right=s.right)∧(∀(s:S) (i:Nat) (v:Int),(s.Qbe i v).turned=s.turned)∧(∀(s:S) (i:Nat) (v:Int),(s.Qbe i v).size=s.size)∧(∀(s:S) (i:Nat) (v:Int),(s.Qbe i v).value=s.value)∧(∀(s:S) (i:Nat) (v:Int),(s.Qbe i v).sum=s.sum)∧(∀(s:S) (i:Nat) (v:Int),(s.Qbe i v).least=s.least)∧(∀(s:S) (i:Nat) (v:Int),(s.Qbe i v).most=s.most)∧(∀(s:S) (i:Nat) (v:Int),(s.Qa4 i v).up=s.up)∧(∀(s:S) (i:Nat) (v:Int),(s.Qa4 i v).left=s.left)∧(∀(s:S) (i:Nat) (v:Int),(s.Qa4 i v).right=upd s.right i v)∧(∀(s:S) (i:Nat) (v:Int),(s.Qa4 i v).turned=s.turned)∧(∀(s:S) (i:Nat) (v:Int),(s.Qa4 i v).size=s.size)∧(∀(s:S) (i:Nat) (v:Int),(s.Qa4 i v).value=s.value)∧(∀(s:S) (i:Nat) (v:Int),(s.Qa4 i v).sum=s.sum)∧(∀(s:S) (i:Nat) (v:Int),(s.Qa4 i v).least=s.least)∧(∀(s:S) (i:Nat) (v:Int),(s.Qa4 i v).most=s.most)∧(∀(s:S) (i:Nat) (v:Bool),(s.Qbg i v).up=s.up)∧(∀(s:S) (i:Nat) (v:Bool),(s.Qbg i v).left=s.left)∧(∀(s:S) (i:Nat) (v:Bool),(s.Qbg i v).right=s.right)∧(∀(s:S) (i:Nat) (v:Bool),(s.Qbg i v).turned=upd s.turned i v)∧(∀(s:S) (i:Nat) (v:Bool),(s.Qbg i v).size=s.size)∧(∀(s:S) (i:Nat) (v:Bool),(s.Qbg i v).value=s.value)∧(∀(s:S) (i:Nat) (v:Bool),(s.Qbg i v).sum=s.sum)∧(∀(s:S) (i:Nat) (v:Bool),(s.Qbg i v).least=s.least)∧(∀(s:S) (i:Nat) (v:Bool),(s.Qbg i v).most=s.most)∧(∀(s:S) (i:Nat) (v:Int),(s.Qdj i v).up=s.up)∧(∀(s:S) (i:Nat) (v:Int),(s.Qdj i v).left=s.left)∧(∀(s:S) (i:Nat) (v:Int),(s.Qdj i v).right=s.right)∧(∀(s:S) (i:Nat) (v:Int),(s.Qdj i v).turned=s.turned)∧(∀(s:S) (i:Nat) (v:Int),(s.Qdj i v).size=upd s.size i v)∧(∀(s:S) (i:Nat) (v:Int),(s.Qdj i v).value=s.value)∧(∀(s:S) (i:Nat) (v:Int),(s.Qdj i v).sum=s.sum)∧(∀(s:S) (i:Nat) (v:Int),(s.Qdj i v).least=s.least)∧(∀(s:S) (i:Nat) (v:Int),(s.Qdj i v).most=s.most)∧(∀(s:S) (i:Nat) (v:Int),(s.Qbs i v).up=s.up)∧(∀(s:S) (i:Nat) (v:Int),(s.Qbs i v).left=s.left)∧(∀(s:S) (i:Nat) (v:Int),(s.Qbs i v).right=s.right)∧(∀(s:S) (i:Nat) (v:Int),(s.Qbs i v).turned=s.turned)∧(∀(s:S) (i:Nat) (v:Int),(s.Qbs i v).size=s.size)∧(∀(s:S) (i:Nat) (v:Int),(s.Qbs i v).value=upd s.value i v)∧(∀(s:S) (i:Nat) (v:Int),(s.Qbs i v).sum=s.sum)∧(∀(s:S) (i:Nat) (v:Int),(s.Qbs i v).least=s.least)∧(∀(s:S) (i:Nat) (v:Int),(s.Qbs i v).most=s.most)∧(∀(s:S) (i:Nat) (v:Int),(s.Qhf i v).up=s.up)∧(∀(s:S) (i:Nat) (v:Int),(s.Qhf i v).left=s.left)∧(∀(s:S) (i:Nat) (v:Int),(s.Qhf i v).right=s.right)∧(∀(s:S) (i:Nat) (v:Int),(s.Qhf i v).turned=s.turned)∧(∀(s:S) (i:Nat) (v:Int),(s.Qhf i v).size=s.size)∧(∀(s:S) (i:Nat) (v:Int),(s.Qhf i v).value=s.value)∧(∀(s:S) (i:Nat) (v:Int),(s.Qhf i v).sum=upd s.sum i v)∧(∀(s:S) (i:Nat) (v:Int),(s.Qhf i v).least=s.least)∧(∀(s:S) (i:Nat) (v:Int),(s.Qhf i v).most=s.most)∧(∀(s:S) (i:Nat) (v:Int),(s.Qb2 i v).up=s.up)∧(∀(s:S) (i:Nat) (v:Int),(s.Qb2 i v).left=s.left)∧(∀(s:S) (i:Nat) (v:Int),(s.Qb2 i v).right=s.right)∧(∀(s:S) (i:Nat) (v:Int),(s.Qb2 i v).turned=s.turned)∧(∀(s:S) (i:Nat) (v:Int),(s.Qb2 i v).size=s.size)∧(∀(s:S) (i:Nat) (v:Int),(s.Qb2 i v).value=s.value)∧(∀(s:S) (i:Nat) (v:Int),(s.Qb2 i v).sum=s.sum)∧(∀(s:S) (i:Nat) (v:Int),(s.Qb2 i v).least=upd s.least i v)∧(∀(s:S) (i:Nat) (v:Int),(s.Qb2 i v).most=s.most)∧(∀(s:S) (i:Nat) (v:Int),(s.Qdk i v).up=s.up)∧(∀(s:S) (i:Nat) (v:Int),(s.Qdk i v).left=s.left)∧(∀(s:S) (i:Nat) (v:Int),(s.Qdk i v).right=s.right)∧(∀(s:S) (i:Nat) (v:Int),(s.Qdk i v).turned=s.turned)∧(∀(s:S) (i:Nat) (v:Int),(s.Qdk i v).size=s.size)∧(∀(s:S) (i:Nat) (v:Int),(s.Qdk i v).value=s.value)∧(∀(s:S) (i:Nat) (v:Int),(s.Qdk i v).sum=s.sum)∧(∀(s:S) (i:Nat) (v:Int),(s.Qdk i v).least=s.least)∧(∀(s:S) (i:Nat) (v:Int),(s.Qdk i v).most=upd s.most i v):=⟨fun _ _ _=>rfl,fun _ _ _=>rfl,fun _ _ _=>rfl,fun _ _ _=>rfl,fun _ _ _=>rfl,fun _ _ _=>rfl,fun _ _ _=>rfl,fun _ _ _=>rfl,fun _ _ _=>rfl,fun _ _ _=>rfl,fun _ _ _=>rfl,fun _ _ _=>rfl,fun _ _ _=>rfl,fun _ _ _=>rfl,fun _ _ _=>rfl,fun _ _ _=>rfl,fun _ _ _=>rfl,fun _ _ _=>rfl,fun _ _ _=>rfl,fun _ _ _=>rfl,fun _ _ _=>rfl,fun _ _ _=>rfl,fun _ _ _=>rfl,fun _ _ _=>rfl,fun _ _ _=>rfl,fun _ _ _=>rfl,fun _ _ _=>rfl,fun _ _ _=>rfl,fun _ _ _=>rfl,fun _ _ _=>rfl,fun _ _ _=>rfl,fun _ _ _=>rfl,fun _ _ _=>rfl,fun _ _ _=>rfl,fun _ _ _=>rfl,fun _ _ _=>rfl,fun _ _ _=>rfl,fun _ _ _=>rfl,fun _ _ _=>rfl,fun _ _ _=>rfl,fun _ _ _=>rfl,fun _ _ _=>rfl,fun _ _ _=>rfl,fun _ _ _=>rfl,fun _ _ _=>rfl,fun _ _ _=>rfl,fun _ _ _=>rfl,fun _ _ _=>rfl,fun _ _ _=>rfl,fun _ _ _=>rfl,fun _ _ _=>rfl,fun _ _ _=>rfl,fun _ _ _=>rfl,fun _ _ _=>rfl,fun _ _ _=>rfl,fun _ _ _=>rfl,fun _ _ _=>rfl,fun _ _ _=>rfl,fun _ _ _=>rfl,fun _ _ _=>rfl,fun _ _ _=>rfl,fun _ _ _=>rfl,fun _ _ _=>rfl,fun _ _ _=>rfl,fun _ _ _=>rfl,fun _ _ _=>rfl,fun _ _ _=>rfl,fun _ _ _=>rfl,fun _ _ _=>rfl,fun _ _ _=>rfl,fun _ _ _=>rfl,fun _ _ _=>rfl,fun _ _ _=>rfl,fun _ _ _=>rfl,fun _ _ _=>rfl,fun _ _ _=>rfl,fun _ _ _=>rfl,fun _ _ _=>rfl,fun _ _ _=>rfl,fun _ _ _=>rfl,fun _ _ _=>rfl⟩
structure IsF (h:Array Obj) (F L n:Nat) (s:S):Prop where
 f:Row h F Qjt [.slice (some ⟨L,0,none⟩) n n]
 l:Row h L Qe2 (recs (encS s) n)
 ne:F≠L
structure St (w₀ w:World) (F L n:Nat) (s:S):Prop where
 i:IsF w.heap F L n s
 c:Chg (·=L) w₀ w
 lt:F<w₀.heap.size∧L<w₀.heap.size
section
variable {w₀ w:World} {F L n:Nat} {s:S}
theorem St.drew (h:St w₀ w F L n s):St w₀ w.drew F L n s:=⟨h.i,h.c.drew,h.lt⟩
theorem St.start (h:IsF w.heap F L n s):St w w F L n s:=⟨h,Chg.refl _ _,h.f.lt,h.l.lt⟩
theorem IsF.alloc (h:IsF w.heap F L n s) (o:Obj):IsF (w.alloc o).heap F L n s:=⟨h.f.alloc o,h.l.alloc o,h.ne⟩
theorem St.alloc (h:St w₀ w F L n s) (o:Obj):St w₀ (w.alloc o) F L n s:=⟨h.i.alloc o,h.c.alloc o,h.lt⟩
theorem St.trans {w':World} {t:S} (h:St w₀ w F L n s) (k:St w w' F L n t):St w₀ w' F L n t:=⟨k.i,h.c.trans k.c,h.lt⟩
theorem IsF.chg {w w':World} (h:IsF w.heap F L n s) {T:Nat→Prop} (c:Chg T w w') (hF:¬T F) (hL:¬T L):IsF w'.heap F L n s:=⟨c.row hF h.f,c.row hL h.l,h.ne⟩
theorem St.own {w':World} (h:St w₀ w F L n s) (k:Chg (w₀.heap.size≤·) w w'):St w₀ w' F L n s:=
 ⟨h.i.chg k (by have:=h.lt.1;omega) (by have:=h.lt.2;omega),h.c.trans' k (fun i hi=>.inr hi),h.lt⟩
theorem Qel {K:Option Addr→Nat→Nat→Prop} (h:St w₀ w F L n s) (k:K (some ⟨L,0,none⟩) n n):ldS ⟨F,0,none⟩ w K:=Qba h.i.f rfl k
theorem Qa1 {i:Int} {K:Addr→Prop} (h0:0≤i) (h1:i<n) (k:K ⟨L,i.toNat*9,none⟩):ixS (some ⟨L,0,none⟩) n i 9 K:=ixS_z h0 h1 (by rw [Nat.zero_add];exact k)
theorem St.cell (h:St w₀ w F L n s) {i k:Nat} (hi:i<n) (hk:k<9):w.cell? ⟨L,i*9+k,none⟩=(encS s i)[k]?:=by
 rw [h.i.l.cell,Ql4 (encS s) (Qt2 s) hi hk]
theorem St.set (h:St w₀ w F L n s) {t:S} {i k:Nat} (hi:i<n) (hk:k<9) {v:Value} (ho:∀j,j≠i→encS t j=encS s j) (hx:encS t i=(encS s i).set k v):St w₀ (w.setCell ⟨L,i*9+k,none⟩ v) F L n t:=
 ⟨⟨h.i.f.Qr4 _ _ (fun e=>h.i.ne e.symm),by rw [←Qfx (encS s) (Qt2 s) hi hk ho hx];exact h.i.l.set _ _,h.i.ne⟩,h.c.setCell _ _ (.inl rfl),h.lt⟩
theorem Qs5 {i:Int} {K:Int→Prop} (h:St w₀ w F L n s) (h1:i.toNat<n) (k:K (s.up i.toNat)):ldI .i32 (Addr.mk L (i.toNat*9) none) w K:=by
 have e:(Addr.mk L (i.toNat*9) none)=Addr.mk L (i.toNat*9+0) none:=rfl
 rw [e]
 exact ⟨_,h.cell h1 (by decide:0<9),k⟩
theorem Qra {i:Int} {v:Int} {K:World→Prop} (h:St w₀ w F L n s) (h1:i.toNat<n) (k:∀w',St w₀ w' F L n (s.w_up i.toNat v)→K w'):sto (Addr.mk L (i.toNat*9) none) (.int .i32 v) w K:=by
 have e:(Addr.mk L (i.toNat*9) none)=Addr.mk L (i.toNat*9+0) none:=rfl
 rw [e]
 exact ⟨rfl,⟨_,h.cell h1 (by decide:0<9)⟩,h.i.l.frozen _,k _ (h.set h1 (by decide) (fun j hj=>by simp [encS,Qak _ _ hj]) (by simp [encS,Qab]))⟩
theorem Qov {i:Int} {K:Int→Prop} (h:St w₀ w F L n s) (h1:i.toNat<n) (k:K (s.left i.toNat)):ldI .i32 ((Addr.mk L (i.toNat*9) none).add 1) w K:=by
 have e:((Addr.mk L (i.toNat*9) none).add 1)=Addr.mk L (i.toNat*9+1) none:=Qaf _ _ _
 rw [e]
 exact ⟨_,h.cell h1 (by decide:1<9),k⟩
theorem Qok {i:Int} {v:Int} {K:World→Prop} (h:St w₀ w F L n s) (h1:i.toNat<n) (k:∀w',St w₀ w' F L n (s.Qbe i.toNat v)→K w'):sto ((Addr.mk L (i.toNat*9) none).add 1) (.int .i32 v) w K:=by
 have e:((Addr.mk L (i.toNat*9) none).add 1)=Addr.mk L (i.toNat*9+1) none:=Qaf _ _ _
 rw [e]
 exact ⟨rfl,⟨_,h.cell h1 (by decide:1<9)⟩,h.i.l.frozen _,k _ (h.set h1 (by decide) (fun j hj=>by simp [encS,Qak _ _ hj]) (by simp [encS,Qab]))⟩
theorem Ql7 {i:Int} {K:Int→Prop} (h:St w₀ w F L n s) (h1:i.toNat<n) (k:K (s.right i.toNat)):ldI .i32 ((Addr.mk L (i.toNat*9) none).add 2) w K:=by
 have e:((Addr.mk L (i.toNat*9) none).add 2)=Addr.mk L (i.toNat*9+2) none:=Qaf _ _ _
 rw [e]
 exact ⟨_,h.cell h1 (by decide:2<9),k⟩
theorem Qk1 {i:Int} {v:Int} {K:World→Prop} (h:St w₀ w F L n s) (h1:i.toNat<n) (k:∀w',St w₀ w' F L n (s.Qa4 i.toNat v)→K w'):sto ((Addr.mk L (i.toNat*9) none).add 2) (.int .i32 v) w K:=by
 have e:((Addr.mk L (i.toNat*9) none).add 2)=Addr.mk L (i.toNat*9+2) none:=Qaf _ _ _
 rw [e]
 exact ⟨rfl,⟨_,h.cell h1 (by decide:2<9)⟩,h.i.l.frozen _,k _ (h.set h1 (by decide) (fun j hj=>by simp [encS,Qak _ _ hj]) (by simp [encS,Qab]))⟩
theorem Qkr {i:Int} {K:Bool→Prop} (h:St w₀ w F L n s) (h1:i.toNat<n) (k:K (s.turned i.toNat)):ldB ((Addr.mk L (i.toNat*9) none).add 3) w K:=by
 have e:((Addr.mk L (i.toNat*9) none).add 3)=Addr.mk L (i.toNat*9+3) none:=Qaf _ _ _
 rw [e]
 exact ⟨_,h.cell h1 (by decide:3<9),k⟩
theorem Qr2 {i:Int} {v:Bool} {K:World→Prop} (h:St w₀ w F L n s) (h1:i.toNat<n) (k:∀w',St w₀ w' F L n (s.Qbg i.toNat v)→K w'):sto ((Addr.mk L (i.toNat*9) none).add 3) (.bool v) w K:=by
 have e:((Addr.mk L (i.toNat*9) none).add 3)=Addr.mk L (i.toNat*9+3) none:=Qaf _ _ _
 rw [e]
 exact ⟨rfl,⟨_,h.cell h1 (by decide:3<9)⟩,h.i.l.frozen _,k _ (h.set h1 (by decide) (fun j hj=>by simp [encS,Qak _ _ hj]) (by simp [encS,Qab]))⟩
theorem Qot {i:Int} {K:Int→Prop} (h:St w₀ w F L n s) (h1:i.toNat<n) (k:K (s.size i.toNat)):ldI .i32 ((Addr.mk L (i.toNat*9) none).add 4) w K:=by
 have e:((Addr.mk L (i.toNat*9) none).add 4)=Addr.mk L (i.toNat*9+4) none:=Qaf _ _ _
 rw [e]
 exact ⟨_,h.cell h1 (by decide:4<9),k⟩
theorem Qx9 {i:Int} {v:Int} {K:World→Prop} (h:St w₀ w F L n s) (h1:i.toNat<n) (k:∀w',St w₀ w' F L n (s.Qdj i.toNat v)→K w'):sto ((Addr.mk L (i.toNat*9) none).add 4) (.int .i32 v) w K:=by
 have e:((Addr.mk L (i.toNat*9) none).add 4)=Addr.mk L (i.toNat*9+4) none:=Qaf _ _ _
 rw [e]
 exact ⟨rfl,⟨_,h.cell h1 (by decide:4<9)⟩,h.i.l.frozen _,k _ (h.set h1 (by decide) (fun j hj=>by simp [encS,Qak _ _ hj]) (by simp [encS,Qab]))⟩
theorem Qqa {i:Int} {K:Int→Prop} (h:St w₀ w F L n s) (h1:i.toNat<n) (k:K (s.value i.toNat)):ldI .i64 ((Addr.mk L (i.toNat*9) none).add 5) w K:=by
 have e:((Addr.mk L (i.toNat*9) none).add 5)=Addr.mk L (i.toNat*9+5) none:=Qaf _ _ _
 rw [e]
 exact ⟨_,h.cell h1 (by decide:5<9),k⟩
theorem Qtw {i:Int} {v:Int} {K:World→Prop} (h:St w₀ w F L n s) (h1:i.toNat<n) (k:∀w',St w₀ w' F L n (s.Qbs i.toNat v)→K w'):sto ((Addr.mk L (i.toNat*9) none).add 5) (.int .i64 v) w K:=by
 have e:((Addr.mk L (i.toNat*9) none).add 5)=Addr.mk L (i.toNat*9+5) none:=Qaf _ _ _
 rw [e]
 exact ⟨rfl,⟨_,h.cell h1 (by decide:5<9)⟩,h.i.l.frozen _,k _ (h.set h1 (by decide) (fun j hj=>by simp [encS,Qak _ _ hj]) (by simp [encS,Qab]))⟩
theorem Qui {i:Int} {K:Int→Prop} (h:St w₀ w F L n s) (h1:i.toNat<n) (k:K (s.sum i.toNat)):ldI .i64 ((Addr.mk L (i.toNat*9) none).add 6) w K:=by
 have e:((Addr.mk L (i.toNat*9) none).add 6)=Addr.mk L (i.toNat*9+6) none:=Qaf _ _ _
 rw [e]
 exact ⟨_,h.cell h1 (by decide:6<9),k⟩
theorem st_sum {i:Int} {v:Int} {K:World→Prop} (h:St w₀ w F L n s) (h1:i.toNat<n) (k:∀w',St w₀ w' F L n (s.Qhf i.toNat v)→K w'):sto ((Addr.mk L (i.toNat*9) none).add 6) (.int .i64 v) w K:=by
 have e:((Addr.mk L (i.toNat*9) none).add 6)=Addr.mk L (i.toNat*9+6) none:=Qaf _ _ _
 rw [e]
 exact ⟨rfl,⟨_,h.cell h1 (by decide:6<9)⟩,h.i.l.frozen _,k _ (h.set h1 (by decide) (fun j hj=>by simp [encS,Qak _ _ hj]) (by simp [encS,Qab]))⟩
theorem Ql8 {i:Int} {K:Int→Prop} (h:St w₀ w F L n s) (h1:i.toNat<n) (k:K (s.least i.toNat)):ldI .i64 ((Addr.mk L (i.toNat*9) none).add 7) w K:=by
 have e:((Addr.mk L (i.toNat*9) none).add 7)=Addr.mk L (i.toNat*9+7) none:=Qaf _ _ _
 rw [e]
 exact ⟨_,h.cell h1 (by decide:7<9),k⟩
theorem Qv0 {i:Int} {v:Int} {K:World→Prop} (h:St w₀ w F L n s) (h1:i.toNat<n) (k:∀w',St w₀ w' F L n (s.Qb2 i.toNat v)→K w'):sto ((Addr.mk L (i.toNat*9) none).add 7) (.int .i64 v) w K:=by
 have e:((Addr.mk L (i.toNat*9) none).add 7)=Addr.mk L (i.toNat*9+7) none:=Qaf _ _ _
 rw [e]
 exact ⟨rfl,⟨_,h.cell h1 (by decide:7<9)⟩,h.i.l.frozen _,k _ (h.set h1 (by decide) (fun j hj=>by simp [encS,Qak _ _ hj]) (by simp [encS,Qab]))⟩
theorem Qou {i:Int} {K:Int→Prop} (h:St w₀ w F L n s) (h1:i.toNat<n) (k:K (s.most i.toNat)):ldI .i64 ((Addr.mk L (i.toNat*9) none).add 8) w K:=by
 have e:((Addr.mk L (i.toNat*9) none).add 8)=Addr.mk L (i.toNat*9+8) none:=Qaf _ _ _
 rw [e]
 exact ⟨_,h.cell h1 (by decide:8<9),k⟩
theorem Qya {i:Int} {v:Int} {K:World→Prop} (h:St w₀ w F L n s) (h1:i.toNat<n) (k:∀w',St w₀ w' F L n (s.Qdk i.toNat v)→K w'):sto ((Addr.mk L (i.toNat*9) none).add 8) (.int .i64 v) w K:=by
 have e:((Addr.mk L (i.toNat*9) none).add 8)=Addr.mk L (i.toNat*9+8) none:=Qaf _ _ _
 rw [e]
 exact ⟨rfl,⟨_,h.cell h1 (by decide:8<9)⟩,h.i.l.frozen _,k _ (h.set h1 (by decide) (fun j hj=>by simp [encS,Qak _ _ hj]) (by simp [encS,Qab]))⟩
theorem gF {K:Option Addr→Nat→Nat→Prop} (h:St w₀ w F L n s:=by first | assumption | exact St.drew (by assumption) | exact St.drew (St.drew (by assumption)) | exact St.drew (St.drew (St.drew (by assumption)))) (k:K (some ⟨L,0,none⟩) n n):ldS ⟨F,0,none⟩ w K:=Qel h k
theorem g0 {i:Int} {K:Int→Prop} (h:St w₀ w F L n s:=by first | assumption | exact St.drew (by assumption) | exact St.drew (St.drew (by assumption)) | exact St.drew (St.drew (St.drew (by assumption)))) (h1:i.toNat<n:=by omega) (k:K (s.up i.toNat)):ldI .i32 (Addr.mk L (i.toNat*9) none) w K:=Qs5 h h1 k
theorem s0 {i:Int} {v:Int} {K:World→Prop} (h:St w₀ w F L n s:=by first | assumption | exact St.drew (by assumption) | exact St.drew (St.drew (by assumption)) | exact St.drew (St.drew (St.drew (by assumption)))) (h1:i.toNat<n:=by omega) (k:∀w',St w₀ w' F L n (s.w_up i.toNat v)→K w'):sto (Addr.mk L (i.toNat*9) none) (.int .i32 v) w K:=Qra h h1 k
theorem g1 {i:Int} {K:Int→Prop} (h:St w₀ w F L n s:=by first | assumption | exact St.drew (by assumption) | exact St.drew (St.drew (by assumption)) | exact St.drew (St.drew (St.drew (by assumption)))) (h1:i.toNat<n:=by omega) (k:K (s.left i.toNat)):ldI .i32 ((Addr.mk L (i.toNat*9) none).add 1) w K:=Qov h h1 k
theorem s1 {i:Int} {v:Int} {K:World→Prop} (h:St w₀ w F L n s:=by first | assumption | exact St.drew (by assumption) | exact St.drew (St.drew (by assumption)) | exact St.drew (St.drew (St.drew (by assumption)))) (h1:i.toNat<n:=by omega) (k:∀w',St w₀ w' F L n (s.Qbe i.toNat v)→K w'):sto ((Addr.mk L (i.toNat*9) none).add 1) (.int .i32 v) w K:=Qok h h1 k
theorem g2 {i:Int} {K:Int→Prop} (h:St w₀ w F L n s:=by first | assumption | exact St.drew (by assumption) | exact St.drew (St.drew (by assumption)) | exact St.drew (St.drew (St.drew (by assumption)))) (h1:i.toNat<n:=by omega) (k:K (s.right i.toNat)):ldI .i32 ((Addr.mk L (i.toNat*9) none).add 2) w K:=Ql7 h h1 k
theorem s2 {i:Int} {v:Int} {K:World→Prop} (h:St w₀ w F L n s:=by first | assumption | exact St.drew (by assumption) | exact St.drew (St.drew (by assumption)) | exact St.drew (St.drew (St.drew (by assumption)))) (h1:i.toNat<n:=by omega) (k:∀w',St w₀ w' F L n (s.Qa4 i.toNat v)→K w'):sto ((Addr.mk L (i.toNat*9) none).add 2) (.int .i32 v) w K:=Qk1 h h1 k
theorem g3 {i:Int} {K:Bool→Prop} (h:St w₀ w F L n s:=by first | assumption | exact St.drew (by assumption) | exact St.drew (St.drew (by assumption)) | exact St.drew (St.drew (St.drew (by assumption)))) (h1:i.toNat<n:=by omega) (k:K (s.turned i.toNat)):ldB ((Addr.mk L (i.toNat*9) none).add 3) w K:=Qkr h h1 k
theorem s3 {i:Int} {v:Bool} {K:World→Prop} (h:St w₀ w F L n s:=by first | assumption | exact St.drew (by assumption) | exact St.drew (St.drew (by assumption)) | exact St.drew (St.drew (St.drew (by assumption)))) (h1:i.toNat<n:=by omega) (k:∀w',St w₀ w' F L n (s.Qbg i.toNat v)→K w'):sto ((Addr.mk L (i.toNat*9) none).add 3) (.bool v) w K:=Qr2 h h1 k
theorem g4 {i:Int} {K:Int→Prop} (h:St w₀ w F L n s:=by first | assumption | exact St.drew (by assumption) | exact St.drew (St.drew (by assumption)) | exact St.drew (St.drew (St.drew (by assumption)))) (h1:i.toNat<n:=by omega) (k:K (s.size i.toNat)):ldI .i32 ((Addr.mk L (i.toNat*9) none).add 4) w K:=Qot h h1 k
theorem s4 {i:Int} {v:Int} {K:World→Prop} (h:St w₀ w F L n s:=by first | assumption | exact St.drew (by assumption) | exact St.drew (St.drew (by assumption)) | exact St.drew (St.drew (St.drew (by assumption)))) (h1:i.toNat<n:=by omega) (k:∀w',St w₀ w' F L n (s.Qdj i.toNat v)→K w'):sto ((Addr.mk L (i.toNat*9) none).add 4) (.int .i32 v) w K:=Qx9 h h1 k
theorem g5 {i:Int} {K:Int→Prop} (h:St w₀ w F L n s:=by first | assumption | exact St.drew (by assumption) | exact St.drew (St.drew (by assumption)) | exact St.drew (St.drew (St.drew (by assumption)))) (h1:i.toNat<n:=by omega) (k:K (s.value i.toNat)):ldI .i64 ((Addr.mk L (i.toNat*9) none).add 5) w K:=Qqa h h1 k
theorem s5 {i:Int} {v:Int} {K:World→Prop} (h:St w₀ w F L n s:=by first | assumption | exact St.drew (by assumption) | exact St.drew (St.drew (by assumption)) | exact St.drew (St.drew (St.drew (by assumption)))) (h1:i.toNat<n:=by omega) (k:∀w',St w₀ w' F L n (s.Qbs i.toNat v)→K w'):sto ((Addr.mk L (i.toNat*9) none).add 5) (.int .i64 v) w K:=Qtw h h1 k
theorem g6 {i:Int} {K:Int→Prop} (h:St w₀ w F L n s:=by first | assumption | exact St.drew (by assumption) | exact St.drew (St.drew (by assumption)) | exact St.drew (St.drew (St.drew (by assumption)))) (h1:i.toNat<n:=by omega) (k:K (s.sum i.toNat)):ldI .i64 ((Addr.mk L (i.toNat*9) none).add 6) w K:=Qui h h1 k
theorem s6 {i:Int} {v:Int} {K:World→Prop} (h:St w₀ w F L n s:=by first | assumption | exact St.drew (by assumption) | exact St.drew (St.drew (by assumption)) | exact St.drew (St.drew (St.drew (by assumption)))) (h1:i.toNat<n:=by omega) (k:∀w',St w₀ w' F L n (s.Qhf i.toNat v)→K w'):sto ((Addr.mk L (i.toNat*9) none).add 6) (.int .i64 v) w K:=st_sum h h1 k
theorem g7 {i:Int} {K:Int→Prop} (h:St w₀ w F L n s:=by first | assumption | exact St.drew (by assumption) | exact St.drew (St.drew (by assumption)) | exact St.drew (St.drew (St.drew (by assumption)))) (h1:i.toNat<n:=by omega) (k:K (s.least i.toNat)):ldI .i64 ((Addr.mk L (i.toNat*9) none).add 7) w K:=Ql8 h h1 k
theorem s7 {i:Int} {v:Int} {K:World→Prop} (h:St w₀ w F L n s:=by first | assumption | exact St.drew (by assumption) | exact St.drew (St.drew (by assumption)) | exact St.drew (St.drew (St.drew (by assumption)))) (h1:i.toNat<n:=by omega) (k:∀w',St w₀ w' F L n (s.Qb2 i.toNat v)→K w'):sto ((Addr.mk L (i.toNat*9) none).add 7) (.int .i64 v) w K:=Qv0 h h1 k
theorem g8 {i:Int} {K:Int→Prop} (h:St w₀ w F L n s:=by first | assumption | exact St.drew (by assumption) | exact St.drew (St.drew (by assumption)) | exact St.drew (St.drew (St.drew (by assumption)))) (h1:i.toNat<n:=by omega) (k:K (s.most i.toNat)):ldI .i64 ((Addr.mk L (i.toNat*9) none).add 8) w K:=Qou h h1 k
theorem s8 {i:Int} {v:Int} {K:World→Prop} (h:St w₀ w F L n s:=by first | assumption | exact St.drew (by assumption) | exact St.drew (St.drew (by assumption)) | exact St.drew (St.drew (St.drew (by assumption)))) (h1:i.toNat<n:=by omega) (k:∀w',St w₀ w' F L n (s.Qdk i.toNat v)→K w'):sto ((Addr.mk L (i.toNat*9) none).add 8) (.int .i64 v) w K:=Qya h h1 k
end
end Seq
end Go.Proofs.YtpmicakdjhoafaaGreatDoor
