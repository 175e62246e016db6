/-
The sequences of layer 4 in memory: a Qct as a row of records; loads and stores of its fields.
Conditions: none of its own.
-/
import Derived.Test.YtfeekmmfdkfgmaaGreatDoorGMem
import Derived.Test.YtfeekmmfdkfgmaaGreatDoorSn
set_option linter.unusedVariables false
set_option linter.unusedSimpArgs false
namespace Go.Proofs.YtfeekmmfdkfgmaaGreatDoor
open Go
namespace Seq
@[ext] structure S where
 up:Nat→Int
 left:Nat→Int
 right:Nat→Int
 turned:Nat→Bool
 size:Nat→Int
 value:Nat→Int
 sum:Nat→Int
 least:Nat→Int
 most:Nat→Int
def S.w_up (s:S) (i:Nat) (v:Int):S:={s with up:=upd s.up i v}
def S.Qa5 (s:S) (i:Nat) (v:Int):S:={s with left:=upd s.left i v}
def S.Qa3 (s:S) (i:Nat) (v:Int):S:={s with right:=upd s.right i v}
def S.Qa9 (s:S) (i:Nat) (v:Bool):S:={s with turned:=upd s.turned i v}
def S.Qc1 (s:S) (i:Nat) (v:Int):S:={s with size:=upd s.size i v}
def S.Qbk (s:S) (i:Nat) (v:Int):S:={s with value:=upd s.value i v}
def S.Qgy (s:S) (i:Nat) (v:Int):S:={s with sum:=upd s.sum i v}
def S.Qbz (s:S) (i:Nat) (v:Int):S:={s with least:=upd s.least i v}
def S.Qc2 (s:S) (i:Nat) (v:Int):S:={s with most:=upd s.most i v}
@[simp] theorem S.Q3j (s:S) (i:Nat) (v:Int):(s.w_up i v).up=upd s.up i v:=rfl
@[simp] theorem S.Qxo (s:S) (i:Nat) (v:Int):(s.w_up i v).left=s.left:=rfl
@[simp] theorem S.Quv (s:S) (i:Nat) (v:Int):(s.w_up i v).right=s.right:=rfl
@[simp] theorem S.Zhp (s:S) (i:Nat) (v:Int):(s.w_up i v).turned=s.turned:=rfl
@[simp] theorem S.Zkp (s:S) (i:Nat) (v:Int):(s.w_up i v).size=s.size:=rfl
@[simp] theorem S.Zj2 (s:S) (i:Nat) (v:Int):(s.w_up i v).value=s.value:=rfl
@[simp] theorem S.Zml (s:S) (i:Nat) (v:Int):(s.w_up i v).sum=s.sum:=rfl
@[simp] theorem S.Zka (s:S) (i:Nat) (v:Int):(s.w_up i v).least=s.least:=rfl
@[simp] theorem S.Zlf (s:S) (i:Nat) (v:Int):(s.w_up i v).most=s.most:=rfl
@[simp] theorem S.Zki (s:S) (i:Nat) (v:Int):(s.Qa5 i v).up=s.up:=rfl
@[simp] theorem S.Zi0 (s:S) (i:Nat) (v:Int):(s.Qa5 i v).left=upd s.left i v:=rfl
@[simp] theorem S.Zf0 (s:S) (i:Nat) (v:Int):(s.Qa5 i v).right=s.right:=rfl
@[simp] theorem S.Zdm (s:S) (i:Nat) (v:Int):(s.Qa5 i v).turned=s.turned:=rfl
@[simp] theorem S.Zhy (s:S) (i:Nat) (v:Int):(s.Qa5 i v).size=s.size:=rfl
@[simp] theorem S.Zfi (s:S) (i:Nat) (v:Int):(s.Qa5 i v).value=s.value:=rfl
@[simp] theorem S.Zj7 (s:S) (i:Nat) (v:Int):(s.Qa5 i v).sum=s.sum:=rfl
@[simp] theorem S.Zgm (s:S) (i:Nat) (v:Int):(s.Qa5 i v).least=s.least:=rfl
@[simp] theorem S.Zim (s:S) (i:Nat) (v:Int):(s.Qa5 i v).most=s.most:=rfl
@[simp] theorem S.Zj4 (s:S) (i:Nat) (v:Int):(s.Qa3 i v).up=s.up:=rfl
@[simp] theorem S.Zgj (s:S) (i:Nat) (v:Int):(s.Qa3 i v).left=s.left:=rfl
@[simp] theorem S.Zdz (s:S) (i:Nat) (v:Int):(s.Qa3 i v).right=upd s.right i v:=rfl
@[simp] theorem S.Zc8 (s:S) (i:Nat) (v:Int):(s.Qa3 i v).turned=s.turned:=rfl
@[simp] theorem S.Zfr (s:S) (i:Nat) (v:Int):(s.Qa3 i v).size=s.size:=rfl
@[simp] theorem S.Zdh (s:S) (i:Nat) (v:Int):(s.Qa3 i v).value=s.value:=rfl
@[simp] theorem S.Zhu (s:S) (i:Nat) (v:Int):(s.Qa3 i v).sum=s.sum:=rfl
@[simp] theorem S.Zeo (s:S) (i:Nat) (v:Int):(s.Qa3 i v).least=s.least:=rfl
@[simp] theorem S.Zgc (s:S) (i:Nat) (v:Int):(s.Qa3 i v).most=s.most:=rfl
@[simp] theorem S.Zhn (s:S) (i:Nat) (v:Bool):(s.Qa9 i v).up=s.up:=rfl
@[simp] theorem S.Zem (s:S) (i:Nat) (v:Bool):(s.Qa9 i v).left=s.left:=rfl
@[simp] theorem S.Zda (s:S) (i:Nat) (v:Bool):(s.Qa9 i v).right=s.right:=rfl
@[simp] theorem S.Q03 (s:S) (i:Nat) (v:Bool):(s.Qa9 i v).turned=upd s.turned i v:=rfl
@[simp] theorem S.Zdp (s:S) (i:Nat) (v:Bool):(s.Qa9 i v).size=s.size:=rfl
@[simp] theorem S.Zc6 (s:S) (i:Nat) (v:Bool):(s.Qa9 i v).value=s.value:=rfl
@[simp] theorem S.Zfo (s:S) (i:Nat) (v:Bool):(s.Qa9 i v).sum=s.sum:=rfl
@[simp] theorem S.Zdb (s:S) (i:Nat) (v:Bool):(s.Qa9 i v).least=s.least:=rfl
@[simp] theorem S.Zei (s:S) (i:Nat) (v:Bool):(s.Qa9 i v).most=s.most:=rfl
@[simp] theorem S.Zkg (s:S) (i:Nat) (v:Int):(s.Qc1 i v).up=s.up:=rfl
@[simp] theorem S.Ziy (s:S) (i:Nat) (v:Int):(s.Qc1 i v).left=s.left:=rfl
@[simp] theorem S.Zfy (s:S) (i:Nat) (v:Int):(s.Qc1 i v).right=s.right:=rfl
@[simp] theorem S.Zdk (s:S) (i:Nat) (v:Int):(s.Qc1 i v).turned=s.turned:=rfl
@[simp] theorem S.Q56 (s:S) (i:Nat) (v:Int):(s.Qc1 i v).size=upd s.size i v:=rfl
@[simp] theorem S.Zfg (s:S) (i:Nat) (v:Int):(s.Qc1 i v).value=s.value:=rfl
@[simp] theorem S.Zj6 (s:S) (i:Nat) (v:Int):(s.Qc1 i v).sum=s.sum:=rfl
@[simp] theorem S.Zgl (s:S) (i:Nat) (v:Int):(s.Qc1 i v).least=s.least:=rfl
@[simp] theorem S.Zil (s:S) (i:Nat) (v:Int):(s.Qc1 i v).most=s.most:=rfl
@[simp] theorem S.Zj3 (s:S) (i:Nat) (v:Int):(s.Qbk i v).up=s.up:=rfl
@[simp] theorem S.Zgi (s:S) (i:Nat) (v:Int):(s.Qbk i v).left=s.left:=rfl
@[simp] theorem S.Zdy (s:S) (i:Nat) (v:Int):(s.Qbk i v).right=s.right:=rfl
@[simp] theorem S.Zc7 (s:S) (i:Nat) (v:Int):(s.Qbk i v).turned=s.turned:=rfl
@[simp] theorem S.Zfq (s:S) (i:Nat) (v:Int):(s.Qbk i v).size=s.size:=rfl
@[simp] theorem S.Zdg (s:S) (i:Nat) (v:Int):(s.Qbk i v).value=upd s.value i v:=rfl
@[simp] theorem S.Zht (s:S) (i:Nat) (v:Int):(s.Qbk i v).sum=s.sum:=rfl
@[simp] theorem S.Zen (s:S) (i:Nat) (v:Int):(s.Qbk i v).least=s.least:=rfl
@[simp] theorem S.Zgb (s:S) (i:Nat) (v:Int):(s.Qbk i v).most=s.most:=rfl
@[simp] theorem S.Zmk (s:S) (i:Nat) (v:Int):(s.Qgy i v).up=s.up:=rfl
@[simp] theorem S.Zj9 (s:S) (i:Nat) (v:Int):(s.Qgy i v).left=s.left:=rfl
@[simp] theorem S.Zh8 (s:S) (i:Nat) (v:Int):(s.Qgy i v).right=s.right:=rfl
@[simp] theorem S.Zfn (s:S) (i:Nat) (v:Int):(s.Qgy i v).turned=s.turned:=rfl
@[simp] theorem S.Q9b (s:S) (i:Nat) (v:Int):(s.Qgy i v).size=s.size:=rfl
@[simp] theorem S.Zhm (s:S) (i:Nat) (v:Int):(s.Qgy i v).value=s.value:=rfl
@[simp] theorem S.Q97 (s:S) (i:Nat) (v:Int):(s.Qgy i v).sum=upd s.sum i v:=rfl
@[simp] theorem S.Zi1 (s:S) (i:Nat) (v:Int):(s.Qgy i v).least=s.least:=rfl
@[simp] theorem S.Zj8 (s:S) (i:Nat) (v:Int):(s.Qgy i v).most=s.most:=rfl
@[simp] theorem S.Zj5 (s:S) (i:Nat) (v:Int):(s.Qbz i v).up=s.up:=rfl
@[simp] theorem S.Zgk (s:S) (i:Nat) (v:Int):(s.Qbz i v).left=s.left:=rfl
@[simp] theorem S.Zd0 (s:S) (i:Nat) (v:Int):(s.Qbz i v).right=s.right:=rfl
@[simp] theorem S.Zc9 (s:S) (i:Nat) (v:Int):(s.Qbz i v).turned=s.turned:=rfl
@[simp] theorem S.Q46 (s:S) (i:Nat) (v:Int):(s.Qbz i v).size=s.size:=rfl
@[simp] theorem S.Zdi (s:S) (i:Nat) (v:Int):(s.Qbz i v).value=s.value:=rfl
@[simp] theorem S.Q51 (s:S) (i:Nat) (v:Int):(s.Qbz i v).sum=s.sum:=rfl
@[simp] theorem S.Q4d (s:S) (i:Nat) (v:Int):(s.Qbz i v).least=upd s.least i v:=rfl
@[simp] theorem S.Zgd (s:S) (i:Nat) (v:Int):(s.Qbz i v).most=s.most:=rfl
@[simp] theorem S.Zkh (s:S) (i:Nat) (v:Int):(s.Qc2 i v).up=s.up:=rfl
@[simp] theorem S.Ziz (s:S) (i:Nat) (v:Int):(s.Qc2 i v).left=s.left:=rfl
@[simp] theorem S.Zfz (s:S) (i:Nat) (v:Int):(s.Qc2 i v).right=s.right:=rfl
@[simp] theorem S.Zdl (s:S) (i:Nat) (v:Int):(s.Qc2 i v).turned=s.turned:=rfl
@[simp] theorem S.Q57 (s:S) (i:Nat) (v:Int):(s.Qc2 i v).size=s.size:=rfl
@[simp] theorem S.Zfh (s:S) (i:Nat) (v:Int):(s.Qc2 i v).value=s.value:=rfl
@[simp] theorem S.Q88 (s:S) (i:Nat) (v:Int):(s.Qc2 i v).sum=s.sum:=rfl
@[simp] theorem S.Q5c (s:S) (i:Nat) (v:Int):(s.Qc2 i v).least=s.least:=rfl
@[simp] theorem S.Q6i (s:S) (i:Nat) (v:Int):(s.Qc2 i v).most=upd s.most i v:=rfl
def encS (s:S) (i:Nat):List Value:=[.int .i32 (s.up i),.int .i32 (s.left i),.int .i32 (s.right i),.bool (s.turned i),.int .i32 (s.size i),.int .i64 (s.value i),.int .i64 (s.sum i),.int .i64 (s.least i),.int .i64 (s.most i)]
theorem Q0t (s:S) (i:Nat):(encS s i).length=9:=rfl
theorem projS:(∀(s:S) (i:Nat) (v:Int),(s.w_up i v).up=upd s.up i v)∧(∀(s:S) (i:Nat) (v:Int),(s.w_up i v).left=s.left)∧(∀(s:S) (i:Nat) (v:Int),(s.w_up i v).right=s.right)∧(∀(s:S) (i:Nat) (v:Int),(s.w_up i v).turned=s.turned)∧(∀(s:S) (i:Nat) (v:Int),(s.w_up i v).size=s.size)∧(∀(s:S) (i:Nat) (v:Int),(s.w_up i v).value=s.value)∧(∀(s:S) (i:Nat) (v:Int),(s.w_up i v).sum=s.sum)∧(∀(s:S) (i:Nat) (v:Int),(s.w_up i v).least=s.least)∧(∀(s:S) (i:Nat) (v:Int),(s.w_up i v).most=s.most)∧(∀(s:S) (i:Nat) (v:Int),(s.Qa5 i v).up=s.up)∧(∀(s:S) (i:Nat) (v:Int),(s.Qa5 i v).left=upd s.left i v)∧(∀(s:S) (i:Nat) (v:Int),(s.Qa5 i v).right=s.right)∧(∀(s:S) (i:Nat) (v:Int),(s.Qa5 i v).turned=s.turned)∧(∀(s:S) (i:Nat) (v:Int),(s.Qa5 i v).size=s.size)∧(∀(s:S) (i:Nat) (v:Int),(s.Qa5 i v).value=s.value)∧(∀(s:S) (i:Nat) (v:Int),(s.Qa5 i v).sum=s.sum)∧(∀(s:S) (i:Nat) (v:Int),(s.Qa5 i v).least=s.least)∧(∀(s:S) (i:Nat) (v:Int),(s.Qa5 i v).most=s.most)∧(∀(s:S) (i:Nat) (v:Int),(s.Qa3 i v).up=s.up)∧(∀(s:S) (i:Nat) (v:Int),(s.Qa3 i v).left=s.left)∧(∀(s:S) (i:Nat) (v:Int),(s.Qa3 i v).right=upd s.right i v)∧(∀(s:S) (i:Nat) (v:Int),(s.Qa3 i v).turned=s.turned)∧(∀(s:S) (i:Nat) (v:Int),(s.Qa3 i v).size=s.size)∧(∀(s:S) (i:Nat) (v:Int),(s.Qa3 i v).value=s.value)∧(∀(s:S) (i:Nat) (v:Int),(s.Qa3 i v).sum=s.sum)∧(∀(s:S) (i:Nat) (v:Int),(s.Qa3 i v).least=s.least)∧(∀(s:S) (i:Nat) (v:Int),(s.Qa3 i v).most=s.most)∧(∀(s:S) (i:Nat) (v:Bool),(s.Qa9 i v).up=s.up)∧(∀(s:S) (i:Nat) (v:Bool),(s.Qa9 i v).left=s.left)∧(∀(s:S) (i:Nat) (v:Bool),(s.Qa9 i v).right=s.right)∧(∀(s:S) (i:Nat) (v:Bool),(s.Qa9 i v).turned=upd s.turned i v)∧(∀(s:S) (i:Nat) (v:Bool),(s.Qa9 i v).size=s.size)∧(∀(s:S) (i:Nat) (v:Bool),(s.Qa9 i v).value=s.value)∧(∀(s:S) (i:Nat) (v:Bool),(s.Qa9 i v).sum=s.sum)∧(∀(s:S) (i:Nat) (v:Bool),(s.Qa9 i v).least=s.least)∧(∀(s:S) (i:Nat) (v:Bool),(s.Qa9 i v).most=s.most)∧(∀(s:S) (i:Nat) (v:Int),(s.Qc1 i v).up=s.up)∧(∀(s:S) (i:Nat) (v:Int),(s.Qc1 i v).left=s.left)∧(∀(s:S) (i:Nat) (v:Int),(s.Qc1 i v).right=s.right)∧(∀(s:S) (i:Nat) (v:Int),(s.Qc1 i v).turned=s.turned)∧(∀(s:S) (i:Nat) (v:Int),(s.Qc1 i v).size=upd s.size i v)∧(∀(s:S) (i:Nat) (v:Int),(s.Qc1 i v).value=s.value)∧(∀(s:S) (i:Nat) (v:Int),(s.Qc1 i v).sum=s.sum)∧(∀(s:S) (i:Nat) (v:Int),(s.Qc1 i v).least=s.least)∧(∀(s:S) (i:Nat) (v:Int),(s.Qc1 i v).most=s.most)∧(∀(s:S) (i:Nat) (v:Int),(s.Qbk i v).up=s.up)∧(∀(s:S) (i:Nat) (v:Int),(s.Qbk i v).left=s.left)∧(∀(s:S) (i:Nat) (v:Int),(s.Qbk i v).right=s.right)∧(∀(s:S) (i:Nat) (v:Int),(s.Qbk i v).turned=s.turned)∧(∀(s:S) (i:Nat) (v:Int),(s.Qbk i v).size=s.size)∧(∀(s:S) (i:Nat) (v:Int),(s.Qbk i v).value=upd s.value i v)∧(∀(s:S) (i:Nat) (v:Int),(s.Qbk i v).sum=s.sum)∧(∀(s:S) (i:Nat) (v:Int),(s.Qbk i v).least=s.least)∧(∀(s:S) (i:Nat) (v:Int),(s.Qbk i v).most=s.most)∧(∀(s:S) (i:Nat) (v:Int),(s.Qgy i v).up=s.up)∧(∀(s:S) (i:Nat) (v:Int),(s.Qgy i v).left=s.left)∧(∀(s:S) (i:Nat) (v:Int),(s.Qgy i v).right=s.right)∧(∀(s:S) (i:Nat) (v:Int),(s.Qgy i v).turned=s.turned)∧(∀(s:S) (i:Nat) (v:Int),(s.Qgy i v).size=s.size)∧(∀(s:S) (i:Nat) (v:Int),(s.Qgy i v).value=s.value)∧(∀(s:S) (i:Nat) (v:Int),(s.Qgy i v).sum=upd s.sum i v)∧(∀(s:S) (i:Nat) (v:Int),(s.Qgy i v).least=s.least)∧(∀(s:S) (i:Nat) (v:Int),(s.Qgy i v).most=s.most)∧(∀(s:S) (i:Nat) (v:Int),(s.Qbz i v).up=s.up)∧(∀(s:S) (i:Nat) (v:Int),(s.Qbz i v).left=s.left)∧(∀(s:S) (i:Nat) (v:Int),(s.Qbz i v).right=s.right)∧(∀(s:S) (i:Nat) (v:Int),(s.Qbz i v).turned=s.turned)∧(∀(s:S) (i:Nat) (v:Int),(s.Qbz i v).size=s.size)∧(∀(s:S) (i:Nat) (v:Int),(s.Qbz i v).value=s.value)∧(∀(s:S) (i:Nat) (v:Int),(s.Qbz i v).sum=s.sum)∧(∀(s:S) (i:Nat) (v:Int),(s.Qbz i v).least=upd s.least i v)∧(∀(s:S) (i:Nat) (v:Int),(s.Qbz i v).most=s.most)∧(∀(s:S) (i:Nat) (v:Int),(s.Qc2 i v).up=s.up)∧(∀(s:S) (i:Nat) (v:Int),(s.Qc2 i v).left=s.left)∧(∀(s:S) (i:Nat) (v:Int),(s.Qc2 i v).right=s.right)∧(∀(s:S) (i:Nat) (v:Int),(s.Qc2 i v).turned=s.turned)∧(∀(s:S) (i:Nat) (v:Int),(s.Qc2 i v).size=s.size)∧(∀(s:S) (i:Nat) (v:Int),(s.Qc2 i v).value=s.value)∧(∀(s:S) (i:Nat) (v:Int),(s.Qc2 i v).sum=s.sum)∧(∀(s:S) (i:Nat) (v:Int),(s.Qc2 i v).least=s.least)∧(∀(s:S) (i:Nat) (v:Int),(s.Qc2 i v).most=upd s.most i v):=⟨fun _ _ _=>rfl,fun _ _ _=>rfl,fun _ _ _=>rfl,fun _ _ _=>rfl,fun _ _ _=>rfl,fun _ _ _=>rfl,fun _ _ _=>rfl,fun _ _ _=>rfl,fun _ _ _=>rfl,fun _ _ _=>rfl,fun _ _ _=>rfl,fun _ _ _=>rfl,fun _ _ _=>rfl,fun _ _ _=>rfl,fun _ _ _=>rfl,fun _ _ _=>rfl,fun _ _ _=>rfl,fun _ _ _=>rfl,fun _ _ _=>rfl,fun _ _ _=>rfl,fun _ _ _=>rfl,fun _ _ _=>rfl,fun _ _ _=>rfl,fun _ _ _=>rfl,fun _ _ _=>rfl,fun _ _ _=>rfl,fun _ _ _=>rfl,fun _ _ _=>rfl,fun _ _ _=>rfl,fun _ _ _=>rfl,fun _ _ _=>rfl,fun _ _ _=>rfl,fun _ _ _=>rfl,fun _ _ _=>rfl,fun _ _ _=>rfl,fun _ _ _=>rfl,fun _ _ _=>rfl,fun _ _ _=>rfl,fun _ _ _=>rfl,fun _ _ _=>rfl,fun _ _ _=>rfl,fun _ _ _=>rfl,fun _ _ _=>rfl,fun _ _ _=>rfl,fun _ _ _=>rfl,fun _ _ _=>rfl,fun _ _ _=>rfl,fun _ _ _=>rfl,fun _ _ _=>rfl,fun _ _ _=>rfl,fun _ _ _=>rfl,fun _ _ _=>rfl,fun _ _ _=>rfl,fun _ _ _=>rfl,fun _ _ _=>rfl,fun _ _ _=>rfl,fun _ _ _=>rfl,fun _ _ _=>rfl,fun _ _ _=>rfl,fun _ _ _=>rfl,fun _ _ _=>rfl,fun _ _ _=>rfl,fun _ _ _=>rfl,fun _ _ _=>rfl,fun _ _ _=>rfl,fun _ _ _=>rfl,fun _ _ _=>rfl,fun _ _ _=>rfl,fun _ _ _=>rfl,fun _ _ _=>rfl,fun _ _ _=>rfl,fun _ _ _=>rfl,fun _ _ _=>rfl,fun _ _ _=>rfl,fun _ _ _=>rfl,fun _ _ _=>rfl,fun _ _ _=>rfl,fun _ _ _=>rfl,fun _ _ _=>rfl,fun _ _ _=>rfl,fun _ _ _=>rfl⟩
structure IsF (h:Array Obj) (F L n:Nat) (s:S):Prop where
 f:Row h F 380 [.slice (some ⟨L,0,none⟩) n n]
 l:Row h L 377 (recs (encS s) n)
 ne:F≠L
structure St (w₀ w:World) (F L n:Nat) (s:S):Prop where
 i:IsF w.heap F L n s
 c:Chg (·=L) w₀ w
 lt:F<w₀.heap.size∧L<w₀.heap.size
section
variable {w₀ w:World} {F L n:Nat} {s:S}
theorem St.drew (h:St w₀ w F L n s):St w₀ w.drew F L n s:=⟨h.i,h.c.drew,h.lt⟩
theorem stf {p:Prop} (h:p:=by first | assumption | exact St.drew (by assumption) | exact St.drew (St.drew (by assumption)) | exact St.drew (St.drew (St.drew (by assumption)))):p:=h
theorem St.start (h:IsF w.heap F L n s):St w w F L n s:=⟨h,Chg.refl _ _,h.f.lt,h.l.lt⟩
theorem IsF.alloc (h:IsF w.heap F L n s) (o:Obj):IsF (w.alloc o).heap F L n s:=⟨h.f.alloc o,h.l.alloc o,h.ne⟩
theorem St.alloc (h:St w₀ w F L n s) (o:Obj):St w₀ (w.alloc o) F L n s:=⟨h.i.alloc o,h.c.alloc o,h.lt⟩
theorem St.trans {w':World} {t:S} (h:St w₀ w F L n s) (k:St w w' F L n t):St w₀ w' F L n t:=⟨k.i,h.c.trans k.c,h.lt⟩
theorem IsF.chg {w w':World} (h:IsF w.heap F L n s) {T:Nat→Prop} (c:Chg T w w') (hF:¬T F) (hL:¬T L):IsF w'.heap F L n s:=⟨c.row hF h.f,c.row hL h.l,h.ne⟩
theorem St.own {w':World} (h:St w₀ w F L n s) (k:Chg (w₀.heap.size≤·) w w'):St w₀ w' F L n s:=
 ⟨h.i.chg k (by have:=h.lt.1;omega) (by have:=h.lt.2;omega),h.c.trans' k (fun i hi=>.inr hi),h.lt⟩
theorem Qdx {K:Option Addr→Nat→Nat→Prop} (h:St w₀ w F L n s) (k:K (some ⟨L,0,none⟩) n n):ldS ⟨F,0,none⟩ w K:=Qai h.i.f rfl k
theorem Qa1 {i:Int} {K:Addr→Prop} (h0:0≤i) (h1:i<n) (k:K ⟨L,i.toNat*9,none⟩):ixS (some ⟨L,0,none⟩) n i 9 K:=Qwi h0 h1 (by rw [Nat.zero_add];exact k)
theorem St.cell (h:St w₀ w F L n s) {i k:Nat} (hi:i<n) (hk:k<9):w.cell? ⟨L,i*9+k,none⟩=(encS s i)[k]?:=by
 rw [h.i.l.cell,Qdb (encS s) (Q0t s) hi hk]
theorem St.set (h:St w₀ w F L n s) {t:S} {i k:Nat} (hi:i<n) (hk:k<9) {v:Value} (ho:∀j,j≠i→encS t j=encS s j) (hx:encS t i=(encS s i).set k v):St w₀ (w.setCell ⟨L,i*9+k,none⟩ v) F L n t:=
 ⟨⟨h.i.f.Qdk _ _ (fun e=>h.i.ne e.symm),by rw [←Qca (encS s) (Q0t s) hi hk ho hx];exact h.i.l.set _ _,h.i.ne⟩,h.c.setCell _ _ (.inl rfl),h.lt⟩
theorem Qyt {i:Int} {K:Int→Prop} (h:St w₀ w F L n s) (h1:i.toNat<n) (k:K (s.up i.toNat)):ldI .i32 (Addr.mk L (i.toNat*9) none) w K:=by
 have e:(Addr.mk L (i.toNat*9) none)=Addr.mk L (i.toNat*9+0) none:=rfl
 rw [e]
 exact ⟨_,h.cell h1 (by decide:0<9),k⟩
theorem Qwd {i:Int} {v:Int} {K:World→Prop} (h:St w₀ w F L n s) (h1:i.toNat<n) (k:∀w',St w₀ w' F L n (s.w_up i.toNat v)→K w'):sto (Addr.mk L (i.toNat*9) none) (.int .i32 v) w K:=by
 have e:(Addr.mk L (i.toNat*9) none)=Addr.mk L (i.toNat*9+0) none:=rfl
 rw [e]
 exact ⟨rfl,⟨_,h.cell h1 (by decide:0<9)⟩,h.i.l.frozen _,k _ (h.set h1 (by decide) (fun j hj=>by simp [encS,Qag _ _ hj]) (by simp [encS,Qab]))⟩
theorem Qsy {i:Int} {K:Int→Prop} (h:St w₀ w F L n s) (h1:i.toNat<n) (k:K (s.left i.toNat)):ldI .i32 ((Addr.mk L (i.toNat*9) none).add 1) w K:=by
 have e:((Addr.mk L (i.toNat*9) none).add 1)=Addr.mk L (i.toNat*9+1) none:=Qad _ _ _
 rw [e]
 exact ⟨_,h.cell h1 (by decide:1<9),k⟩
theorem Qsc {i:Int} {v:Int} {K:World→Prop} (h:St w₀ w F L n s) (h1:i.toNat<n) (k:∀w',St w₀ w' F L n (s.Qa5 i.toNat v)→K w'):sto ((Addr.mk L (i.toNat*9) none).add 1) (.int .i32 v) w K:=by
 have e:((Addr.mk L (i.toNat*9) none).add 1)=Addr.mk L (i.toNat*9+1) none:=Qad _ _ _
 rw [e]
 exact ⟨rfl,⟨_,h.cell h1 (by decide:1<9)⟩,h.i.l.frozen _,k _ (h.set h1 (by decide) (fun j hj=>by simp [encS,Qag _ _ hj]) (by simp [encS,Qab]))⟩
theorem Qnw {i:Int} {K:Int→Prop} (h:St w₀ w F L n s) (h1:i.toNat<n) (k:K (s.right i.toNat)):ldI .i32 ((Addr.mk L (i.toNat*9) none).add 2) w K:=by
 have e:((Addr.mk L (i.toNat*9) none).add 2)=Addr.mk L (i.toNat*9+2) none:=Qad _ _ _
 rw [e]
 exact ⟨_,h.cell h1 (by decide:2<9),k⟩
theorem Qmt {i:Int} {v:Int} {K:World→Prop} (h:St w₀ w F L n s) (h1:i.toNat<n) (k:∀w',St w₀ w' F L n (s.Qa3 i.toNat v)→K w'):sto ((Addr.mk L (i.toNat*9) none).add 2) (.int .i32 v) w K:=by
 have e:((Addr.mk L (i.toNat*9) none).add 2)=Addr.mk L (i.toNat*9+2) none:=Qad _ _ _
 rw [e]
 exact ⟨rfl,⟨_,h.cell h1 (by decide:2<9)⟩,h.i.l.frozen _,k _ (h.set h1 (by decide) (fun j hj=>by simp [encS,Qag _ _ hj]) (by simp [encS,Qab]))⟩
theorem Qlx {i:Int} {K:Bool→Prop} (h:St w₀ w F L n s) (h1:i.toNat<n) (k:K (s.turned i.toNat)):ldB ((Addr.mk L (i.toNat*9) none).add 3) w K:=by
 have e:((Addr.mk L (i.toNat*9) none).add 3)=Addr.mk L (i.toNat*9+3) none:=Qad _ _ _
 rw [e]
 exact ⟨_,h.cell h1 (by decide:3<9),k⟩
theorem Qw9 {i:Int} {v:Bool} {K:World→Prop} (h:St w₀ w F L n s) (h1:i.toNat<n) (k:∀w',St w₀ w' F L n (s.Qa9 i.toNat v)→K w'):sto ((Addr.mk L (i.toNat*9) none).add 3) (.bool v) w K:=by
 have e:((Addr.mk L (i.toNat*9) none).add 3)=Addr.mk L (i.toNat*9+3) none:=Qad _ _ _
 rw [e]
 exact ⟨rfl,⟨_,h.cell h1 (by decide:3<9)⟩,h.i.l.frozen _,k _ (h.set h1 (by decide) (fun j hj=>by simp [encS,Qag _ _ hj]) (by simp [encS,Qab]))⟩
theorem Qsw {i:Int} {K:Int→Prop} (h:St w₀ w F L n s) (h1:i.toNat<n) (k:K (s.size i.toNat)):ldI .i32 ((Addr.mk L (i.toNat*9) none).add 4) w K:=by
 have e:((Addr.mk L (i.toNat*9) none).add 4)=Addr.mk L (i.toNat*9+4) none:=Qad _ _ _
 rw [e]
 exact ⟨_,h.cell h1 (by decide:4<9),k⟩
theorem Q53 {i:Int} {v:Int} {K:World→Prop} (h:St w₀ w F L n s) (h1:i.toNat<n) (k:∀w',St w₀ w' F L n (s.Qc1 i.toNat v)→K w'):sto ((Addr.mk L (i.toNat*9) none).add 4) (.int .i32 v) w K:=by
 have e:((Addr.mk L (i.toNat*9) none).add 4)=Addr.mk L (i.toNat*9+4) none:=Qad _ _ _
 rw [e]
 exact ⟨rfl,⟨_,h.cell h1 (by decide:4<9)⟩,h.i.l.frozen _,k _ (h.set h1 (by decide) (fun j hj=>by simp [encS,Qag _ _ hj]) (by simp [encS,Qab]))⟩
theorem Quy {i:Int} {K:Int→Prop} (h:St w₀ w F L n s) (h1:i.toNat<n) (k:K (s.value i.toNat)):ldI .i64 ((Addr.mk L (i.toNat*9) none).add 5) w K:=by
 have e:((Addr.mk L (i.toNat*9) none).add 5)=Addr.mk L (i.toNat*9+5) none:=Qad _ _ _
 rw [e]
 exact ⟨_,h.cell h1 (by decide:5<9),k⟩
theorem Q0l {i:Int} {v:Int} {K:World→Prop} (h:St w₀ w F L n s) (h1:i.toNat<n) (k:∀w',St w₀ w' F L n (s.Qbk i.toNat v)→K w'):sto ((Addr.mk L (i.toNat*9) none).add 5) (.int .i64 v) w K:=by
 have e:((Addr.mk L (i.toNat*9) none).add 5)=Addr.mk L (i.toNat*9+5) none:=Qad _ _ _
 rw [e]
 exact ⟨rfl,⟨_,h.cell h1 (by decide:5<9)⟩,h.i.l.frozen _,k _ (h.set h1 (by decide) (fun j hj=>by simp [encS,Qag _ _ hj]) (by simp [encS,Qab]))⟩
theorem Q1m {i:Int} {K:Int→Prop} (h:St w₀ w F L n s) (h1:i.toNat<n) (k:K (s.sum i.toNat)):ldI .i64 ((Addr.mk L (i.toNat*9) none).add 6) w K:=by
 have e:((Addr.mk L (i.toNat*9) none).add 6)=Addr.mk L (i.toNat*9+6) none:=Qad _ _ _
 rw [e]
 exact ⟨_,h.cell h1 (by decide:6<9),k⟩
theorem Q98 {i:Int} {v:Int} {K:World→Prop} (h:St w₀ w F L n s) (h1:i.toNat<n) (k:∀w',St w₀ w' F L n (s.Qgy i.toNat v)→K w'):sto ((Addr.mk L (i.toNat*9) none).add 6) (.int .i64 v) w K:=by
 have e:((Addr.mk L (i.toNat*9) none).add 6)=Addr.mk L (i.toNat*9+6) none:=Qad _ _ _
 rw [e]
 exact ⟨rfl,⟨_,h.cell h1 (by decide:6<9)⟩,h.i.l.frozen _,k _ (h.set h1 (by decide) (fun j hj=>by simp [encS,Qag _ _ hj]) (by simp [encS,Qab]))⟩
theorem Qnx {i:Int} {K:Int→Prop} (h:St w₀ w F L n s) (h1:i.toNat<n) (k:K (s.least i.toNat)):ldI .i64 ((Addr.mk L (i.toNat*9) none).add 7) w K:=by
 have e:((Addr.mk L (i.toNat*9) none).add 7)=Addr.mk L (i.toNat*9+7) none:=Qad _ _ _
 rw [e]
 exact ⟨_,h.cell h1 (by decide:7<9),k⟩
theorem Q3o {i:Int} {v:Int} {K:World→Prop} (h:St w₀ w F L n s) (h1:i.toNat<n) (k:∀w',St w₀ w' F L n (s.Qbz i.toNat v)→K w'):sto ((Addr.mk L (i.toNat*9) none).add 7) (.int .i64 v) w K:=by
 have e:((Addr.mk L (i.toNat*9) none).add 7)=Addr.mk L (i.toNat*9+7) none:=Qad _ _ _
 rw [e]
 exact ⟨rfl,⟨_,h.cell h1 (by decide:7<9)⟩,h.i.l.frozen _,k _ (h.set h1 (by decide) (fun j hj=>by simp [encS,Qag _ _ hj]) (by simp [encS,Qab]))⟩
theorem Qsx {i:Int} {K:Int→Prop} (h:St w₀ w F L n s) (h1:i.toNat<n) (k:K (s.most i.toNat)):ldI .i64 ((Addr.mk L (i.toNat*9) none).add 8) w K:=by
 have e:((Addr.mk L (i.toNat*9) none).add 8)=Addr.mk L (i.toNat*9+8) none:=Qad _ _ _
 rw [e]
 exact ⟨_,h.cell h1 (by decide:8<9),k⟩
theorem Q54 {i:Int} {v:Int} {K:World→Prop} (h:St w₀ w F L n s) (h1:i.toNat<n) (k:∀w',St w₀ w' F L n (s.Qc2 i.toNat v)→K w'):sto ((Addr.mk L (i.toNat*9) none).add 8) (.int .i64 v) w K:=by
 have e:((Addr.mk L (i.toNat*9) none).add 8)=Addr.mk L (i.toNat*9+8) none:=Qad _ _ _
 rw [e]
 exact ⟨rfl,⟨_,h.cell h1 (by decide:8<9)⟩,h.i.l.frozen _,k _ (h.set h1 (by decide) (fun j hj=>by simp [encS,Qag _ _ hj]) (by simp [encS,Qab]))⟩
theorem gF {K:Option Addr→Nat→Nat→Prop} (k:K (some ⟨L,0,none⟩) n n) (h:St w₀ w F L n s:=by exact stf):ldS ⟨F,0,none⟩ w K:=Qdx h k
theorem g0 {i:Int} {K:Int→Prop} (k:K (s.up i.toNat)) (h:St w₀ w F L n s:=by exact stf) (h1:i.toNat<n:=by omega):ldI .i32 (Addr.mk L (i.toNat*9) none) w K:=Qyt h h1 k
theorem s0 {i:Int} {v:Int} {K:World→Prop} (k:∀w',St w₀ w' F L n (s.w_up i.toNat v)→K w') (h:St w₀ w F L n s:=by exact stf) (h1:i.toNat<n:=by omega):sto (Addr.mk L (i.toNat*9) none) (.int .i32 v) w K:=Qwd h h1 k
theorem g1 {i:Int} {K:Int→Prop} (k:K (s.left i.toNat)) (h:St w₀ w F L n s:=by exact stf) (h1:i.toNat<n:=by omega):ldI .i32 ((Addr.mk L (i.toNat*9) none).add 1) w K:=Qsy h h1 k
theorem s1 {i:Int} {v:Int} {K:World→Prop} (k:∀w',St w₀ w' F L n (s.Qa5 i.toNat v)→K w') (h:St w₀ w F L n s:=by exact stf) (h1:i.toNat<n:=by omega):sto ((Addr.mk L (i.toNat*9) none).add 1) (.int .i32 v) w K:=Qsc h h1 k
theorem g2 {i:Int} {K:Int→Prop} (k:K (s.right i.toNat)) (h:St w₀ w F L n s:=by exact stf) (h1:i.toNat<n:=by omega):ldI .i32 ((Addr.mk L (i.toNat*9) none).add 2) w K:=Qnw h h1 k
theorem s2 {i:Int} {v:Int} {K:World→Prop} (k:∀w',St w₀ w' F L n (s.Qa3 i.toNat v)→K w') (h:St w₀ w F L n s:=by exact stf) (h1:i.toNat<n:=by omega):sto ((Addr.mk L (i.toNat*9) none).add 2) (.int .i32 v) w K:=Qmt h h1 k
theorem g3 {i:Int} {K:Bool→Prop} (k:K (s.turned i.toNat)) (h:St w₀ w F L n s:=by exact stf) (h1:i.toNat<n:=by omega):ldB ((Addr.mk L (i.toNat*9) none).add 3) w K:=Qlx h h1 k
theorem s3 {i:Int} {v:Bool} {K:World→Prop} (k:∀w',St w₀ w' F L n (s.Qa9 i.toNat v)→K w') (h:St w₀ w F L n s:=by exact stf) (h1:i.toNat<n:=by omega):sto ((Addr.mk L (i.toNat*9) none).add 3) (.bool v) w K:=Qw9 h h1 k
theorem g4 {i:Int} {K:Int→Prop} (k:K (s.size i.toNat)) (h:St w₀ w F L n s:=by exact stf) (h1:i.toNat<n:=by omega):ldI .i32 ((Addr.mk L (i.toNat*9) none).add 4) w K:=Qsw h h1 k
theorem s4 {i:Int} {v:Int} {K:World→Prop} (k:∀w',St w₀ w' F L n (s.Qc1 i.toNat v)→K w') (h:St w₀ w F L n s:=by exact stf) (h1:i.toNat<n:=by omega):sto ((Addr.mk L (i.toNat*9) none).add 4) (.int .i32 v) w K:=Q53 h h1 k
theorem g5 {i:Int} {K:Int→Prop} (k:K (s.value i.toNat)) (h:St w₀ w F L n s:=by exact stf) (h1:i.toNat<n:=by omega):ldI .i64 ((Addr.mk L (i.toNat*9) none).add 5) w K:=Quy h h1 k
theorem s5 {i:Int} {v:Int} {K:World→Prop} (k:∀w',St w₀ w' F L n (s.Qbk i.toNat v)→K w') (h:St w₀ w F L n s:=by exact stf) (h1:i.toNat<n:=by omega):sto ((Addr.mk L (i.toNat*9) none).add 5) (.int .i64 v) w K:=Q0l h h1 k
theorem g6 {i:Int} {K:Int→Prop} (k:K (s.sum i.toNat)) (h:St w₀ w F L n s:=by exact stf) (h1:i.toNat<n:=by omega):ldI .i64 ((Addr.mk L (i.toNat*9) none).add 6) w K:=Q1m h h1 k
theorem s6 {i:Int} {v:Int} {K:World→Prop} (k:∀w',St w₀ w' F L n (s.Qgy i.toNat v)→K w') (h:St w₀ w F L n s:=by exact stf) (h1:i.toNat<n:=by omega):sto ((Addr.mk L (i.toNat*9) none).add 6) (.int .i64 v) w K:=Q98 h h1 k
theorem g7 {i:Int} {K:Int→Prop} (k:K (s.least i.toNat)) (h:St w₀ w F L n s:=by exact stf) (h1:i.toNat<n:=by omega):ldI .i64 ((Addr.mk L (i.toNat*9) none).add 7) w K:=Qnx h h1 k
theorem s7 {i:Int} {v:Int} {K:World→Prop} (k:∀w',St w₀ w' F L n (s.Qbz i.toNat v)→K w') (h:St w₀ w F L n s:=by exact stf) (h1:i.toNat<n:=by omega):sto ((Addr.mk L (i.toNat*9) none).add 7) (.int .i64 v) w K:=Q3o h h1 k
theorem g8 {i:Int} {K:Int→Prop} (k:K (s.most i.toNat)) (h:St w₀ w F L n s:=by exact stf) (h1:i.toNat<n:=by omega):ldI .i64 ((Addr.mk L (i.toNat*9) none).add 8) w K:=Qsx h h1 k
theorem s8 {i:Int} {v:Int} {K:World→Prop} (k:∀w',St w₀ w' F L n (s.Qc2 i.toNat v)→K w') (h:St w₀ w F L n s:=by exact stf) (h1:i.toNat<n:=by omega):sto ((Addr.mk L (i.toNat*9) none).add 8) (.int .i64 v) w K:=Q54 h h1 k
end
end Seq
end Go.Proofs.YtfeekmmfdkfgmaaGreatDoor
