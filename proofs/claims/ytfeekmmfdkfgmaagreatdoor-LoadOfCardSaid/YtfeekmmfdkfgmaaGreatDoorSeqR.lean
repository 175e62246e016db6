/-
The sequences of layer 4 in memory: a Qck as a row of records; loads and stores of its fields.
Conditions: none of its own.
-/
import Derived.Test.YtfeekmmfdkfgmaaGreatDoorGMem
import Derived.Test.YtfeekmmfdkfgmaaGreatDoorSn
set_option linter.unusedVariables false
set_option linter.unusedSimpArgs false
namespace Go.Proofs.YtfeekmmfdkfgmaaGreatDoor
open Go
namespace Seq
@[ext] structure S where
 up:Nat→Int
 left:Nat→Int
 right:Nat→Int
 turned:Nat→Bool
 size:Nat→Int
 value:Nat→Int
 sum:Nat→Int
 least:Nat→Int
 most:Nat→Int
def S.w_up (s:S) (i:Nat) (v:Int):S:={s with up:=upd s.up i v}
def S.Qa2 (s:S) (i:Nat) (v:Int):S:={s with left:=upd s.left i v}
def S.Qa0 (s:S) (i:Nat) (v:Int):S:={s with right:=upd s.right i v}
def S.Qa5 (s:S) (i:Nat) (v:Bool):S:={s with turned:=upd s.turned i v}
def S.Qcp (s:S) (i:Nat) (v:Int):S:={s with size:=upd s.size i v}
def S.Qbg (s:S) (i:Nat) (v:Int):S:={s with value:=upd s.value i v}
def S.Qgi (s:S) (i:Nat) (v:Int):S:={s with sum:=upd s.sum i v}
def S.Qbt (s:S) (i:Nat) (v:Int):S:={s with least:=upd s.least i v}
def S.Qcq (s:S) (i:Nat) (v:Int):S:={s with most:=upd s.most i v}
@[simp] theorem S.Q11 (s:S) (i:Nat) (v:Int):(s.w_up i v).up=upd s.up i v:=rfl
@[simp] theorem S.Qwq (s:S) (i:Nat) (v:Int):(s.w_up i v).left=s.left:=rfl
@[simp] theorem S.Qt3 (s:S) (i:Nat) (v:Int):(s.w_up i v).right=s.right:=rfl
@[simp] theorem S.Zfi (s:S) (i:Nat) (v:Int):(s.w_up i v).turned=s.turned:=rfl
@[simp] theorem S.Zih (s:S) (i:Nat) (v:Int):(s.w_up i v).size=s.size:=rfl
@[simp] theorem S.Zhv (s:S) (i:Nat) (v:Int):(s.w_up i v).value=s.value:=rfl
@[simp] theorem S.sum_w_up (s:S) (i:Nat) (v:Int):(s.w_up i v).sum=s.sum:=rfl
@[simp] theorem S.Zh3 (s:S) (i:Nat) (v:Int):(s.w_up i v).least=s.least:=rfl
@[simp] theorem S.Zi2 (s:S) (i:Nat) (v:Int):(s.w_up i v).most=s.most:=rfl
@[simp] theorem S.Zia (s:S) (i:Nat) (v:Int):(s.Qa2 i v).up=s.up:=rfl
@[simp] theorem S.Zgs (s:S) (i:Nat) (v:Int):(s.Qa2 i v).left=upd s.left i v:=rfl
@[simp] theorem S.Zdz (s:S) (i:Nat) (v:Int):(s.Qa2 i v).right=s.right:=rfl
@[simp] theorem S.Zbk (s:S) (i:Nat) (v:Int):(s.Qa2 i v).turned=s.turned:=rfl
@[simp] theorem S.Zfs (s:S) (i:Nat) (v:Int):(s.Qa2 i v).size=s.size:=rfl
@[simp] theorem S.Zdf (s:S) (i:Nat) (v:Int):(s.Qa2 i v).value=s.value:=rfl
@[simp] theorem S.Zh0 (s:S) (i:Nat) (v:Int):(s.Qa2 i v).sum=s.sum:=rfl
@[simp] theorem S.Zel (s:S) (i:Nat) (v:Int):(s.Qa2 i v).least=s.least:=rfl
@[simp] theorem S.Zgg (s:S) (i:Nat) (v:Int):(s.Qa2 i v).most=s.most:=rfl
@[simp] theorem S.Zhx (s:S) (i:Nat) (v:Int):(s.Qa0 i v).up=s.up:=rfl
@[simp] theorem S.Zei (s:S) (i:Nat) (v:Int):(s.Qa0 i v).left=s.left:=rfl
@[simp] theorem S.Zbx (s:S) (i:Nat) (v:Int):(s.Qa0 i v).right=upd s.right i v:=rfl
@[simp] theorem S.Za7 (s:S) (i:Nat) (v:Int):(s.Qa0 i v).turned=s.turned:=rfl
@[simp] theorem S.Zdq (s:S) (i:Nat) (v:Int):(s.Qa0 i v).size=s.size:=rfl
@[simp] theorem S.Zbf (s:S) (i:Nat) (v:Int):(s.Qa0 i v).value=s.value:=rfl
@[simp] theorem S.Zfn (s:S) (i:Nat) (v:Int):(s.Qa0 i v).sum=s.sum:=rfl
@[simp] theorem S.Zch (s:S) (i:Nat) (v:Int):(s.Qa0 i v).least=s.least:=rfl
@[simp] theorem S.Zeb (s:S) (i:Nat) (v:Int):(s.Qa0 i v).most=s.most:=rfl
@[simp] theorem S.Zfg (s:S) (i:Nat) (v:Bool):(s.Qa5 i v).up=s.up:=rfl
@[simp] theorem S.Zcf (s:S) (i:Nat) (v:Bool):(s.Qa5 i v).left=s.left:=rfl
@[simp] theorem S.Za9 (s:S) (i:Nat) (v:Bool):(s.Qa5 i v).right=s.right:=rfl
@[simp] theorem S.Qzs (s:S) (i:Nat) (v:Bool):(s.Qa5 i v).turned=upd s.turned i v:=rfl
@[simp] theorem S.Zbo (s:S) (i:Nat) (v:Bool):(s.Qa5 i v).size=s.size:=rfl
@[simp] theorem S.Za5 (s:S) (i:Nat) (v:Bool):(s.Qa5 i v).value=s.value:=rfl
@[simp] theorem S.Zdl (s:S) (i:Nat) (v:Bool):(s.Qa5 i v).sum=s.sum:=rfl
@[simp] theorem S.Zba (s:S) (i:Nat) (v:Bool):(s.Qa5 i v).least=s.least:=rfl
@[simp] theorem S.Zcc (s:S) (i:Nat) (v:Bool):(s.Qa5 i v).most=s.most:=rfl
@[simp] theorem S.Zh8 (s:S) (i:Nat) (v:Int):(s.Qcp i v).up=s.up:=rfl
@[simp] theorem S.Zgq (s:S) (i:Nat) (v:Int):(s.Qcp i v).left=s.left:=rfl
@[simp] theorem S.Zdx (s:S) (i:Nat) (v:Int):(s.Qcp i v).right=s.right:=rfl
@[simp] theorem S.Zbi (s:S) (i:Nat) (v:Int):(s.Qcp i v).turned=s.turned:=rfl
@[simp] theorem S.Q4f (s:S) (i:Nat) (v:Int):(s.Qcp i v).size=upd s.size i v:=rfl
@[simp] theorem S.Zdd (s:S) (i:Nat) (v:Int):(s.Qcp i v).value=s.value:=rfl
@[simp] theorem S.Zhz (s:S) (i:Nat) (v:Int):(s.Qcp i v).sum=s.sum:=rfl
@[simp] theorem S.Zek (s:S) (i:Nat) (v:Int):(s.Qcp i v).least=s.least:=rfl
@[simp] theorem S.Zgf (s:S) (i:Nat) (v:Int):(s.Qcp i v).most=s.most:=rfl
@[simp] theorem S.Zhw (s:S) (i:Nat) (v:Int):(s.Qbg i v).up=s.up:=rfl
@[simp] theorem S.Zeh (s:S) (i:Nat) (v:Int):(s.Qbg i v).left=s.left:=rfl
@[simp] theorem S.Zbw (s:S) (i:Nat) (v:Int):(s.Qbg i v).right=s.right:=rfl
@[simp] theorem S.Za6 (s:S) (i:Nat) (v:Int):(s.Qbg i v).turned=s.turned:=rfl
@[simp] theorem S.Zdp (s:S) (i:Nat) (v:Int):(s.Qbg i v).size=s.size:=rfl
@[simp] theorem S.Zbe (s:S) (i:Nat) (v:Int):(s.Qbg i v).value=upd s.value i v:=rfl
@[simp] theorem S.Zfm (s:S) (i:Nat) (v:Int):(s.Qbg i v).sum=s.sum:=rfl
@[simp] theorem S.Zcg (s:S) (i:Nat) (v:Int):(s.Qbg i v).least=s.least:=rfl
@[simp] theorem S.Zea (s:S) (i:Nat) (v:Int):(s.Qbg i v).most=s.most:=rfl
@[simp] theorem S.up_w_sum (s:S) (i:Nat) (v:Int):(s.Qgi i v).up=s.up:=rfl
@[simp] theorem S.Zh2 (s:S) (i:Nat) (v:Int):(s.Qgi i v).left=s.left:=rfl
@[simp] theorem S.Zf2 (s:S) (i:Nat) (v:Int):(s.Qgi i v).right=s.right:=rfl
@[simp] theorem S.Zdk (s:S) (i:Nat) (v:Int):(s.Qgi i v).turned=s.turned:=rfl
@[simp] theorem S.Q7g (s:S) (i:Nat) (v:Int):(s.Qgi i v).size=s.size:=rfl
@[simp] theorem S.Zff (s:S) (i:Nat) (v:Int):(s.Qgi i v).value=s.value:=rfl
@[simp] theorem S.Q8b (s:S) (i:Nat) (v:Int):(s.Qgi i v).sum=upd s.sum i v:=rfl
@[simp] theorem S.Zgt (s:S) (i:Nat) (v:Int):(s.Qgi i v).least=s.least:=rfl
@[simp] theorem S.Zh1 (s:S) (i:Nat) (v:Int):(s.Qgi i v).most=s.most:=rfl
@[simp] theorem S.Zhy (s:S) (i:Nat) (v:Int):(s.Qbt i v).up=s.up:=rfl
@[simp] theorem S.Zej (s:S) (i:Nat) (v:Int):(s.Qbt i v).left=s.left:=rfl
@[simp] theorem S.Zby (s:S) (i:Nat) (v:Int):(s.Qbt i v).right=s.right:=rfl
@[simp] theorem S.Za8 (s:S) (i:Nat) (v:Int):(s.Qbt i v).turned=s.turned:=rfl
@[simp] theorem S.Q3e (s:S) (i:Nat) (v:Int):(s.Qbt i v).size=s.size:=rfl
@[simp] theorem S.Zbg (s:S) (i:Nat) (v:Int):(s.Qbt i v).value=s.value:=rfl
@[simp] theorem S.Q4a (s:S) (i:Nat) (v:Int):(s.Qbt i v).sum=s.sum:=rfl
@[simp] theorem S.Q2p (s:S) (i:Nat) (v:Int):(s.Qbt i v).least=upd s.least i v:=rfl
@[simp] theorem S.Zec (s:S) (i:Nat) (v:Int):(s.Qbt i v).most=s.most:=rfl
@[simp] theorem S.Zh9 (s:S) (i:Nat) (v:Int):(s.Qcq i v).up=s.up:=rfl
@[simp] theorem S.Zgr (s:S) (i:Nat) (v:Int):(s.Qcq i v).left=s.left:=rfl
@[simp] theorem S.Zdy (s:S) (i:Nat) (v:Int):(s.Qcq i v).right=s.right:=rfl
@[simp] theorem S.Zbj (s:S) (i:Nat) (v:Int):(s.Qcq i v).turned=s.turned:=rfl
@[simp] theorem S.Q4g (s:S) (i:Nat) (v:Int):(s.Qcq i v).size=s.size:=rfl
@[simp] theorem S.Zde (s:S) (i:Nat) (v:Int):(s.Qcq i v).value=s.value:=rfl
@[simp] theorem S.Q7d (s:S) (i:Nat) (v:Int):(s.Qcq i v).sum=s.sum:=rfl
@[simp] theorem S.Q3l (s:S) (i:Nat) (v:Int):(s.Qcq i v).least=s.least:=rfl
@[simp] theorem S.Q4p (s:S) (i:Nat) (v:Int):(s.Qcq i v).most=upd s.most i v:=rfl
def encS (s:S) (i:Nat):List Value:=[.int .i32 (s.up i),.int .i32 (s.left i),.int .i32 (s.right i),.bool (s.turned i),.int .i32 (s.size i),.int .i64 (s.value i),.int .i64 (s.sum i),.int .i64 (s.least i),.int .i64 (s.most i)]
theorem Qzj (s:S) (i:Nat):(encS s i).length=9:=rfl
theorem projS:(∀(s:S) (i:Nat) (v:Int),(s.w_up i v).up=upd s.up i v)∧(∀(s:S) (i:Nat) (v:Int),(s.w_up i v).left=s.left)∧(∀(s:S) (i:Nat) (v:Int),(s.w_up i v).right=s.right)∧(∀(s:S) (i:Nat) (v:Int),(s.w_up i v).turned=s.turned)∧(∀(s:S) (i:Nat) (v:Int),(s.w_up i v).size=s.size)∧(∀(s:S) (i:Nat) (v:Int),(s.w_up i v).value=s.value)∧(∀(s:S) (i:Nat) (v:Int),(s.w_up i v).sum=s.sum)∧(∀(s:S) (i:Nat) (v:Int),(s.w_up i v).least=s.least)∧(∀(s:S) (i:Nat) (v:Int),(s.w_up i v).most=s.most)∧(∀(s:S) (i:Nat) (v:Int),(s.Qa2 i v).up=s.up)∧(∀(s:S) (i:Nat) (v:Int),(s.Qa2 i v).left=upd s.left i v)∧(∀(s:S) (i:Nat) (v:Int),(s.Qa2 i v).right=s.right)∧(∀(s:S) (i:Nat) (v:Int),(s.Qa2 i v).turned=s.turned)∧(∀(s:S) (i:Nat) (v:Int),(s.Qa2 i v).size=s.size)∧(∀(s:S) (i:Nat) (v:Int),(s.Qa2 i v).value=s.value)∧(∀(s:S) (i:Nat) (v:Int),(s.Qa2 i v).sum=s.sum)∧(∀(s:S) (i:Nat) (v:Int),(s.Qa2 i v).least=s.least)∧(∀(s:S) (i:Nat) (v:Int),(s.Qa2 i v).most=s.most)∧(∀(s:S) (i:Nat) (v:Int),(s.Qa0 i v).up=s.up)∧(∀(s:S) (i:Nat) (v:Int),(s.Qa0 i v).left=s.left)∧(∀(s:S) (i:Nat) (v:Int),(s.Qa0 i v).right=upd s.right i v)∧(∀(s:S) (i:Nat) (v:Int),(s.Qa0 i v).turned=s.turned)∧(∀(s:S) (i:Nat) (v:Int),(s.Qa0 i v).size=s.size)∧(∀(s:S) (i:Nat) (v:Int),(s.Qa0 i v).value=s.value)∧(∀(s:S) (i:Nat) (v:Int),(s.Qa0 i v).sum=s.sum)∧(∀(s:S) (i:Nat) (v:Int),(s.Qa0 i v).least=s.least)∧(∀(s:S) (i:Nat) (v:Int),(s.Qa0 i v).most=s.most)∧(∀(s:S) (i:Nat) (v:Bool),(s.Qa5 i v).up=s.up)∧(∀(s:S) (i:Nat) (v:Bool),(s.Qa5 i v).left=s.left)∧(∀(s:S) (i:Nat) (v:Bool),(s.Qa5 i v).right=s.right)∧(∀(s:S) (i:Nat) (v:Bool),(s.Qa5 i v).turned=upd s.turned i v)∧(∀(s:S) (i:Nat) (v:Bool),(s.Qa5 i v).size=s.size)∧(∀(s:S) (i:Nat) (v:Bool),(s.Qa5 i v).value=s.value)∧(∀(s:S) (i:Nat) (v:Bool),(s.Qa5 i v).sum=s.sum)∧(∀(s:S) (i:Nat) (v:Bool),(s.Qa5 i v).least=s.least)∧(∀(s:S) (i:Nat) (v:Bool),(s.Qa5 i v).most=s.most)∧(∀(s:S) (i:Nat) (v:Int),(s.Qcp i v).up=s.up)∧(∀(s:S) (i:Nat) (v:Int),(s.Qcp i v).left=s.left)∧(∀(s:S) (i:Nat) (v:Int),(s.Qcp i v).right=s.right)∧(∀(s:S) (i:Nat) (v:Int),(s.Qcp i v).turned=s.turned)∧(∀(s:S) (i:Nat) (v:Int),(s.Qcp i v).size=upd s.size i v)∧(∀(s:S) (i:Nat) (v:Int),(s.Qcp i v).value=s.value)∧(∀(s:S) (i:Nat) (v:Int),(s.Qcp i v).sum=s.sum)∧(∀(s:S) (i:Nat) (v:Int),(s.Qcp i v).least=s.least)∧(∀(s:S) (i:Nat) (v:Int),(s.Qcp i v).most=s.most)∧(∀(s:S) (i:Nat) (v:Int),(s.Qbg i v).up=s.up)∧(∀(s:S) (i:Nat) (v:Int),(s.Qbg i v).left=s.left)∧(∀(s:S) (i:Nat) (v:Int),(s.Qbg i v).right=s.right)∧(∀(s:S) (i:Nat) (v:Int),(s.Qbg i v).turned=s.turned)∧(∀(s:S) (i:Nat) (v:Int),(s.Qbg i v).size=s.size)∧(∀(s:S) (i:Nat) (v:Int),(s.Qbg i v).value=upd s.value i v)∧(∀(s:S) (i:Nat) (v:Int),(s.Qbg i v).sum=s.sum)∧(∀(s:S) (i:Nat) (v:Int),(s.Qbg i v).least=s.least)∧(∀(s:S) (i:Nat) (v:Int),(s.Qbg i v).most=s.most)∧(∀(s:S) (i:Nat) (v:Int),(s.Qgi i v).up=s.up)∧(∀(s:S) (i:Nat) (v:Int),(s.Qgi i v).left=s.left)∧(∀(s:S) (i:Nat) (v:Int),(s.Qgi i v).right=s.right)∧(∀(s:S) (i:Nat) (v:Int),(s.Qgi i v).turned=s.turned)∧(∀(s:S) (i:Nat) (v:Int),(s.Qgi i v).size=s.size)∧(∀(s:S) (i:Nat) (v:Int),(s.Qgi i v).value=s.value)∧(∀(s:S) (i:Nat) (v:Int),(s.Qgi i v).sum=upd s.sum i v)∧(∀(s:S) (i:Nat) (v:Int),(s.Qgi i v).least=s.least)∧(∀(s:S) (i:Nat) (v:Int),(s.Qgi i v).most=s.most)∧(∀(s:S) (i:Nat) (v:Int),(s.Qbt i v).up=s.up)∧(∀(s:S) (i:Nat) (v:Int),(s.Qbt i v).left=s.left)∧(∀(s:S) (i:Nat) (v:Int),(s.Qbt i v).right=s.right)∧(∀(s:S) (i:Nat) (v:Int),(s.Qbt i v).turned=s.turned)∧(∀(s:S) (i:Nat) (v:Int),(s.Qbt i v).size=s.size)∧(∀(s:S) (i:Nat) (v:Int),(s.Qbt i v).value=s.value)∧(∀(s:S) (i:Nat) (v:Int),(s.Qbt i v).sum=s.sum)∧(∀(s:S) (i:Nat) (v:Int),(s.Qbt i v).least=upd s.least i v)∧(∀(s:S) (i:Nat) (v:Int),(s.Qbt i v).most=s.most)∧(∀(s:S) (i:Nat) (v:Int),(s.Qcq i v).up=s.up)∧(∀(s:S) (i:Nat) (v:Int),(s.Qcq i v).left=s.left)∧(∀(s:S) (i:Nat) (v:Int),(s.Qcq i v).right=s.right)∧(∀(s:S) (i:Nat) (v:Int),(s.Qcq i v).turned=s.turned)∧(∀(s:S) (i:Nat) (v:Int),(s.Qcq i v).size=s.size)∧(∀(s:S) (i:Nat) (v:Int),(s.Qcq i v).value=s.value)∧(∀(s:S) (i:Nat) (v:Int),(s.Qcq i v).sum=s.sum)∧(∀(s:S) (i:Nat) (v:Int),(s.Qcq i v).least=s.least)∧(∀(s:S) (i:Nat) (v:Int),(s.Qcq i v).most=upd s.most i v):=⟨fun _ _ _=>rfl,fun _ _ _=>rfl,fun _ _ _=>rfl,fun _ _ _=>rfl,fun _ _ _=>rfl,fun _ _ _=>rfl,fun _ _ _=>rfl,fun _ _ _=>rfl,fun _ _ _=>rfl,fun _ _ _=>rfl,fun _ _ _=>rfl,fun _ _ _=>rfl,fun _ _ _=>rfl,fun _ _ _=>rfl,fun _ _ _=>rfl,fun _ _ _=>rfl,fun _ _ _=>rfl,fun _ _ _=>rfl,fun _ _ _=>rfl,fun _ _ _=>rfl,fun _ _ _=>rfl,fun _ _ _=>rfl,fun _ _ _=>rfl,fun _ _ _=>rfl,fun _ _ _=>rfl,fun _ _ _=>rfl,fun _ _ _=>rfl,fun _ _ _=>rfl,fun _ _ _=>rfl,fun _ _ _=>rfl,fun _ _ _=>rfl,fun _ _ _=>rfl,fun _ _ _=>rfl,fun _ _ _=>rfl,fun _ _ _=>rfl,fun _ _ _=>rfl,fun _ _ _=>rfl,fun _ _ _=>rfl,fun _ _ _=>rfl,fun _ _ _=>rfl,fun _ _ _=>rfl,fun _ _ _=>rfl,fun _ _ _=>rfl,fun _ _ _=>rfl,fun _ _ _=>rfl,fun _ _ _=>rfl,fun _ _ _=>rfl,fun _ _ _=>rfl,fun _ _ _=>rfl,fun _ _ _=>rfl,fun _ _ _=>rfl,fun _ _ _=>rfl,fun _ _ _=>rfl,fun _ _ _=>rfl,fun _ _ _=>rfl,fun _ _ _=>rfl,fun _ _ _=>rfl,fun _ _ _=>rfl,fun _ _ _=>rfl,fun _ _ _=>rfl,fun _ _ _=>rfl,fun _ _ _=>rfl,fun _ _ _=>rfl,fun _ _ _=>rfl,fun _ _ _=>rfl,fun _ _ _=>rfl,fun _ _ _=>rfl,fun _ _ _=>rfl,fun _ _ _=>rfl,fun _ _ _=>rfl,fun _ _ _=>rfl,fun _ _ _=>rfl,fun _ _ _=>rfl,fun _ _ _=>rfl,fun _ _ _=>rfl,fun _ _ _=>rfl,fun _ _ _=>rfl,fun _ _ _=>rfl,fun _ _ _=>rfl,fun _ _ _=>rfl,fun _ _ _=>rfl⟩
structure IsF (h:Array Obj) (F L n:Nat) (s:S):Prop where
 f:Row h F Qor [.slice (some ⟨L,0,none⟩) n n]
 l:Row h L Qfq (recs (encS s) n)
 ne:F≠L
structure St (w₀ w:World) (F L n:Nat) (s:S):Prop where
 i:IsF w.heap F L n s
 c:Chg (·=L) w₀ w
 lt:F<w₀.heap.size∧L<w₀.heap.size
section
variable {w₀ w:World} {F L n:Nat} {s:S}
theorem St.drew (h:St w₀ w F L n s):St w₀ w.drew F L n s:=⟨h.i,h.c.drew,h.lt⟩
theorem stf {p:Prop} (h:p:=by first | assumption | exact St.drew (by assumption) | exact St.drew (St.drew (by assumption)) | exact St.drew (St.drew (St.drew (by assumption)))):p:=h
theorem St.start (h:IsF w.heap F L n s):St w w F L n s:=⟨h,Chg.refl _ _,h.f.lt,h.l.lt⟩
theorem IsF.alloc (h:IsF w.heap F L n s) (o:Obj):IsF (w.alloc o).heap F L n s:=⟨h.f.alloc o,h.l.alloc o,h.ne⟩
theorem St.alloc (h:St w₀ w F L n s) (o:Obj):St w₀ (w.alloc o) F L n s:=⟨h.i.alloc o,h.c.alloc o,h.lt⟩
theorem St.trans {w':World} {t:S} (h:St w₀ w F L n s) (k:St w w' F L n t):St w₀ w' F L n t:=⟨k.i,h.c.trans k.c,h.lt⟩
theorem IsF.chg {w w':World} (h:IsF w.heap F L n s) {T:Nat→Prop} (c:Chg T w w') (hF:¬T F) (hL:¬T L):IsF w'.heap F L n s:=⟨c.row hF h.f,c.row hL h.l,h.ne⟩
theorem St.own {w':World} (h:St w₀ w F L n s) (k:Chg (w₀.heap.size≤·) w w'):St w₀ w' F L n s:=
 ⟨h.i.chg k (by have:=h.lt.1;omega) (by have:=h.lt.2;omega),h.c.trans' k (fun i hi=>.inr hi),h.lt⟩
theorem Qdo {K:Option Addr→Nat→Nat→Prop} (h:St w₀ w F L n s) (k:K (some ⟨L,0,none⟩) n n):ldS ⟨F,0,none⟩ w K:=Qaj h.i.f rfl k
theorem Qay {i:Int} {K:Addr→Prop} (h0:0≤i) (h1:i<n) (k:K ⟨L,i.toNat*9,none⟩):ixS (some ⟨L,0,none⟩) n i 9 K:=Qvm h0 h1 (by rw [Nat.zero_add];exact k)
theorem St.cell (h:St w₀ w F L n s) {i k:Nat} (hi:i<n) (hk:k<9):w.cell? ⟨L,i*9+k,none⟩=(encS s i)[k]?:=by
 rw [h.i.l.cell,Qdr (encS s) (Qzj s) hi hk]
theorem St.set (h:St w₀ w F L n s) {t:S} {i k:Nat} (hi:i<n) (hk:k<9) {v:Value} (ho:∀j,j≠i→encS t j=encS s j) (hx:encS t i=(encS s i).set k v):St w₀ (w.setCell ⟨L,i*9+k,none⟩ v) F L n t:=
 ⟨⟨h.i.f.Qdb _ _ (fun e=>h.i.ne e.symm),by rw [←Qce (encS s) (Qzj s) hi hk ho hx];exact h.i.l.set _ _,h.i.ne⟩,h.c.setCell _ _ (.inl rfl),h.lt⟩
theorem Qxs {i:Int} {K:Int→Prop} (h:St w₀ w F L n s) (h1:i.toNat<n) (k:K (s.up i.toNat)):ldI .i32 (Addr.mk L (i.toNat*9) none) w K:=by
 have e:(Addr.mk L (i.toNat*9) none)=Addr.mk L (i.toNat*9+0) none:=rfl
 rw [e]
 exact ⟨_,h.cell h1 (by decide:0<9),k⟩
theorem Qvh {i:Int} {v:Int} {K:World→Prop} (h:St w₀ w F L n s) (h1:i.toNat<n) (k:∀w',St w₀ w' F L n (s.w_up i.toNat v)→K w'):sto (Addr.mk L (i.toNat*9) none) (.int .i32 v) w K:=by
 have e:(Addr.mk L (i.toNat*9) none)=Addr.mk L (i.toNat*9+0) none:=rfl
 rw [e]
 exact ⟨rfl,⟨_,h.cell h1 (by decide:0<9)⟩,h.i.l.frozen _,k _ (h.set h1 (by decide) (fun j hj=>by simp [encS,Qag _ _ hj]) (by simp [encS,Qab]))⟩
theorem Qr6 {i:Int} {K:Int→Prop} (h:St w₀ w F L n s) (h1:i.toNat<n) (k:K (s.left i.toNat)):ldI .i32 ((Addr.mk L (i.toNat*9) none).add 1) w K:=by
 have e:((Addr.mk L (i.toNat*9) none).add 1)=Addr.mk L (i.toNat*9+1) none:=Qad _ _ _
 rw [e]
 exact ⟨_,h.cell h1 (by decide:1<9),k⟩
theorem Qrm {i:Int} {v:Int} {K:World→Prop} (h:St w₀ w F L n s) (h1:i.toNat<n) (k:∀w',St w₀ w' F L n (s.Qa2 i.toNat v)→K w'):sto ((Addr.mk L (i.toNat*9) none).add 1) (.int .i32 v) w K:=by
 have e:((Addr.mk L (i.toNat*9) none).add 1)=Addr.mk L (i.toNat*9+1) none:=Qad _ _ _
 rw [e]
 exact ⟨rfl,⟨_,h.cell h1 (by decide:1<9)⟩,h.i.l.frozen _,k _ (h.set h1 (by decide) (fun j hj=>by simp [encS,Qag _ _ hj]) (by simp [encS,Qab]))⟩
theorem Qm6 {i:Int} {K:Int→Prop} (h:St w₀ w F L n s) (h1:i.toNat<n) (k:K (s.right i.toNat)):ldI .i32 ((Addr.mk L (i.toNat*9) none).add 2) w K:=by
 have e:((Addr.mk L (i.toNat*9) none).add 2)=Addr.mk L (i.toNat*9+2) none:=Qad _ _ _
 rw [e]
 exact ⟨_,h.cell h1 (by decide:2<9),k⟩
theorem Ql0 {i:Int} {v:Int} {K:World→Prop} (h:St w₀ w F L n s) (h1:i.toNat<n) (k:∀w',St w₀ w' F L n (s.Qa0 i.toNat v)→K w'):sto ((Addr.mk L (i.toNat*9) none).add 2) (.int .i32 v) w K:=by
 have e:((Addr.mk L (i.toNat*9) none).add 2)=Addr.mk L (i.toNat*9+2) none:=Qad _ _ _
 rw [e]
 exact ⟨rfl,⟨_,h.cell h1 (by decide:2<9)⟩,h.i.l.frozen _,k _ (h.set h1 (by decide) (fun j hj=>by simp [encS,Qag _ _ hj]) (by simp [encS,Qab]))⟩
theorem Qk1 {i:Int} {K:Bool→Prop} (h:St w₀ w F L n s) (h1:i.toNat<n) (k:K (s.turned i.toNat)):ldB ((Addr.mk L (i.toNat*9) none).add 3) w K:=by
 have e:((Addr.mk L (i.toNat*9) none).add 3)=Addr.mk L (i.toNat*9+3) none:=Qad _ _ _
 rw [e]
 exact ⟨_,h.cell h1 (by decide:3<9),k⟩
theorem Qwd {i:Int} {v:Bool} {K:World→Prop} (h:St w₀ w F L n s) (h1:i.toNat<n) (k:∀w',St w₀ w' F L n (s.Qa5 i.toNat v)→K w'):sto ((Addr.mk L (i.toNat*9) none).add 3) (.bool v) w K:=by
 have e:((Addr.mk L (i.toNat*9) none).add 3)=Addr.mk L (i.toNat*9+3) none:=Qad _ _ _
 rw [e]
 exact ⟨rfl,⟨_,h.cell h1 (by decide:3<9)⟩,h.i.l.frozen _,k _ (h.set h1 (by decide) (fun j hj=>by simp [encS,Qag _ _ hj]) (by simp [encS,Qab]))⟩
theorem Qr4 {i:Int} {K:Int→Prop} (h:St w₀ w F L n s) (h1:i.toNat<n) (k:K (s.size i.toNat)):ldI .i32 ((Addr.mk L (i.toNat*9) none).add 4) w K:=by
 have e:((Addr.mk L (i.toNat*9) none).add 4)=Addr.mk L (i.toNat*9+4) none:=Qad _ _ _
 rw [e]
 exact ⟨_,h.cell h1 (by decide:4<9),k⟩
theorem Q4c {i:Int} {v:Int} {K:World→Prop} (h:St w₀ w F L n s) (h1:i.toNat<n) (k:∀w',St w₀ w' F L n (s.Qcp i.toNat v)→K w'):sto ((Addr.mk L (i.toNat*9) none).add 4) (.int .i32 v) w K:=by
 have e:((Addr.mk L (i.toNat*9) none).add 4)=Addr.mk L (i.toNat*9+4) none:=Qad _ _ _
 rw [e]
 exact ⟨rfl,⟨_,h.cell h1 (by decide:4<9)⟩,h.i.l.frozen _,k _ (h.set h1 (by decide) (fun j hj=>by simp [encS,Qag _ _ hj]) (by simp [encS,Qab]))⟩
theorem Qt6 {i:Int} {K:Int→Prop} (h:St w₀ w F L n s) (h1:i.toNat<n) (k:K (s.value i.toNat)):ldI .i64 ((Addr.mk L (i.toNat*9) none).add 5) w K:=by
 have e:((Addr.mk L (i.toNat*9) none).add 5)=Addr.mk L (i.toNat*9+5) none:=Qad _ _ _
 rw [e]
 exact ⟨_,h.cell h1 (by decide:5<9),k⟩
theorem Qzc {i:Int} {v:Int} {K:World→Prop} (h:St w₀ w F L n s) (h1:i.toNat<n) (k:∀w',St w₀ w' F L n (s.Qbg i.toNat v)→K w'):sto ((Addr.mk L (i.toNat*9) none).add 5) (.int .i64 v) w K:=by
 have e:((Addr.mk L (i.toNat*9) none).add 5)=Addr.mk L (i.toNat*9+5) none:=Qad _ _ _
 rw [e]
 exact ⟨rfl,⟨_,h.cell h1 (by decide:5<9)⟩,h.i.l.frozen _,k _ (h.set h1 (by decide) (fun j hj=>by simp [encS,Qag _ _ hj]) (by simp [encS,Qab]))⟩
theorem Qz9 {i:Int} {K:Int→Prop} (h:St w₀ w F L n s) (h1:i.toNat<n) (k:K (s.sum i.toNat)):ldI .i64 ((Addr.mk L (i.toNat*9) none).add 6) w K:=by
 have e:((Addr.mk L (i.toNat*9) none).add 6)=Addr.mk L (i.toNat*9+6) none:=Qad _ _ _
 rw [e]
 exact ⟨_,h.cell h1 (by decide:6<9),k⟩
theorem Q8c {i:Int} {v:Int} {K:World→Prop} (h:St w₀ w F L n s) (h1:i.toNat<n) (k:∀w',St w₀ w' F L n (s.Qgi i.toNat v)→K w'):sto ((Addr.mk L (i.toNat*9) none).add 6) (.int .i64 v) w K:=by
 have e:((Addr.mk L (i.toNat*9) none).add 6)=Addr.mk L (i.toNat*9+6) none:=Qad _ _ _
 rw [e]
 exact ⟨rfl,⟨_,h.cell h1 (by decide:6<9)⟩,h.i.l.frozen _,k _ (h.set h1 (by decide) (fun j hj=>by simp [encS,Qag _ _ hj]) (by simp [encS,Qab]))⟩
theorem Qm8 {i:Int} {K:Int→Prop} (h:St w₀ w F L n s) (h1:i.toNat<n) (k:K (s.least i.toNat)):ldI .i64 ((Addr.mk L (i.toNat*9) none).add 7) w K:=by
 have e:((Addr.mk L (i.toNat*9) none).add 7)=Addr.mk L (i.toNat*9+7) none:=Qad _ _ _
 rw [e]
 exact ⟨_,h.cell h1 (by decide:7<9),k⟩
theorem Q16 {i:Int} {v:Int} {K:World→Prop} (h:St w₀ w F L n s) (h1:i.toNat<n) (k:∀w',St w₀ w' F L n (s.Qbt i.toNat v)→K w'):sto ((Addr.mk L (i.toNat*9) none).add 7) (.int .i64 v) w K:=by
 have e:((Addr.mk L (i.toNat*9) none).add 7)=Addr.mk L (i.toNat*9+7) none:=Qad _ _ _
 rw [e]
 exact ⟨rfl,⟨_,h.cell h1 (by decide:7<9)⟩,h.i.l.frozen _,k _ (h.set h1 (by decide) (fun j hj=>by simp [encS,Qag _ _ hj]) (by simp [encS,Qab]))⟩
theorem Qr5 {i:Int} {K:Int→Prop} (h:St w₀ w F L n s) (h1:i.toNat<n) (k:K (s.most i.toNat)):ldI .i64 ((Addr.mk L (i.toNat*9) none).add 8) w K:=by
 have e:((Addr.mk L (i.toNat*9) none).add 8)=Addr.mk L (i.toNat*9+8) none:=Qad _ _ _
 rw [e]
 exact ⟨_,h.cell h1 (by decide:8<9),k⟩
theorem Q4d {i:Int} {v:Int} {K:World→Prop} (h:St w₀ w F L n s) (h1:i.toNat<n) (k:∀w',St w₀ w' F L n (s.Qcq i.toNat v)→K w'):sto ((Addr.mk L (i.toNat*9) none).add 8) (.int .i64 v) w K:=by
 have e:((Addr.mk L (i.toNat*9) none).add 8)=Addr.mk L (i.toNat*9+8) none:=Qad _ _ _
 rw [e]
 exact ⟨rfl,⟨_,h.cell h1 (by decide:8<9)⟩,h.i.l.frozen _,k _ (h.set h1 (by decide) (fun j hj=>by simp [encS,Qag _ _ hj]) (by simp [encS,Qab]))⟩
theorem gF {K:Option Addr→Nat→Nat→Prop} (h:St w₀ w F L n s:=by exact stf) (k:K (some ⟨L,0,none⟩) n n):ldS ⟨F,0,none⟩ w K:=Qdo h k
theorem g0 {i:Int} {K:Int→Prop} (h:St w₀ w F L n s:=by exact stf) (h1:i.toNat<n:=by omega) (k:K (s.up i.toNat)):ldI .i32 (Addr.mk L (i.toNat*9) none) w K:=Qxs h h1 k
theorem s0 {i:Int} {v:Int} {K:World→Prop} (h:St w₀ w F L n s:=by exact stf) (h1:i.toNat<n:=by omega) (k:∀w',St w₀ w' F L n (s.w_up i.toNat v)→K w'):sto (Addr.mk L (i.toNat*9) none) (.int .i32 v) w K:=Qvh h h1 k
theorem g1 {i:Int} {K:Int→Prop} (h:St w₀ w F L n s:=by exact stf) (h1:i.toNat<n:=by omega) (k:K (s.left i.toNat)):ldI .i32 ((Addr.mk L (i.toNat*9) none).add 1) w K:=Qr6 h h1 k
theorem s1 {i:Int} {v:Int} {K:World→Prop} (h:St w₀ w F L n s:=by exact stf) (h1:i.toNat<n:=by omega) (k:∀w',St w₀ w' F L n (s.Qa2 i.toNat v)→K w'):sto ((Addr.mk L (i.toNat*9) none).add 1) (.int .i32 v) w K:=Qrm h h1 k
theorem g2 {i:Int} {K:Int→Prop} (h:St w₀ w F L n s:=by exact stf) (h1:i.toNat<n:=by omega) (k:K (s.right i.toNat)):ldI .i32 ((Addr.mk L (i.toNat*9) none).add 2) w K:=Qm6 h h1 k
theorem s2 {i:Int} {v:Int} {K:World→Prop} (h:St w₀ w F L n s:=by exact stf) (h1:i.toNat<n:=by omega) (k:∀w',St w₀ w' F L n (s.Qa0 i.toNat v)→K w'):sto ((Addr.mk L (i.toNat*9) none).add 2) (.int .i32 v) w K:=Ql0 h h1 k
theorem g3 {i:Int} {K:Bool→Prop} (h:St w₀ w F L n s:=by exact stf) (h1:i.toNat<n:=by omega) (k:K (s.turned i.toNat)):ldB ((Addr.mk L (i.toNat*9) none).add 3) w K:=Qk1 h h1 k
theorem s3 {i:Int} {v:Bool} {K:World→Prop} (h:St w₀ w F L n s:=by exact stf) (h1:i.toNat<n:=by omega) (k:∀w',St w₀ w' F L n (s.Qa5 i.toNat v)→K w'):sto ((Addr.mk L (i.toNat*9) none).add 3) (.bool v) w K:=Qwd h h1 k
theorem g4 {i:Int} {K:Int→Prop} (h:St w₀ w F L n s:=by exact stf) (h1:i.toNat<n:=by omega) (k:K (s.size i.toNat)):ldI .i32 ((Addr.mk L (i.toNat*9) none).add 4) w K:=Qr4 h h1 k
theorem s4 {i:Int} {v:Int} {K:World→Prop} (h:St w₀ w F L n s:=by exact stf) (h1:i.toNat<n:=by omega) (k:∀w',St w₀ w' F L n (s.Qcp i.toNat v)→K w'):sto ((Addr.mk L (i.toNat*9) none).add 4) (.int .i32 v) w K:=Q4c h h1 k
theorem g5 {i:Int} {K:Int→Prop} (h:St w₀ w F L n s:=by exact stf) (h1:i.toNat<n:=by omega) (k:K (s.value i.toNat)):ldI .i64 ((Addr.mk L (i.toNat*9) none).add 5) w K:=Qt6 h h1 k
theorem s5 {i:Int} {v:Int} {K:World→Prop} (h:St w₀ w F L n s:=by exact stf) (h1:i.toNat<n:=by omega) (k:∀w',St w₀ w' F L n (s.Qbg i.toNat v)→K w'):sto ((Addr.mk L (i.toNat*9) none).add 5) (.int .i64 v) w K:=Qzc h h1 k
theorem g6 {i:Int} {K:Int→Prop} (h:St w₀ w F L n s:=by exact stf) (h1:i.toNat<n:=by omega) (k:K (s.sum i.toNat)):ldI .i64 ((Addr.mk L (i.toNat*9) none).add 6) w K:=Qz9 h h1 k
theorem s6 {i:Int} {v:Int} {K:World→Prop} (h:St w₀ w F L n s:=by exact stf) (h1:i.toNat<n:=by omega) (k:∀w',St w₀ w' F L n (s.Qgi i.toNat v)→K w'):sto ((Addr.mk L (i.toNat*9) none).add 6) (.int .i64 v) w K:=Q8c h h1 k
theorem g7 {i:Int} {K:Int→Prop} (h:St w₀ w F L n s:=by exact stf) (h1:i.toNat<n:=by omega) (k:K (s.least i.toNat)):ldI .i64 ((Addr.mk L (i.toNat*9) none).add 7) w K:=Qm8 h h1 k
theorem s7 {i:Int} {v:Int} {K:World→Prop} (h:St w₀ w F L n s:=by exact stf) (h1:i.toNat<n:=by omega) (k:∀w',St w₀ w' F L n (s.Qbt i.toNat v)→K w'):sto ((Addr.mk L (i.toNat*9) none).add 7) (.int .i64 v) w K:=Q16 h h1 k
theorem g8 {i:Int} {K:Int→Prop} (h:St w₀ w F L n s:=by exact stf) (h1:i.toNat<n:=by omega) (k:K (s.most i.toNat)):ldI .i64 ((Addr.mk L (i.toNat*9) none).add 8) w K:=Qr5 h h1 k
theorem s8 {i:Int} {v:Int} {K:World→Prop} (h:St w₀ w F L n s:=by exact stf) (h1:i.toNat<n:=by omega) (k:∀w',St w₀ w' F L n (s.Qcq i.toNat v)→K w'):sto ((Addr.mk L (i.toNat*9) none).add 8) (.int .i64 v) w K:=Q4d h h1 k
end
end Seq
end Go.Proofs.YtfeekmmfdkfgmaaGreatDoor
