/-
A reading of a function's code as one formula: functions whose results stand in cells.
Conditions: none; every theorem here is over any program.
-/
import Derived.Test.YtfeekmmfdkfgmaaGreatDoorGLex
set_option linter.unusedVariables false
set_option linter.unusedSimpArgs false
namespace Go.Proofs.YtfeekmmfdkfgmaaGreatDoor
open Go
def resD (P:Program):List ResultVar→Env→World→(List Value→Prop)→Prop
 | [],_,_,K=>K []
 | .tmp t::r,e,w,K=>resD P r e w fun vs=>K (e t::vs)
 | .cell a t::r,e,w,K=>dload P t (e a) w fun _ v=>resD P r e w fun vs=>K (v::vs)
def oneV:List Value→Value
 | [v]=>v
 | vs=>.tuple vs.toArray
def denR (P:Program) (E:List FuncId) (fn:Func) (an:An) (args:List Value) (w:World) (R:Value→World→Prop):Prop:=
 match fn.body with
 | none=>False
 | some c=>bif Nat.ble args.length fn.ntmps then
   den P E fn.ntmps an c (fun x e w'=>match x with | .exit _=>False | _=>resD P fn.results.toList e w' fun vs=>R (oneV vs) w') (envOf args) w
  else False
section
variable {P:Program} {E:List FuncId}
def resG (P:Program) (tmps:Array Value) (w:World):ResultVar→Value
 | .tmp t=>tmps.getD t undef
 | .cell a t=>match (do loadVar t (←asAddr (tmps.getD a undef)):Sem Value).run P w with
  | .ok v _=>v
  | _=>undef
theorem Zcf {t:TypeId} {x:Value} {w:World} {K:List (Addr × Value)→Value→Prop} (h:dload P t x w K):∃p,x=.pointer (some p):=by
 unfold dload at h
 cases x with
 | pointer p=>cases p with
  | some p=>exact ⟨p,rfl⟩
  | none=>exact h.elim
 | _=>exact h.elim
theorem Q3z {tmps:Array Value} {w:World}:∀{rs:List ResultVar} {K:List Value→Prop},resD P rs (fun t=>tmps.getD t undef) w K→
  K (rs.map (resG P tmps w))∧∀r∈rs,(match r with | .tmp t=>pure (tmps.getD t undef) | .cell a t=>do loadVar t (←asAddr (tmps.getD a undef)):Sem Value).run P w=.ok (resG P tmps w r) w
 | [],K,h=>⟨h,fun r hr=>by cases hr⟩
 | .tmp t::rs,K,h=>by
  obtain ⟨h1,h2⟩:=Q3z (rs:=rs) h
  refine ⟨h1,fun r hr=>?_⟩
  rcases List.mem_cons.1 hr with rfl | hr
  ·rfl
  ·exact h2 r hr
 | .cell a t::rs,K,h=>by
  obtain ⟨p,hp⟩:=Zcf (K:=fun _ v=>resD P rs (fun t=>tmps.getD t undef) w fun vs=>K (v::vs)) h
  obtain ⟨v,H,h,hH,hrun⟩:=Qqw (K:=fun _ v=>resD P rs (fun t=>tmps.getD t undef) w fun vs=>K (v::vs)) h
  have hr1:=hrun w hH
  have hp:tmps.getD a undef=.pointer (some p):=hp
  have e1:(do loadVar t (←asAddr (tmps.getD a undef)):Sem Value).run P w=.ok v w:=by
   rw [←hr1]
   show _=(Instr.loadAt t (tmps.getD a undef)).run P w
   rw [hp]
   rfl
  obtain ⟨h1,h2⟩:=Q3z (rs:=rs) h
  have e2:resG P tmps w (.cell a t)=v:=by show (match (do loadVar t (←asAddr (tmps.getD a undef)):Sem Value).run P w with | .ok v _=>v | _=>undef)=v;rw [e1]
  refine ⟨by rw [List.map_cons,e2];exact h1,fun r hr=>?_⟩
  rcases List.mem_cons.1 hr with rfl | hr
  ·rw [e2];exact e1
  ·exact h2 r hr
theorem Qzu {fn:Func} {tmps:Array Value} {w:World} {K:List Value→Prop} (h:resD P fn.results.toList (fun t=>tmps.getD t undef) w K) :
  ∃vs,K vs∧(results fn tmps).run P w=.ok (oneV vs) w:=by
 obtain ⟨h1,h2⟩:=Q3z h
 refine ⟨_,h1,?_⟩
 unfold results
 rw [Qae (Qys (g:=resG P tmps w) w fn.results fun r hr=>?_)]
 ·have e0:(fn.results.toList.map (resG P tmps w))=(fn.results.map (resG P tmps w)).toList:=by simp
  rw [e0]
  generalize fn.results.map (resG P tmps w)=vs
  rcases vs with ⟨l⟩
  match l with
  | []=>simp [oneV,go_sem]
  | [t]=>simp [oneV,go_sem]
  | t::u::r=>simp [oneV,go_sem]
 ·have:=h2 r (by simpa using hr)
  cases r<;>exact this
theorem Qx6 {f:FuncId} {fn:Func} {an:An} {args:List Value} {w:World} {R:Value→World→Prop}
  (hE:∀g∈E,enters P g) (hm:P.follows .mixedOrders=true) (hf:P.funcs[f]?=some fn)
  (h:denR P E fn an args w R):Calls P f args.toArray w fun e w'=>∃v,e=.returned v∧R v w':=by
 unfold denR at h
 split at h
 ·exact h.elim
 rename_i c hb
 cases hn:Nat.ble args.length fn.ntmps<;>simp only [hn,cond_true,cond_false] at h
 rw [Nat.ble_eq] at hn
 refine calls_of_wp hf hb ?_
 simp only [List.size_toArray]
 rw [←Qwg args fn.ntmps hn] at h
 refine wp_mono (Qx1 hE hm an _ _ _ _ h (by simp;omega) rfl) ?_
 intro x a w' hx
 cases x<;>simp only [PQ] at hx<;>first | exact hx.elim | skip
 ·obtain ⟨vs,h1,h2⟩:=Qzu (fn:=fn) (tmps:=a.tmps) hx.1
  exact ⟨hx.2.2.1,_,h2,_,rfl,h1⟩
 ·exact hx.1.elim
 ·obtain ⟨vs,h1,h2⟩:=Qzu (fn:=fn) (tmps:=a.tmps) hx.1
  exact ⟨hx.2.2.1,_,h2,_,rfl,h1⟩
end
end Go.Proofs.YtfeekmmfdkfgmaaGreatDoor
