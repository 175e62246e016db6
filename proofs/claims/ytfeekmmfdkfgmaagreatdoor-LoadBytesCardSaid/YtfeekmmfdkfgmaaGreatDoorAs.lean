/-
errors.As at a variable of api.Errno, the error being an api.Errno: after the kit's worked text of the toy 'toyas', its numbers turned to this program by a script.
Conditions: those that each theorem states.
-/
import Derived.Test.YtfeekmmfdkfgmaaGreatDoorSn
import Derived.WalkKit
import Derived.LaidEql
import Derived.Stop.Asserts
import Derived.RowKitTokens
namespace Go.Proofs.YtfeekmmfdkfgmaaGreatDoor
open Go Go.RowKit Go.Extern.Stop Go.Stop Go.Extern
theorem as_nil (t:Value) (w:World) :
    Calls Tryz.prog 47 #[.nilIface,t] w fun e w'=>e=.returned (.bool false)∧w'=w:=by
  go_enter Tryz.func47,Tryz.ntmps47
  go_wp2
  go_ret
  exact ⟨rfl,rfl⟩
theorem Q5s (t:Addr) (w:World):(ReflectliteValue.unpack (.iface 116 (.pointer (some t)))).run Tryz.prog w
    = .ok (.agg #[.pointer (some ⟨2,116,none⟩),.pointer (some ⟨w.heap.size,0,none⟩),.int .u64 150]) (w.alloc (.cells #[.pointer (some t)] 116)):=by kernel_rfl
theorem Zc2 (a : Addr) (w : World) : (ReflectliteValue.methodAny (ReflectliteValue.valueError "reflectlite.Value.Type" 0) (fun t _ _ _ => ReflectliteType.toType t) #[.agg #[.pointer (some ⟨2, 116, none⟩), .pointer (some a), .int .u64 150]]).run Tryz.prog w
    = .ok (.iface 278 (.agg #[.pointer (some ⟨2,116,none⟩)])) w:=by kernel_rfl
theorem Q4z (h : Value) (w : World) : (Go.method 550 278 (.agg #[h]) "Kind").run Tryz.prog w = .ok (341, h) w := by kernel_rfl
theorem Zc3 (w:World):((ReflectliteType.abiMethod fun t=>(fun a:Nat=>Value.int IntKind.u8 (a:Int)) <$> Rtype.kind t) #[.pointer (some ⟨2,116,none⟩)]).run Tryz.prog w=.ok (.int .u8 22) w:=by kernel_rfl
theorem Zc4 (w:World):((ReflectliteType.abiMethod fun t=>(fun a:Nat=>Value.int IntKind.u8 (a:Int)) <$> Rtype.kind t) #[.pointer (some ⟨2,103,none⟩)]).run Tryz.prog w=.ok (.int .u8 2) w:=by kernel_rfl
theorem rlm (z:Sem Value) (f:TypeId→Addr→Nat→Nat→Sem Value) (v:Value) :
    ReflectliteValue.method z f #[v]=(do match ←ReflectliteValue.parts v with | none=>z | some (t,a,fl)=>f t a fl (fl % 32)):=rfl
theorem Q3f (a:Addr) (w:World):(ReflectliteValue.parts (.agg #[.pointer (some ⟨2,116,none⟩),.pointer (some a),.int .u64 150])).run Tryz.prog w=.ok (some (116,a,150)) w:=by kernel_rfl
theorem Q9t (a p:Addr) (W:World) (ha:W.cell? a=some (.pointer (some p))) :
    (ReflectliteValue.method (ReflectliteValue.valueError "reflectlite.Value.IsNil" 0) ReflectliteValue.isNil #[.agg #[.pointer (some ⟨2, 116, none⟩), .pointer (some a), .int .u64 150]]).run Tryz.prog W = .ok (.bool false) W := by
  rw [rlm]
  simp only [Sem.run_bind,Q3f,Result.andThen]
  simp [ReflectliteValue.isNil,loadVar,isAgg,underlying,Tryz.underlying116,ha,Result.andThen]
theorem Q40 (h : Value) (w : World) : (Go.method 550 278 (.agg #[h]) "Elem").run Tryz.prog w = .ok (352, .agg #[h]) w := by kernel_rfl
theorem Qw3 (h : Value) (w : World) : (Go.method 550 278 (.agg #[h]) "Implements").run Tryz.prog w = .ok (353, .agg #[h]) w := by kernel_rfl
theorem Qur (h : Value) (w : World) : (Go.method 550 278 (.agg #[h]) "AssignableTo").run Tryz.prog w = .ok (350, .agg #[h]) w := by kernel_rfl
theorem Zc5 (w:World):(ReflectliteType.method ReflectliteType.elem #[.agg #[.pointer (some ⟨2,116,none⟩)]]).run Tryz.prog w=.ok (.iface 278 (.agg #[.pointer (some ⟨2,103,none⟩)])) w:=by kernel_rfl
theorem Q2d (w : World) : (ReflectliteType.relation "Implements" ReflectliteType.implements_ #[.agg #[.pointer (some ⟨2, 103, none⟩)], .iface 278 (.agg #[.pointer (some ⟨2, 30, none⟩)])]).run Tryz.prog w = .ok (.bool true) w := by kernel_rfl
theorem Q64 (v:Value) (w:World):(ReflectliteType.typeOf #[.iface 103 v]).run Tryz.prog w=.ok (.iface 278 (.agg #[.pointer (some ⟨2,103,none⟩)])) w:=by kernel_rfl
theorem Q2e (w : World) : (ReflectliteType.relation "AssignableTo" ReflectliteType.assignableTo #[.agg #[.pointer (some ⟨2, 103, none⟩)], .iface 278 (.agg #[.pointer (some ⟨2, 103, none⟩)])]).run Tryz.prog w = .ok (.bool true) w := by kernel_rfl
theorem Q5t (e:Int) (w:World):(ReflectliteValue.unpack (.iface 103 (.int .i64 e))).run Tryz.prog w
    = .ok (.agg #[.pointer (some ⟨2,103,none⟩),.pointer (some ⟨w.heap.size,0,none⟩),.int .u64 130]) (w.alloc (.cells #[.int .i64 e] 103)):=by kernel_rfl
theorem Q66 (w:World):(Rtype.elem? 116).run Tryz.prog w=.ok (some 103) w:=by kernel_rfl
theorem Zj1 (p:Addr) (w:World):(ReflectliteValue.mk 103 p ReflectliteValue.flagAddr).run Tryz.prog w=.ok (.agg #[.pointer (some ⟨2,103,none⟩),.pointer (some p),.int .u64 386]) w:=by kernel_rfl
theorem Q9u (a p:Addr) (W:World) (ha:W.cell? a=some (.pointer (some p))) :
    (ReflectliteValue.method (ReflectliteValue.valueError "reflectlite.Value.Elem" 0) ReflectliteValue.elem #[.agg #[.pointer (some ⟨2, 116, none⟩), .pointer (some a), .int .u64 150]]).run Tryz.prog W
      = .ok (.agg #[.pointer (some ⟨2,103,none⟩),.pointer (some p),.int .u64 386]) W:=by
  rw [rlm]
  simp only [Sem.run_bind,Q3f,Result.andThen]
  simp [ReflectliteValue.elem,loadVar,isAgg,underlying,Tryz.underlying116,ha,Result.andThen,Q66,Zj1]
theorem rls (v x:Value):ReflectliteValue.set #[v,x]=(do
    let (some (dst,a,fl),some (src,b,_)):=(←ReflectliteValue.parts v,←ReflectliteValue.parts x)
      | unsupported (.noEntry "extern/(internal/reflectlite.Value).Set.zeroValue")
    if fl / ReflectliteValue.flagAddr % 2 == 0 then unsupported (.noEntry "extern/(internal/reflectlite.Value).Set.unaddressable")
    let val ←loadVar src b
    if ←Rtype.directlyAssignable dst src then storeVar dst a val
    else if ←Rtype.implements dst src then
      if (←Rtype.kind src)==20 then
        match val with
        | .nilIface => unsupported (.noEntry "extern/reflectlite: a nil value of one interface type handed on as a value of another")
        | _=>storeVar dst a val
      else storeVar dst a (.iface src val)
    else panicString ("reflectlite.Set: value of type " ++ (← Rtype.spelt src) ++ " is not assignable to type " ++ (← Rtype.spelt dst))
    pure (.tuple #[])):=rfl
theorem Q65 (a:Addr) (w:World):(ReflectliteValue.parts (.agg #[.pointer (some ⟨2,103,none⟩),.pointer (some a),.int .u64 386])).run Tryz.prog w=.ok (some (103,a,386)) w:=by kernel_rfl
theorem Q9s (a:Addr) (w:World):(ReflectliteValue.parts (.agg #[.pointer (some ⟨2,103,none⟩),.pointer (some a),.int .u64 130])).run Tryz.prog w=.ok (some (103,a,130)) w:=by kernel_rfl
theorem Q67 (w:World):(Rtype.directlyAssignable 103 103).run Tryz.prog w=.ok true w:=by kernel_rfl
theorem Zmj (w:World):(sizeOf 103).run Tryz.prog w=.ok 1 w:=by kernel_rfl
theorem Zfb (ta b:Addr) (e:Int) (old:Value) (W:World) (hb:W.cell? b=some (.int .i64 e)) (ht:W.cell? ta=some old) (hf:W.frozen? ta=false) :
    (ReflectliteValue.set #[.agg #[.pointer (some ⟨2,103,none⟩),.pointer (some ta),.int .u64 386],.agg #[.pointer (some ⟨2,103,none⟩),.pointer (some b),.int .u64 130]]).run Tryz.prog W
      = .ok (.tuple #[]) (W.setCell ta (.int .i64 e)):=by
  rw [rls]
  simp only [Sem.run_bind,Q65,Q9s,Result.andThen]
  simp [ReflectliteValue.flagAddr,loadVar,isAgg,underlying,Tryz.underlying103,hb,Result.andThen,Q67,storeVar,Value.cells,storeCells,Addr.add]
  rw [run_store Tryz.prog W ta _ _ (by rfl)]
  simp [ht,hf]
set_option maxHeartbeats 4000000 in
theorem Zhd (e:Int) (t:Addr) (old:Value) (w:World) (hg:w.cell? ⟨0,0,none⟩=some (.iface 278 (.agg #[.pointer (some ⟨2,30,none⟩)]))) (ht0:w.cell? t=some old) (hf0:w.frozen? t=false) :
    Calls Tryz.prog 47 #[.iface 103 (.int .i64 e),.iface 116 (.pointer (some t))] w fun ev w'=>ev=.returned (.bool true)∧w'=((((w.alloc (.cells #[.pointer (some t)] 116)).alloc (.cells #[.pointer (some ⟨2,116,none⟩),.pointer (some ⟨w.heap.size,0,none⟩),.int .u64 150] 197)).alloc (.cells #[.pointer (some ⟨2,116,none⟩),.pointer (some ⟨w.heap.size,0,none⟩),.int .u64 150] 197)).alloc (.cells #[.int .i64 e] 103)).setCell t (.int .i64 e):=by
  have h6:=@run_callFunc_extern Tryz.prog 116 _ (fun args=>ReflectliteValue.unpack (args.getD 0 (.tuple #[]))) Tryz.func116 (by kernel_rfl) (by kernel_rfl) (by kernel_rfl) (by kernel_rfl)
  have h7 := @run_callFunc_extern Tryz.prog 117 _ (ReflectliteValue.methodAny (ReflectliteValue.valueError "reflectlite.Value.Type" 0) (fun t _ _ _ => ReflectliteType.toType t)) Tryz.func117 (by kernel_rfl) (by kernel_rfl) (by kernel_rfl) (by kernel_rfl)
  have h8 := @run_callFunc_extern Tryz.prog 118 _ (ReflectliteValue.method (ReflectliteValue.valueError "reflectlite.Value.IsNil" 0) ReflectliteValue.isNil) Tryz.func118 (by kernel_rfl) (by kernel_rfl) (by kernel_rfl) (by kernel_rfl)
  have h27:=@run_callFunc_extern Tryz.prog 341 _ (ReflectliteType.abiMethod fun t=>do pure (.int .u8 (←Rtype.kind t))) Tryz.func341 (by kernel_rfl) (by kernel_rfl) (by kernel_rfl) (by kernel_rfl)
  have h37:=@run_callFunc_extern Tryz.prog 352 _ (ReflectliteType.method ReflectliteType.elem) Tryz.func352 (by kernel_rfl) (by kernel_rfl) (by kernel_rfl) (by kernel_rfl)
  have h38 := @run_callFunc_extern Tryz.prog 353 _ (ReflectliteType.relation "Implements" ReflectliteType.implements_) Tryz.func353 (by kernel_rfl) (by kernel_rfl) (by kernel_rfl) (by kernel_rfl)
  have h10:=@run_callFunc_extern Tryz.prog 190 _ ReflectliteType.typeOf Tryz.func190 (by kernel_rfl) (by kernel_rfl) (by kernel_rfl) (by kernel_rfl)
  have h35 := @run_callFunc_extern Tryz.prog 350 _ (ReflectliteType.relation "AssignableTo" ReflectliteType.assignableTo) Tryz.func350 (by kernel_rfl) (by kernel_rfl) (by kernel_rfl) (by kernel_rfl)
  have h11 := @run_callFunc_extern Tryz.prog 191 _ (ReflectliteValue.method (ReflectliteValue.valueError "reflectlite.Value.Elem" 0) ReflectliteValue.elem) Tryz.func191 (by kernel_rfl) (by kernel_rfl) (by kernel_rfl) (by kernel_rfl)
  have h12:=@run_callFunc_extern Tryz.prog 192 _ ReflectliteValue.set Tryz.func192 (by kernel_rfl) (by kernel_rfl) (by kernel_rfl) (by kernel_rfl)
  have tO:=Q64
  have mA:=Qur
  have a25:=Q2e
  have v25:=Q5t
  have f6:=Q5s
  have f7:=Zc2
  have mK:=Q4z
  have mE:=Q40
  have mI:=Qw3
  have k27:=Zc3
  have k25:=Zc4
  have e27:=Zc5
  have i25:=Q2d
  have n8:=Q9t ⟨w.heap.size,0,none⟩ t ((w.alloc (.cells #[.pointer (some t)] 116)).alloc (.cells #[.pointer (some ⟨2,116,none⟩),.pointer (some ⟨w.heap.size,0,none⟩),.int .u64 150] 197)) (by simp)
  have hlt:0<w.heap.size:=by
    rcases Nat.eq_zero_or_pos w.heap.size with h0 | h
    · simp [World.cell?,h0] at hg
    · exact h
  have hg2:((w.alloc (.cells #[.pointer (some t)] 116)).alloc (.cells #[.pointer (some ⟨2,116,none⟩),.pointer (some ⟨w.heap.size,0,none⟩),.int .u64 150] 197)).cell? ⟨0,0,none⟩=some (.iface 278 (.agg #[.pointer (some ⟨2,30,none⟩)])):=by
    rw [World.cell?_alloc_lt _ _ ⟨0,0,none⟩ (by simp),World.cell?_alloc_lt _ _ ⟨0,0,none⟩ hlt];exact hg
  have htl:t.block<w.heap.size:=by
    rcases Nat.lt_or_ge t.block w.heap.size with h | h
    · exact h
    · simp [World.cell?,Array.getElem?_eq_none h] at ht0
  have el:=Q9u ⟨w.heap.size,0,none⟩ t (((w.alloc (.cells #[.pointer (some t)] 116)).alloc (.cells #[.pointer (some ⟨2,116,none⟩),.pointer (some ⟨w.heap.size,0,none⟩),.int .u64 150] 197)).alloc (.cells #[.pointer (some ⟨2,116,none⟩),.pointer (some ⟨w.heap.size,0,none⟩),.int .u64 150] 197)) (by rw [World.cell?_alloc_lt _ _ ⟨w.heap.size,0,none⟩ (by simp;omega)];simp)
  have st:=Zfb t ⟨w.heap.size+1+1+1,0,none⟩ e old ((((w.alloc (.cells #[.pointer (some t)] 116)).alloc (.cells #[.pointer (some ⟨2,116,none⟩),.pointer (some ⟨w.heap.size,0,none⟩),.int .u64 150] 197)).alloc (.cells #[.pointer (some ⟨2,116,none⟩),.pointer (some ⟨w.heap.size,0,none⟩),.int .u64 150] 197)).alloc (.cells #[.int .i64 e] 103))
    (by rw [World.cell?_alloc_at _ _ _ _ (by simp)];rfl)
    (by rw [World.cell?_alloc_lt _ _ t (by simp;omega),World.cell?_alloc_lt _ _ t (by simp;omega),World.cell?_alloc_lt _ _ t (by simp;omega),World.cell?_alloc_lt _ _ t htl];exact ht0)
    (by rw [World.frozen?_alloc_old _ _ t (by simp;omega),World.frozen?_alloc_old _ _ t (by simp;omega),World.frozen?_alloc_old _ _ t (by simp;omega),World.frozen?_alloc_old _ _ t (Nat.ne_of_lt htl)];exact hf0)
  go_enter Tryz.func47,Tryz.ntmps47
  go_wp2
  refine wp_loop_rounds 1 ?_
  rw [rounds_succ]
  go_wp2
  go_ret
  exact ⟨rfl,rfl⟩
end Go.Proofs.YtfeekmmfdkfgmaaGreatDoor
