/-
errors.As at a variable of api.Errno, the error being an api.Errno: after the kit's worked text of the toy 'toyas', its numbers turned to this program by a script.
Conditions: those that each theorem states.
-/
import Derived.Test.YtokjfdggpapkbaaGreatDoorSn
import Derived.WalkKit
import Derived.LaidEql
import Derived.Stop.Asserts
import Derived.RowKitTokens
namespace Go.Proofs.YtokjfdggpapkbaaGreatDoor
open Go Go.RowKit Go.Extern.Stop Go.Stop Go.Extern
theorem as_nil (t:Value) (w:World) :
    Calls Tryz.prog 65 #[.nilIface,t] w fun e w'=>e=.returned (.bool false)∧w'=w:=by
  go_enter Tryz.func65,Tryz.ntmps65
  go_wp2
  go_ret
  exact ⟨rfl,rfl⟩
theorem Q0w (t:Addr) (w:World):(ReflectliteValue.unpack (.iface 147 (.pointer (some t)))).run Tryz.prog w
    = .ok (.agg #[.pointer (some ⟨3,147,none⟩),.pointer (some ⟨w.heap.size,0,none⟩),.int .u64 150]) (w.alloc (.cells #[.pointer (some t)] 147)):=by kernel_rfl
theorem As_type27 (a : Addr) (w : World) : (ReflectliteValue.methodAny (ReflectliteValue.valueError "reflectlite.Value.Type" 0) (fun t _ _ _ => ReflectliteType.toType t) #[.agg #[.pointer (some ⟨3, 147, none⟩), .pointer (some a), .int .u64 150]]).run Tryz.prog w
    = .ok (.iface 347 (.agg #[.pointer (some ⟨3,147,none⟩)])) w:=by kernel_rfl
theorem Qz1 (h : Value) (w : World) : (Go.method 651 347 (.agg #[h]) "Kind").run Tryz.prog w = .ok (421, h) w := by kernel_rfl
theorem As_kind27 (w:World):((ReflectliteType.abiMethod fun t=>(fun a:Nat=>Value.int IntKind.u8 (a:Int)) <$> Rtype.kind t) #[.pointer (some ⟨3,147,none⟩)]).run Tryz.prog w=.ok (.int .u8 22) w:=by kernel_rfl
theorem As_kind25 (w:World):((ReflectliteType.abiMethod fun t=>(fun a:Nat=>Value.int IntKind.u8 (a:Int)) <$> Rtype.kind t) #[.pointer (some ⟨3,140,none⟩)]).run Tryz.prog w=.ok (.int .u8 2) w:=by kernel_rfl
theorem rlm (z:Sem Value) (f:TypeId→Addr→Nat→Nat→Sem Value) (v:Value) :
    ReflectliteValue.method z f #[v]=(do match ←ReflectliteValue.parts v with | none=>z | some (t,a,fl)=>f t a fl (fl % 32)):=rfl
theorem Qyw (a:Addr) (w:World):(ReflectliteValue.parts (.agg #[.pointer (some ⟨3,147,none⟩),.pointer (some a),.int .u64 150])).run Tryz.prog w=.ok (some (147,a,150)) w:=by kernel_rfl
theorem As_isNil27 (a p:Addr) (W:World) (ha:W.cell? a=some (.pointer (some p))) :
    (ReflectliteValue.method (ReflectliteValue.valueError "reflectlite.Value.IsNil" 0) ReflectliteValue.isNil #[.agg #[.pointer (some ⟨3, 147, none⟩), .pointer (some a), .int .u64 150]]).run Tryz.prog W = .ok (.bool false) W := by
  rw [rlm]
  simp only [Sem.run_bind,Qyw,Result.andThen]
  simp [ReflectliteValue.isNil,loadVar,isAgg,underlying,Tryz.underlying147,ha,Result.andThen]
theorem Qz2 (h : Value) (w : World) : (Go.method 651 347 (.agg #[h]) "Elem").run Tryz.prog w = .ok (432, .agg #[h]) w := by kernel_rfl
theorem Qtk (h : Value) (w : World) : (Go.method 651 347 (.agg #[h]) "Implements").run Tryz.prog w = .ok (433, .agg #[h]) w := by kernel_rfl
theorem Qrk (h : Value) (w : World) : (Go.method 651 347 (.agg #[h]) "AssignableTo").run Tryz.prog w = .ok (430, .agg #[h]) w := by kernel_rfl
theorem As_elem27 (w:World):(ReflectliteType.method ReflectliteType.elem #[.agg #[.pointer (some ⟨3,147,none⟩)]]).run Tryz.prog w=.ok (.iface 347 (.agg #[.pointer (some ⟨3,140,none⟩)])) w:=by kernel_rfl
theorem Qxv (w : World) : (ReflectliteType.relation "Implements" ReflectliteType.implements_ #[.agg #[.pointer (some ⟨3, 140, none⟩)], .iface 347 (.agg #[.pointer (some ⟨3, 30, none⟩)])]).run Tryz.prog w = .ok (.bool true) w := by kernel_rfl
theorem Q13 (v:Value) (w:World):(ReflectliteType.typeOf #[.iface 140 v]).run Tryz.prog w=.ok (.iface 347 (.agg #[.pointer (some ⟨3,140,none⟩)])) w:=by kernel_rfl
theorem Qxw (w : World) : (ReflectliteType.relation "AssignableTo" ReflectliteType.assignableTo #[.agg #[.pointer (some ⟨3, 140, none⟩)], .iface 347 (.agg #[.pointer (some ⟨3, 140, none⟩)])]).run Tryz.prog w = .ok (.bool true) w := by kernel_rfl
theorem Q0x (e:Int) (w:World):(ReflectliteValue.unpack (.iface 140 (.int .i64 e))).run Tryz.prog w
    = .ok (.agg #[.pointer (some ⟨3,140,none⟩),.pointer (some ⟨w.heap.size,0,none⟩),.int .u64 130]) (w.alloc (.cells #[.int .i64 e] 140)):=by kernel_rfl
theorem Q15 (w:World):(Rtype.elem? 147).run Tryz.prog w=.ok (some 140) w:=by kernel_rfl
theorem As_mk25 (p:Addr) (w:World):(ReflectliteValue.mk 140 p ReflectliteValue.flagAddr).run Tryz.prog w=.ok (.agg #[.pointer (some ⟨3,140,none⟩),.pointer (some p),.int .u64 386]) w:=by kernel_rfl
theorem As_elemV27 (a p:Addr) (W:World) (ha:W.cell? a=some (.pointer (some p))) :
    (ReflectliteValue.method (ReflectliteValue.valueError "reflectlite.Value.Elem" 0) ReflectliteValue.elem #[.agg #[.pointer (some ⟨3, 147, none⟩), .pointer (some a), .int .u64 150]]).run Tryz.prog W
      = .ok (.agg #[.pointer (some ⟨3,140,none⟩),.pointer (some p),.int .u64 386]) W:=by
  rw [rlm]
  simp only [Sem.run_bind,Qyw,Result.andThen]
  simp [ReflectliteValue.elem,loadVar,isAgg,underlying,Tryz.underlying147,ha,Result.andThen,Q15,As_mk25]
theorem rls (v x:Value):ReflectliteValue.set #[v,x]=(do
    let (some (dst,a,fl),some (src,b,_)):=(←ReflectliteValue.parts v,←ReflectliteValue.parts x)
      | unsupported (.noEntry "extern/(internal/reflectlite.Value).Set.zeroValue")
    if fl / ReflectliteValue.flagAddr % 2 == 0 then unsupported (.noEntry "extern/(internal/reflectlite.Value).Set.unaddressable")
    let val ←loadVar src b
    if ←Rtype.directlyAssignable dst src then storeVar dst a val
    else if ←Rtype.implements dst src then
      if (←Rtype.kind src)==20 then
        match val with
        | .nilIface => unsupported (.noEntry "extern/reflectlite: a nil value of one interface type handed on as a value of another")
        | _=>storeVar dst a val
      else storeVar dst a (.iface src val)
    else panicString ("reflectlite.Set: value of type " ++ (← Rtype.spelt src) ++ " is not assignable to type " ++ (← Rtype.spelt dst))
    pure (.tuple #[])):=rfl
theorem Q14 (a:Addr) (w:World):(ReflectliteValue.parts (.agg #[.pointer (some ⟨3,140,none⟩),.pointer (some a),.int .u64 386])).run Tryz.prog w=.ok (some (140,a,386)) w:=by kernel_rfl
theorem As_parts25 (a:Addr) (w:World):(ReflectliteValue.parts (.agg #[.pointer (some ⟨3,140,none⟩),.pointer (some a),.int .u64 130])).run Tryz.prog w=.ok (some (140,a,130)) w:=by kernel_rfl
theorem Q16 (w:World):(Rtype.directlyAssignable 140 140).run Tryz.prog w=.ok true w:=by kernel_rfl
theorem As_size25 (w:World):(sizeOf 140).run Tryz.prog w=.ok 1 w:=by kernel_rfl
theorem As_set25 (ta b:Addr) (e:Int) (old:Value) (W:World) (hb:W.cell? b=some (.int .i64 e)) (ht:W.cell? ta=some old) (hf:W.frozen? ta=false) :
    (ReflectliteValue.set #[.agg #[.pointer (some ⟨3,140,none⟩),.pointer (some ta),.int .u64 386],.agg #[.pointer (some ⟨3,140,none⟩),.pointer (some b),.int .u64 130]]).run Tryz.prog W
      = .ok (.tuple #[]) (W.setCell ta (.int .i64 e)):=by
  rw [rls]
  simp only [Sem.run_bind,Q14,As_parts25,Result.andThen]
  simp [ReflectliteValue.flagAddr,loadVar,isAgg,underlying,Tryz.underlying140,hb,Result.andThen,Q16,storeVar,Value.cells,storeCells,Addr.add]
  rw [run_store Tryz.prog W ta _ _ (by rfl)]
  simp [ht,hf]
set_option maxHeartbeats 4000000 in
theorem as_hit (e:Int) (t:Addr) (old:Value) (w:World) (hg:w.cell? ⟨0,0,none⟩=some (.iface 347 (.agg #[.pointer (some ⟨3,30,none⟩)]))) (ht0:w.cell? t=some old) (hf0:w.frozen? t=false) :
    Calls Tryz.prog 65 #[.iface 140 (.int .i64 e),.iface 147 (.pointer (some t))] w fun ev w'=>ev=.returned (.bool true)∧w'=((((w.alloc (.cells #[.pointer (some t)] 147)).alloc (.cells #[.pointer (some ⟨3,147,none⟩),.pointer (some ⟨w.heap.size,0,none⟩),.int .u64 150] 251)).alloc (.cells #[.pointer (some ⟨3,147,none⟩),.pointer (some ⟨w.heap.size,0,none⟩),.int .u64 150] 251)).alloc (.cells #[.int .i64 e] 140)).setCell t (.int .i64 e):=by
  have h6:=@run_callFunc_extern Tryz.prog 145 _ (fun args=>ReflectliteValue.unpack (args.getD 0 (.tuple #[]))) Tryz.func145 (by kernel_rfl) (by kernel_rfl) (by kernel_rfl) (by kernel_rfl)
  have h7 := @run_callFunc_extern Tryz.prog 146 _ (ReflectliteValue.methodAny (ReflectliteValue.valueError "reflectlite.Value.Type" 0) (fun t _ _ _ => ReflectliteType.toType t)) Tryz.func146 (by kernel_rfl) (by kernel_rfl) (by kernel_rfl) (by kernel_rfl)
  have h8 := @run_callFunc_extern Tryz.prog 147 _ (ReflectliteValue.method (ReflectliteValue.valueError "reflectlite.Value.IsNil" 0) ReflectliteValue.isNil) Tryz.func147 (by kernel_rfl) (by kernel_rfl) (by kernel_rfl) (by kernel_rfl)
  have h27:=@run_callFunc_extern Tryz.prog 421 _ (ReflectliteType.abiMethod fun t=>do pure (.int .u8 (←Rtype.kind t))) Tryz.func421 (by kernel_rfl) (by kernel_rfl) (by kernel_rfl) (by kernel_rfl)
  have h37:=@run_callFunc_extern Tryz.prog 432 _ (ReflectliteType.method ReflectliteType.elem) Tryz.func432 (by kernel_rfl) (by kernel_rfl) (by kernel_rfl) (by kernel_rfl)
  have h38 := @run_callFunc_extern Tryz.prog 433 _ (ReflectliteType.relation "Implements" ReflectliteType.implements_) Tryz.func433 (by kernel_rfl) (by kernel_rfl) (by kernel_rfl) (by kernel_rfl)
  have h10:=@run_callFunc_extern Tryz.prog 231 _ ReflectliteType.typeOf Tryz.func231 (by kernel_rfl) (by kernel_rfl) (by kernel_rfl) (by kernel_rfl)
  have h35 := @run_callFunc_extern Tryz.prog 430 _ (ReflectliteType.relation "AssignableTo" ReflectliteType.assignableTo) Tryz.func430 (by kernel_rfl) (by kernel_rfl) (by kernel_rfl) (by kernel_rfl)
  have h11 := @run_callFunc_extern Tryz.prog 232 _ (ReflectliteValue.method (ReflectliteValue.valueError "reflectlite.Value.Elem" 0) ReflectliteValue.elem) Tryz.func232 (by kernel_rfl) (by kernel_rfl) (by kernel_rfl) (by kernel_rfl)
  have h12:=@run_callFunc_extern Tryz.prog 233 _ ReflectliteValue.set Tryz.func233 (by kernel_rfl) (by kernel_rfl) (by kernel_rfl) (by kernel_rfl)
  have tO:=Q13
  have mA:=Qrk
  have a25:=Qxw
  have v25:=Q0x
  have f6:=Q0w
  have f7:=As_type27
  have mK:=Qz1
  have mE:=Qz2
  have mI:=Qtk
  have k27:=As_kind27
  have k25:=As_kind25
  have e27:=As_elem27
  have i25:=Qxv
  have n8:=As_isNil27 ⟨w.heap.size,0,none⟩ t ((w.alloc (.cells #[.pointer (some t)] 147)).alloc (.cells #[.pointer (some ⟨3,147,none⟩),.pointer (some ⟨w.heap.size,0,none⟩),.int .u64 150] 251)) (by simp)
  have hlt:0<w.heap.size:=by
    rcases Nat.eq_zero_or_pos w.heap.size with h0 | h
    · simp [World.cell?,h0] at hg
    · exact h
  have hg2:((w.alloc (.cells #[.pointer (some t)] 147)).alloc (.cells #[.pointer (some ⟨3,147,none⟩),.pointer (some ⟨w.heap.size,0,none⟩),.int .u64 150] 251)).cell? ⟨0,0,none⟩=some (.iface 347 (.agg #[.pointer (some ⟨3,30,none⟩)])):=by
    rw [World.cell?_alloc_lt _ _ ⟨0,0,none⟩ (by simp),World.cell?_alloc_lt _ _ ⟨0,0,none⟩ hlt];exact hg
  have htl:t.block<w.heap.size:=by
    rcases Nat.lt_or_ge t.block w.heap.size with h | h
    · exact h
    · simp [World.cell?,Array.getElem?_eq_none h] at ht0
  have el:=As_elemV27 ⟨w.heap.size,0,none⟩ t (((w.alloc (.cells #[.pointer (some t)] 147)).alloc (.cells #[.pointer (some ⟨3,147,none⟩),.pointer (some ⟨w.heap.size,0,none⟩),.int .u64 150] 251)).alloc (.cells #[.pointer (some ⟨3,147,none⟩),.pointer (some ⟨w.heap.size,0,none⟩),.int .u64 150] 251)) (by rw [World.cell?_alloc_lt _ _ ⟨w.heap.size,0,none⟩ (by simp;omega)];simp)
  have st:=As_set25 t ⟨w.heap.size+1+1+1,0,none⟩ e old ((((w.alloc (.cells #[.pointer (some t)] 147)).alloc (.cells #[.pointer (some ⟨3,147,none⟩),.pointer (some ⟨w.heap.size,0,none⟩),.int .u64 150] 251)).alloc (.cells #[.pointer (some ⟨3,147,none⟩),.pointer (some ⟨w.heap.size,0,none⟩),.int .u64 150] 251)).alloc (.cells #[.int .i64 e] 140))
    (by rw [World.cell?_alloc_at _ _ _ _ (by simp)];rfl)
    (by rw [World.cell?_alloc_lt _ _ t (by simp;omega),World.cell?_alloc_lt _ _ t (by simp;omega),World.cell?_alloc_lt _ _ t (by simp;omega),World.cell?_alloc_lt _ _ t htl];exact ht0)
    (by rw [World.frozen?_alloc_old _ _ t (by simp;omega),World.frozen?_alloc_old _ _ t (by simp;omega),World.frozen?_alloc_old _ _ t (by simp;omega),World.frozen?_alloc_old _ _ t (Nat.ne_of_lt htl)];exact hf0)
  go_enter Tryz.func65,Tryz.ntmps65
  go_wp2
  refine wp_loop_rounds 1 ?_
  rw [rounds_succ]
  go_wp2
  go_ret
  exact ⟨rfl,rfl⟩
end Go.Proofs.YtokjfdggpapkbaaGreatDoor
