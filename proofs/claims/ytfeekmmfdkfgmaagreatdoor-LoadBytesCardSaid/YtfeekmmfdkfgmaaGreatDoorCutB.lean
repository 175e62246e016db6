/-
Go's slices.Backward over a slice of int32: the iterator's contract.
Conditions: the slice's cells lie as they lay when a round goes on.
-/
import Derived.RangeFuncBox
import Derived.RangeFuncFrom
import Derived.RangeFuncLeaves
import Derived.RangeFuncCalls
import Derived.Shelf.Abstract
import Derived.WalkKit
import Derived.OwnWalkIn
import Derived.TacticsInMore
import Derived.LoopNIn
import Derived.LoopIn
import Derived.Test.YtfeekmmfdkfgmaaGreatDoorSn
set_option linter.unusedVariables false
set_option linter.unusedSimpArgs false
namespace Go.Proofs.YtfeekmmfdkfgmaaGreatDoor
open Go Go.RowKit Go.Shelf
namespace Cut
attribute [local go_sem] Oper.semAt_some
def upto {α:Type} (f:Nat→α) (k:Nat):List α:=(List.range k).map f
theorem Q42 {α:Type} (f:Nat→α) (k:Nat):upto f (k+1)=upto f k++[f k]:=by simp [upto,List.range_succ]
theorem Qwa {α:Type} (f:Nat→α) (k:Nat):(upto f k).length=k:=by simp [upto]
abbrev Nn (m:Nat):={y:Int // 0≤y∧y<m}
def Kb (Bs b:Nat) (W W':World):Prop:=W'.heap[Bs]?=W.heap[Bs]?∧W'.heap[b]?=W.heap[b]?
set_option maxRecDepth 100000 in
set_option maxHeartbeats 2000000 in
theorem Zjw {m:Nat} (F:Fence) (n:Nat) (h8:F.fn 307) (hro:F.round=none) (hn:1≤n) (l Bs b off len cap:Nat) (zs:Nat→Nn m) (hreach:len*8≤140737488351232) (J Jx:List (Int × Nn m)→World→Prop)
    (hY:∀pre x W,J pre W→pre.length<len→YieldAt F (n-1) Tryz.prog l #[.int .i64 x.1,.int .i32 x.2.1] W fun e W'=>
      (e=.returned (.bool true)∧J (pre++[x]) W'∧Kb Bs b W W')∨(e=.returned (.bool false)∧Jx (pre++[x]) W'))
    (W:World) (hBs:W.cell? ⟨Bs,0,none⟩=some (.slice (some ⟨b,off,none⟩) len cap)) (hc:∀j,j<len→W.cell? ⟨b,off+j,none⟩=some (.int .i32 (zs j).1)) (h0:J [] W) :
    CallsIn F n Tryz.prog 307 #[.func (.yield l) #[] #[],.pointer (some ⟨Bs,0,none⟩)] W fun e W'=>(∃v,e=.returned v)∧
      ((∃ys,ys=upto (fun j=>((len:Int)-1-(j:Int),zs (len-1-j))) len∧J ys W')∨(∃pre,True∧Jx pre W')):=by
  refine callsIn_of_wp Tryz.func307 rfl h8 ?_ hro
  simp only [Tryz.ntmps307,List.size_toArray,List.length_cons,List.length_nil,Nat.reduceAdd,Nat.reduceSub,Array.replicate_succ,Array.replicate_zero,List.push_toArray,List.append_toArray,List.nil_append,List.cons_append]
  gi_wp2
  gi_loopw [3] (fun i wr=>∃k:Nat,k≤len∧i=.int .i64 ((len:Int)-1-(k:Int))∧J (upto (fun j=>((len:Int)-1-(j:Int),zs (len-1-j))) k) wr∧Kb Bs b W wr)
    (fun i _=>(intOf i+1).toNat)
  case atStart=>exact ⟨0,Nat.zero_le _,by simp,h0,rfl,rfl⟩
  case round=>
    obtain ⟨k,hk,rfl,hJs,hnx⟩:=hrel
    have hcB:wr.cell? ⟨Bs,0,none⟩=some (.slice (some ⟨b,off,none⟩) len cap):=(World.cell?_of_block (a:=⟨Bs,0,none⟩) hnx.1).trans hBs
    by_cases hlt:k<len
    · obtain ⟨i,hm,hml,hmk⟩:∃i:Nat,(len:Int)-1-(k:Int)=(i:Int)∧i<len∧len-1-k=i:=⟨len-1-k,by omega,by omega,rfl⟩
      have hcx:wr.cell? ⟨b,off+i,none⟩=some (.int .i32 (zs i).1):=(World.cell?_of_block (a:=⟨b,off+i,none⟩) hnx.2).trans (hc i hml)
      obtain ⟨fn,tmps,assign,body,hy,hR⟩:=hY _ ((i:Int),zs i) wr hJs (by rw [Qwa];exact hlt)
      dsimp only at hy
      rw [hm]
      gi_wp2
      refine hR.mono ?_
      rintro e W3 (⟨rfl,hJ3,hk3⟩ | ⟨rfl,hJx3⟩)
      · gi_wp2
        go_roundw
        case rel => exact ⟨k + 1, by omega, by have : (len : Int) - 1 - ((k + 1 : Nat) : Int) = (i : Int) - 1 := by omega
                                               rw [this],by rw [Q42,hm,hmk];exact hJ3,hk3.1.trans hnx.1,hk3.2.trans hnx.2⟩
        case measure=>simp [intOf]
      · gi_wp2
        refine bodyPost_ret (results_none rfl _ _ _) rfl ?_
        exact ⟨⟨_,rfl⟩,.inr ⟨_,trivial,hJx3⟩⟩
    · obtain rfl:k=len:=by omega
      gi_wp2
      go_end0
      exact ⟨⟨_,rfl⟩,.inl ⟨_,rfl,hJs⟩⟩
theorem Q9q {m:Nat} (F:Fence) (n:Nat) (h8:F.fn 307) (hro:F.round=none) (hn:1≤n) (Bs b off len cap:Nat) (zs:Nat→Nn m) (hreach:len*8≤140737488351232) (w:World) (hBl:Bs<w.heap.size) (hbl:b<w.heap.size)
    (hBs:w.cell? ⟨Bs,0,none⟩=some (.slice (some ⟨b,off,none⟩) len cap)) (hc:∀j,j<len→w.cell? ⟨b,off+j,none⟩=some (.int .i32 (zs j).1)) :
    SeqStopsK F n Tryz.prog 307 #[.pointer (some ⟨Bs,0,none⟩)] (fun x:Int × Nn m=>#[.int .i64 x.1,.int .i32 x.2.1]) (Kb Bs b)
      (fun ys=>ys=upto (fun j=>((len:Int)-1-(j:Int),zs (len-1-j))) len) (fun _=>True) len w:=fun l J Jx W hW _ _ hY h0=>
  Zjw F n h8 hro hn l Bs b off len cap zs hreach J Jx hY W ((hW.cell (p:=⟨Bs,0,none⟩) hBl).trans hBs) (fun j hj=>(hW.cell (p:=⟨b,off+j,none⟩) hbl).trans (hc j hj)) h0
theorem Q3h {P:Program} {l n:Nat} {o:Oper} {a:Act} {w w':World} {v:Value} {next:Act→World→Prop} {Q:Exit→Act→World→Prop} (hnd:∀c,o.op≠.defer c) (h:(execOp a.eval o).run P w=.ok (.value v) w') (hk:next (a.put o.dst v) w') :
    o.wpIn (Fence.wide.inRound l) n P a w next Q:=by
  refine ⟨fun _ _=>trivial,?_⟩
  have e:(o.semAt (Fence.wide.inRound l).round a.eval)=execOp a.eval o:=Oper.semAt_some l _ _ hnd
  rw [e,h];exact hk
theorem Q82 {P:Program} {l n g:Nat} {o:Oper} {a:Act} {w w':World} {args:Array Value} {next:Act→World→Prop} {Q:Exit→Act→World→Prop} (hnd:∀c,o.op≠.defer c) (h:(execOp a.eval o).run P w=.ok (.enter g args) w')
    {R:Value→World→Prop} (hc:Calls P g args w' fun e w''=>∃v,e=.returned v∧R v w'') (hk:∀v w'',R v w''→next (a.put o.dst v) w'') :
    o.wpIn (Fence.wide.inRound l) n P a w next Q:=by
  refine ⟨fun _ _=>trivial,?_⟩
  have e:(o.semAt (Fence.wide.inRound l).round a.eval)=execOp a.eval o:=Oper.semAt_some l _ _ hnd
  rw [e,h]
  refine ⟨fun hd=>(by cases hd),CallsIn.inRound l (callsIn_wide.2 (hc.mono ?_))⟩
  rintro e w'' ⟨v,rfl,hv⟩
  exact hk v w'' hv
end Cut
end Go.Proofs.YtfeekmmfdkfgmaaGreatDoor
