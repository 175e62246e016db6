/-
The trees of layer 6 in memory: a Qct as a row of records; loads and stores of its fields.
Conditions: none of its own.
-/
import Derived.Test.YtfeekmmfdkfgmaaGreatDoorSeqW
import Derived.Test.YtfeekmmfdkfgmaaGreatDoorHsh
import Derived.Test.YtfeekmmfdkfgmaaGreatDoorGCutA
set_option linter.unusedVariables false
set_option linter.unusedSimpArgs false
namespace Go.Proofs.YtfeekmmfdkfgmaaGreatDoor
open Go
namespace Cut
open Go.Proofs.YtfeekmmfdkfgmaaGreatDoor.Seq
structure IsF (h:Array Obj) (F L n:Nat) (s:S):Prop where
 f:Row h F 303 [.slice (some ⟨L,0,none⟩) n n]
 l:Row h L 305 (recs (encS s) n)
 ne:F≠L
structure St (w₀ w:World) (F L n:Nat) (s:S):Prop where
 i:IsF w.heap F L n s
 c:Chg (·=L) w₀ w
 lt:F<w₀.heap.size∧L<w₀.heap.size
section
variable {w₀ w:World} {F L n:Nat} {s:S}
theorem St.drew (h:St w₀ w F L n s):St w₀ w.drew F L n s:=⟨h.i,h.c.drew,h.lt⟩
theorem stf {p:Prop} (h:p:=by first | assumption | exact St.drew (by assumption) | exact St.drew (St.drew (by assumption)) | exact St.drew (St.drew (St.drew (by assumption)))):p:=h
theorem St.start (h:IsF w.heap F L n s):St w w F L n s:=⟨h,Chg.refl _ _,h.f.lt,h.l.lt⟩
theorem IsF.alloc (h:IsF w.heap F L n s) (o:Obj):IsF (w.alloc o).heap F L n s:=⟨h.f.alloc o,h.l.alloc o,h.ne⟩
theorem St.alloc (h:St w₀ w F L n s) (o:Obj):St w₀ (w.alloc o) F L n s:=⟨h.i.alloc o,h.c.alloc o,h.lt⟩
theorem St.trans {w':World} {t:S} (h:St w₀ w F L n s) (k:St w w' F L n t):St w₀ w' F L n t:=⟨k.i,h.c.trans k.c,h.lt⟩
theorem IsF.chg {w w':World} (h:IsF w.heap F L n s) {T:Nat→Prop} (c:Chg T w w') (hF:¬T F) (hL:¬T L):IsF w'.heap F L n s:=⟨c.row hF h.f,c.row hL h.l,h.ne⟩
theorem St.own {w':World} (h:St w₀ w F L n s) (k:Chg (w₀.heap.size≤·) w w'):St w₀ w' F L n s:=
 ⟨h.i.chg k (by have:=h.lt.1;omega) (by have:=h.lt.2;omega),h.c.trans' k (fun i hi=>.inr hi),h.lt⟩
theorem Qdx {K:Option Addr→Nat→Nat→Prop} (h:St w₀ w F L n s) (k:K (some ⟨L,0,none⟩) n n):ldS ⟨F,0,none⟩ w K:=Qai h.i.f rfl k
theorem Qa1 {i:Int} {K:Addr→Prop} (h0:0≤i) (h1:i<n) (k:K ⟨L,i.toNat*9,none⟩):ixS (some ⟨L,0,none⟩) n i 9 K:=Qwi h0 h1 (by rw [Nat.zero_add];exact k)
theorem St.cell (h:St w₀ w F L n s) {i k:Nat} (hi:i<n) (hk:k<9):w.cell? ⟨L,i*9+k,none⟩=(encS s i)[k]?:=by
 rw [h.i.l.cell,Qdb (encS s) (Q0t s) hi hk]
theorem St.set (h:St w₀ w F L n s) {t:S} {i k:Nat} (hi:i<n) (hk:k<9) {v:Value} (ho:∀j,j≠i→encS t j=encS s j) (hx:encS t i=(encS s i).set k v):St w₀ (w.setCell ⟨L,i*9+k,none⟩ v) F L n t:=
 ⟨⟨h.i.f.Qdk _ _ (fun e=>h.i.ne e.symm),by rw [←Qca (encS s) (Q0t s) hi hk ho hx];exact h.i.l.set _ _,h.i.ne⟩,h.c.setCell _ _ (.inl rfl),h.lt⟩
theorem Qyt {i:Int} {K:Int→Prop} (h:St w₀ w F L n s) (h1:i.toNat<n) (k:K (s.up i.toNat)):ldI .i32 (Addr.mk L (i.toNat*9) none) w K:=by
 have e:(Addr.mk L (i.toNat*9) none)=Addr.mk L (i.toNat*9+0) none:=rfl
 rw [e]
 exact ⟨_,h.cell h1 (by decide:0<9),k⟩
theorem Qwd {i:Int} {v:Int} {K:World→Prop} (h:St w₀ w F L n s) (h1:i.toNat<n) (k:∀w',St w₀ w' F L n (s.w_up i.toNat v)→K w'):sto (Addr.mk L (i.toNat*9) none) (.int .i32 v) w K:=by
 have e:(Addr.mk L (i.toNat*9) none)=Addr.mk L (i.toNat*9+0) none:=rfl
 rw [e]
 exact ⟨rfl,⟨_,h.cell h1 (by decide:0<9)⟩,h.i.l.frozen _,k _ (h.set h1 (by decide) (fun j hj=>by simp [encS,Qag _ _ hj]) (by simp [encS,Qab]))⟩
theorem Qsy {i:Int} {K:Int→Prop} (h:St w₀ w F L n s) (h1:i.toNat<n) (k:K (s.left i.toNat)):ldI .i32 ((Addr.mk L (i.toNat*9) none).add 1) w K:=by
 have e:((Addr.mk L (i.toNat*9) none).add 1)=Addr.mk L (i.toNat*9+1) none:=Qad _ _ _
 rw [e]
 exact ⟨_,h.cell h1 (by decide:1<9),k⟩
theorem Qsc {i:Int} {v:Int} {K:World→Prop} (h:St w₀ w F L n s) (h1:i.toNat<n) (k:∀w',St w₀ w' F L n (s.Qa5 i.toNat v)→K w'):sto ((Addr.mk L (i.toNat*9) none).add 1) (.int .i32 v) w K:=by
 have e:((Addr.mk L (i.toNat*9) none).add 1)=Addr.mk L (i.toNat*9+1) none:=Qad _ _ _
 rw [e]
 exact ⟨rfl,⟨_,h.cell h1 (by decide:1<9)⟩,h.i.l.frozen _,k _ (h.set h1 (by decide) (fun j hj=>by simp [encS,Qag _ _ hj]) (by simp [encS,Qab]))⟩
theorem Qnw {i:Int} {K:Int→Prop} (h:St w₀ w F L n s) (h1:i.toNat<n) (k:K (s.right i.toNat)):ldI .i32 ((Addr.mk L (i.toNat*9) none).add 2) w K:=by
 have e:((Addr.mk L (i.toNat*9) none).add 2)=Addr.mk L (i.toNat*9+2) none:=Qad _ _ _
 rw [e]
 exact ⟨_,h.cell h1 (by decide:2<9),k⟩
theorem Qmt {i:Int} {v:Int} {K:World→Prop} (h:St w₀ w F L n s) (h1:i.toNat<n) (k:∀w',St w₀ w' F L n (s.Qa3 i.toNat v)→K w'):sto ((Addr.mk L (i.toNat*9) none).add 2) (.int .i32 v) w K:=by
 have e:((Addr.mk L (i.toNat*9) none).add 2)=Addr.mk L (i.toNat*9+2) none:=Qad _ _ _
 rw [e]
 exact ⟨rfl,⟨_,h.cell h1 (by decide:2<9)⟩,h.i.l.frozen _,k _ (h.set h1 (by decide) (fun j hj=>by simp [encS,Qag _ _ hj]) (by simp [encS,Qab]))⟩
theorem Qlx {i:Int} {K:Bool→Prop} (h:St w₀ w F L n s) (h1:i.toNat<n) (k:K (s.turned i.toNat)):ldB ((Addr.mk L (i.toNat*9) none).add 3) w K:=by
 have e:((Addr.mk L (i.toNat*9) none).add 3)=Addr.mk L (i.toNat*9+3) none:=Qad _ _ _
 rw [e]
 exact ⟨_,h.cell h1 (by decide:3<9),k⟩
theorem Qw9 {i:Int} {v:Bool} {K:World→Prop} (h:St w₀ w F L n s) (h1:i.toNat<n) (k:∀w',St w₀ w' F L n (s.Qa9 i.toNat v)→K w'):sto ((Addr.mk L (i.toNat*9) none).add 3) (.bool v) w K:=by
 have e:((Addr.mk L (i.toNat*9) none).add 3)=Addr.mk L (i.toNat*9+3) none:=Qad _ _ _
 rw [e]
 exact ⟨rfl,⟨_,h.cell h1 (by decide:3<9)⟩,h.i.l.frozen _,k _ (h.set h1 (by decide) (fun j hj=>by simp [encS,Qag _ _ hj]) (by simp [encS,Qab]))⟩
theorem Qsw {i:Int} {K:Int→Prop} (h:St w₀ w F L n s) (h1:i.toNat<n) (k:K (s.size i.toNat)):ldI .i32 ((Addr.mk L (i.toNat*9) none).add 4) w K:=by
 have e:((Addr.mk L (i.toNat*9) none).add 4)=Addr.mk L (i.toNat*9+4) none:=Qad _ _ _
 rw [e]
 exact ⟨_,h.cell h1 (by decide:4<9),k⟩
theorem Q53 {i:Int} {v:Int} {K:World→Prop} (h:St w₀ w F L n s) (h1:i.toNat<n) (k:∀w',St w₀ w' F L n (s.Qc1 i.toNat v)→K w'):sto ((Addr.mk L (i.toNat*9) none).add 4) (.int .i32 v) w K:=by
 have e:((Addr.mk L (i.toNat*9) none).add 4)=Addr.mk L (i.toNat*9+4) none:=Qad _ _ _
 rw [e]
 exact ⟨rfl,⟨_,h.cell h1 (by decide:4<9)⟩,h.i.l.frozen _,k _ (h.set h1 (by decide) (fun j hj=>by simp [encS,Qag _ _ hj]) (by simp [encS,Qab]))⟩
theorem Quy {i:Int} {K:Int→Prop} (h:St w₀ w F L n s) (h1:i.toNat<n) (k:K (s.value i.toNat)):ldI .i64 ((Addr.mk L (i.toNat*9) none).add 5) w K:=by
 have e:((Addr.mk L (i.toNat*9) none).add 5)=Addr.mk L (i.toNat*9+5) none:=Qad _ _ _
 rw [e]
 exact ⟨_,h.cell h1 (by decide:5<9),k⟩
theorem Q0l {i:Int} {v:Int} {K:World→Prop} (h:St w₀ w F L n s) (h1:i.toNat<n) (k:∀w',St w₀ w' F L n (s.Qbk i.toNat v)→K w'):sto ((Addr.mk L (i.toNat*9) none).add 5) (.int .i64 v) w K:=by
 have e:((Addr.mk L (i.toNat*9) none).add 5)=Addr.mk L (i.toNat*9+5) none:=Qad _ _ _
 rw [e]
 exact ⟨rfl,⟨_,h.cell h1 (by decide:5<9)⟩,h.i.l.frozen _,k _ (h.set h1 (by decide) (fun j hj=>by simp [encS,Qag _ _ hj]) (by simp [encS,Qab]))⟩
theorem Q1m {i:Int} {K:Int→Prop} (h:St w₀ w F L n s) (h1:i.toNat<n) (k:K (s.sum i.toNat)):ldI .i64 ((Addr.mk L (i.toNat*9) none).add 6) w K:=by
 have e:((Addr.mk L (i.toNat*9) none).add 6)=Addr.mk L (i.toNat*9+6) none:=Qad _ _ _
 rw [e]
 exact ⟨_,h.cell h1 (by decide:6<9),k⟩
theorem Q98 {i:Int} {v:Int} {K:World→Prop} (h:St w₀ w F L n s) (h1:i.toNat<n) (k:∀w',St w₀ w' F L n (s.Qgy i.toNat v)→K w'):sto ((Addr.mk L (i.toNat*9) none).add 6) (.int .i64 v) w K:=by
 have e:((Addr.mk L (i.toNat*9) none).add 6)=Addr.mk L (i.toNat*9+6) none:=Qad _ _ _
 rw [e]
 exact ⟨rfl,⟨_,h.cell h1 (by decide:6<9)⟩,h.i.l.frozen _,k _ (h.set h1 (by decide) (fun j hj=>by simp [encS,Qag _ _ hj]) (by simp [encS,Qab]))⟩
theorem Qnx {i:Int} {K:Int→Prop} (h:St w₀ w F L n s) (h1:i.toNat<n) (k:K (s.least i.toNat)):ldI .i64 ((Addr.mk L (i.toNat*9) none).add 7) w K:=by
 have e:((Addr.mk L (i.toNat*9) none).add 7)=Addr.mk L (i.toNat*9+7) none:=Qad _ _ _
 rw [e]
 exact ⟨_,h.cell h1 (by decide:7<9),k⟩
theorem Q3o {i:Int} {v:Int} {K:World→Prop} (h:St w₀ w F L n s) (h1:i.toNat<n) (k:∀w',St w₀ w' F L n (s.Qbz i.toNat v)→K w'):sto ((Addr.mk L (i.toNat*9) none).add 7) (.int .i64 v) w K:=by
 have e:((Addr.mk L (i.toNat*9) none).add 7)=Addr.mk L (i.toNat*9+7) none:=Qad _ _ _
 rw [e]
 exact ⟨rfl,⟨_,h.cell h1 (by decide:7<9)⟩,h.i.l.frozen _,k _ (h.set h1 (by decide) (fun j hj=>by simp [encS,Qag _ _ hj]) (by simp [encS,Qab]))⟩
theorem Qsx {i:Int} {K:Int→Prop} (h:St w₀ w F L n s) (h1:i.toNat<n) (k:K (s.most i.toNat)):ldI .i64 ((Addr.mk L (i.toNat*9) none).add 8) w K:=by
 have e:((Addr.mk L (i.toNat*9) none).add 8)=Addr.mk L (i.toNat*9+8) none:=Qad _ _ _
 rw [e]
 exact ⟨_,h.cell h1 (by decide:8<9),k⟩
theorem Q54 {i:Int} {v:Int} {K:World→Prop} (h:St w₀ w F L n s) (h1:i.toNat<n) (k:∀w',St w₀ w' F L n (s.Qc2 i.toNat v)→K w'):sto ((Addr.mk L (i.toNat*9) none).add 8) (.int .i64 v) w K:=by
 have e:((Addr.mk L (i.toNat*9) none).add 8)=Addr.mk L (i.toNat*9+8) none:=Qad _ _ _
 rw [e]
 exact ⟨rfl,⟨_,h.cell h1 (by decide:8<9)⟩,h.i.l.frozen _,k _ (h.set h1 (by decide) (fun j hj=>by simp [encS,Qag _ _ hj]) (by simp [encS,Qab]))⟩
theorem gF {K:Option Addr→Nat→Nat→Prop} (k:K (some ⟨L,0,none⟩) n n) (h:St w₀ w F L n s:=by exact stf):ldS ⟨F,0,none⟩ w K:=Qdx h k
theorem g0 {i:Int} {K:Int→Prop} (k:K (s.up i.toNat)) (h:St w₀ w F L n s:=by exact stf) (h1:i.toNat<n:=by omega):ldI .i32 (Addr.mk L (i.toNat*9) none) w K:=Qyt h h1 k
theorem s0 {i:Int} {v:Int} {K:World→Prop} (k:∀w',St w₀ w' F L n (s.w_up i.toNat v)→K w') (h:St w₀ w F L n s:=by exact stf) (h1:i.toNat<n:=by omega):sto (Addr.mk L (i.toNat*9) none) (.int .i32 v) w K:=Qwd h h1 k
theorem g1 {i:Int} {K:Int→Prop} (k:K (s.left i.toNat)) (h:St w₀ w F L n s:=by exact stf) (h1:i.toNat<n:=by omega):ldI .i32 ((Addr.mk L (i.toNat*9) none).add 1) w K:=Qsy h h1 k
theorem s1 {i:Int} {v:Int} {K:World→Prop} (k:∀w',St w₀ w' F L n (s.Qa5 i.toNat v)→K w') (h:St w₀ w F L n s:=by exact stf) (h1:i.toNat<n:=by omega):sto ((Addr.mk L (i.toNat*9) none).add 1) (.int .i32 v) w K:=Qsc h h1 k
theorem g2 {i:Int} {K:Int→Prop} (k:K (s.right i.toNat)) (h:St w₀ w F L n s:=by exact stf) (h1:i.toNat<n:=by omega):ldI .i32 ((Addr.mk L (i.toNat*9) none).add 2) w K:=Qnw h h1 k
theorem s2 {i:Int} {v:Int} {K:World→Prop} (k:∀w',St w₀ w' F L n (s.Qa3 i.toNat v)→K w') (h:St w₀ w F L n s:=by exact stf) (h1:i.toNat<n:=by omega):sto ((Addr.mk L (i.toNat*9) none).add 2) (.int .i32 v) w K:=Qmt h h1 k
theorem g3 {i:Int} {K:Bool→Prop} (k:K (s.turned i.toNat)) (h:St w₀ w F L n s:=by exact stf) (h1:i.toNat<n:=by omega):ldB ((Addr.mk L (i.toNat*9) none).add 3) w K:=Qlx h h1 k
theorem s3 {i:Int} {v:Bool} {K:World→Prop} (k:∀w',St w₀ w' F L n (s.Qa9 i.toNat v)→K w') (h:St w₀ w F L n s:=by exact stf) (h1:i.toNat<n:=by omega):sto ((Addr.mk L (i.toNat*9) none).add 3) (.bool v) w K:=Qw9 h h1 k
theorem g4 {i:Int} {K:Int→Prop} (k:K (s.size i.toNat)) (h:St w₀ w F L n s:=by exact stf) (h1:i.toNat<n:=by omega):ldI .i32 ((Addr.mk L (i.toNat*9) none).add 4) w K:=Qsw h h1 k
theorem s4 {i:Int} {v:Int} {K:World→Prop} (k:∀w',St w₀ w' F L n (s.Qc1 i.toNat v)→K w') (h:St w₀ w F L n s:=by exact stf) (h1:i.toNat<n:=by omega):sto ((Addr.mk L (i.toNat*9) none).add 4) (.int .i32 v) w K:=Q53 h h1 k
theorem g5 {i:Int} {K:Int→Prop} (k:K (s.value i.toNat)) (h:St w₀ w F L n s:=by exact stf) (h1:i.toNat<n:=by omega):ldI .i64 ((Addr.mk L (i.toNat*9) none).add 5) w K:=Quy h h1 k
theorem s5 {i:Int} {v:Int} {K:World→Prop} (k:∀w',St w₀ w' F L n (s.Qbk i.toNat v)→K w') (h:St w₀ w F L n s:=by exact stf) (h1:i.toNat<n:=by omega):sto ((Addr.mk L (i.toNat*9) none).add 5) (.int .i64 v) w K:=Q0l h h1 k
theorem g6 {i:Int} {K:Int→Prop} (k:K (s.sum i.toNat)) (h:St w₀ w F L n s:=by exact stf) (h1:i.toNat<n:=by omega):ldI .i64 ((Addr.mk L (i.toNat*9) none).add 6) w K:=Q1m h h1 k
theorem s6 {i:Int} {v:Int} {K:World→Prop} (k:∀w',St w₀ w' F L n (s.Qgy i.toNat v)→K w') (h:St w₀ w F L n s:=by exact stf) (h1:i.toNat<n:=by omega):sto ((Addr.mk L (i.toNat*9) none).add 6) (.int .i64 v) w K:=Q98 h h1 k
theorem g7 {i:Int} {K:Int→Prop} (k:K (s.least i.toNat)) (h:St w₀ w F L n s:=by exact stf) (h1:i.toNat<n:=by omega):ldI .i64 ((Addr.mk L (i.toNat*9) none).add 7) w K:=Qnx h h1 k
theorem s7 {i:Int} {v:Int} {K:World→Prop} (k:∀w',St w₀ w' F L n (s.Qbz i.toNat v)→K w') (h:St w₀ w F L n s:=by exact stf) (h1:i.toNat<n:=by omega):sto ((Addr.mk L (i.toNat*9) none).add 7) (.int .i64 v) w K:=Q3o h h1 k
theorem g8 {i:Int} {K:Int→Prop} (k:K (s.most i.toNat)) (h:St w₀ w F L n s:=by exact stf) (h1:i.toNat<n:=by omega):ldI .i64 ((Addr.mk L (i.toNat*9) none).add 8) w K:=Qsx h h1 k
theorem s8 {i:Int} {v:Int} {K:World→Prop} (k:∀w',St w₀ w' F L n (s.Qc2 i.toNat v)→K w') (h:St w₀ w F L n s:=by exact stf) (h1:i.toNat<n:=by omega):sto ((Addr.mk L (i.toNat*9) none).add 8) (.int .i64 v) w K:=Q54 h h1 k
theorem Zhw {i:Int} {v:Int} {K:World→Prop} (h:St w₀ w F L n s) (h1:i.toNat<n) (k:∀w',St w₀ w' F L n (s.Qc1 i.toNat v)→Chg (·=L) w w'→K w'):sto ((Addr.mk L (i.toNat*9) none).add 4) (.int .i32 v) w K:=by
 have e:((Addr.mk L (i.toNat*9) none).add 4)=Addr.mk L (i.toNat*9+4) none:=Qad _ _ _
 rw [e]
 exact ⟨rfl,⟨_,h.cell h1 (by decide:4<9)⟩,h.i.l.frozen _,k _ (h.set h1 (by decide) (fun j hj=>by simp [encS,Qag _ _ hj]) (by simp [encS,Qab])) ((Chg.refl _ _).setCell _ _ (.inl rfl))⟩
theorem Zko {i:Int} {v:Int} {K:World→Prop} (h:St w₀ w F L n s) (h1:i.toNat<n) (k:∀w',St w₀ w' F L n (s.Qgy i.toNat v)→Chg (·=L) w w'→K w'):sto ((Addr.mk L (i.toNat*9) none).add 6) (.int .i64 v) w K:=by
 have e:((Addr.mk L (i.toNat*9) none).add 6)=Addr.mk L (i.toNat*9+6) none:=Qad _ _ _
 rw [e]
 exact ⟨rfl,⟨_,h.cell h1 (by decide:6<9)⟩,h.i.l.frozen _,k _ (h.set h1 (by decide) (fun j hj=>by simp [encS,Qag _ _ hj]) (by simp [encS,Qab])) ((Chg.refl _ _).setCell _ _ (.inl rfl))⟩
theorem Zdo {i:Int} {v:Int} {K:World→Prop} (h:St w₀ w F L n s) (h1:i.toNat<n) (k:∀w',St w₀ w' F L n (s.Qbz i.toNat v)→Chg (·=L) w w'→K w'):sto ((Addr.mk L (i.toNat*9) none).add 7) (.int .i64 v) w K:=by
 have e:((Addr.mk L (i.toNat*9) none).add 7)=Addr.mk L (i.toNat*9+7) none:=Qad _ _ _
 rw [e]
 exact ⟨rfl,⟨_,h.cell h1 (by decide:7<9)⟩,h.i.l.frozen _,k _ (h.set h1 (by decide) (fun j hj=>by simp [encS,Qag _ _ hj]) (by simp [encS,Qab])) ((Chg.refl _ _).setCell _ _ (.inl rfl))⟩
theorem Zhx {i:Int} {v:Int} {K:World→Prop} (h:St w₀ w F L n s) (h1:i.toNat<n) (k:∀w',St w₀ w' F L n (s.Qc2 i.toNat v)→Chg (·=L) w w'→K w'):sto ((Addr.mk L (i.toNat*9) none).add 8) (.int .i64 v) w K:=by
 have e:((Addr.mk L (i.toNat*9) none).add 8)=Addr.mk L (i.toNat*9+8) none:=Qad _ _ _
 rw [e]
 exact ⟨rfl,⟨_,h.cell h1 (by decide:8<9)⟩,h.i.l.frozen _,k _ (h.set h1 (by decide) (fun j hj=>by simp [encS,Qag _ _ hj]) (by simp [encS,Qab])) ((Chg.refl _ _).setCell _ _ (.inl rfl))⟩
theorem St.nob {w':World} (h:St w₀ w F L n s) (k:Chg Qaa w w'):St w₀ w' F L n s:=⟨h.i.chg k (fun h=>h) (fun h=>h),h.c.trans' k (fun i hi=>hi.elim),h.lt⟩
theorem St.cellF (h:St w₀ w F L n s):w.cell? ⟨F,0,none⟩=some (.slice (some ⟨L,0,none⟩) n n):=by rw [h.i.f.cell];rfl
theorem Qpl {g o:Nat} {K:Addr→Prop} (k:K ((Addr.mk g o none).add 1)):ixA ((Addr.mk g o none).add 1) 2 (0:Int) 1 K:=
 ⟨by decide,by decide,by rw [show ((Addr.mk g o none).add 1).add ((0:Int).toNat*1)=(Addr.mk g o none).add 1 by simp [Qad]];exact k⟩
theorem Qpk {g o:Nat} {K:Addr→Prop} (k:K ((Addr.mk g o none).add 2)):ixA ((Addr.mk g o none).add 1) 2 (1:Int) 1 K:=
 ⟨by decide,by decide,by rw [show ((Addr.mk g o none).add 1).add ((1:Int).toNat*1)=(Addr.mk g o none).add 2 by simp [Qad]];exact k⟩
theorem Zbf {i:Int} {K:Int→Prop} (h:St w₀ w F L n s) (h1:i.toNat<n) (k:K (s.right i.toNat)):ldI .i32 (((Addr.mk L (i.toNat*9) none).add 1).add 1) w K:=by
 rw [show ((Addr.mk L (i.toNat*9) none).add 1).add 1=(Addr.mk L (i.toNat*9) none).add 2 by simp [Qad]]
 exact Qnw h h1 k
theorem gR {i:Int} {K:Int→Prop} (k:K (s.right i.toNat)) (h:St w₀ w F L n s:=by exact stf) (h1:i.toNat<n:=by omega):ldI .i32 (((Addr.mk L (i.toNat*9) none).add 1).add 1) w K:=Zbf h h1 k
theorem add_zero' {g:Nat} {k:Nat}:(Addr.mk g 0 none).add k=Addr.mk g k none:=by rw [Qad,Nat.zero_add]
theorem cp_i {v0 v1 v2 v3 v4 v5 v6 v7 v8:Value} {z0 z1 z2 z3 z4 z5 z6 z7 z8:Value} {w:World} {K:Addr→World→Prop}
  (h:oneC v0=true∧oneC v1=true∧oneC v2=true∧oneC v3=true∧oneC v4=true∧oneC v5=true∧oneC v6=true∧oneC v7=true∧oneC v8=true)
  (k:∀w',Row w'.heap w.heap.size 305 [v0,v1,v2,v3,v4,v5,v6,v7,v8]→Chg Qaa w w'→K ⟨w.heap.size,0,none⟩ w') :
  alo #[z0,z1,z2,z3,z4,z5,z6,z7,z8] 305 w fun a w=>sto a v0 w fun w=>sto (a.add 1) v1 w fun w=>sto (a.add 2) v2 w fun w=>sto (a.add 3) v3 w fun w=>sto (a.add 4) v4 w fun w=>
   sto (a.add 5) v5 w fun w=>sto (a.add 6) v6 w fun w=>sto (a.add 7) v7 w fun w=>sto (a.add 8) v8 w fun w=>K a w:=by
 obtain ⟨h0,h1,h2,h3,h4,h5,h6,h7,h8⟩:=h
 refine Qal fun hr=>?_
 have hc:Chg Qaa w (w.alloc (.cells #[z0,z1,z2,z3,z4,z5,z6,z7,z8] 305)):=(Chg.refl _ _).alloc _
 simp only [add_zero']
 refine Qbg hr (by simp) h0 fun hr=>?_
 replace hc:=hc.setCell ⟨w.heap.size,0,none⟩ v0 (.inr (Nat.le_refl _))
 refine Qbg hr (by simp) h1 fun hr=>?_
 replace hc:=hc.setCell ⟨w.heap.size,1,none⟩ v1 (.inr (Nat.le_refl _))
 refine Qbg hr (by simp) h2 fun hr=>?_
 replace hc:=hc.setCell ⟨w.heap.size,2,none⟩ v2 (.inr (Nat.le_refl _))
 refine Qbg hr (by simp) h3 fun hr=>?_
 replace hc:=hc.setCell ⟨w.heap.size,3,none⟩ v3 (.inr (Nat.le_refl _))
 refine Qbg hr (by simp) h4 fun hr=>?_
 replace hc:=hc.setCell ⟨w.heap.size,4,none⟩ v4 (.inr (Nat.le_refl _))
 refine Qbg hr (by simp) h5 fun hr=>?_
 replace hc:=hc.setCell ⟨w.heap.size,5,none⟩ v5 (.inr (Nat.le_refl _))
 refine Qbg hr (by simp) h6 fun hr=>?_
 replace hc:=hc.setCell ⟨w.heap.size,6,none⟩ v6 (.inr (Nat.le_refl _))
 refine Qbg hr (by simp) h7 fun hr=>?_
 replace hc:=hc.setCell ⟨w.heap.size,7,none⟩ v7 (.inr (Nat.le_refl _))
 refine Qbg hr (by simp) h8 fun hr=>?_
 replace hc:=hc.setCell ⟨w.heap.size,8,none⟩ v8 (.inr (Nat.le_refl _))
 exact k _ hr hc
theorem Q1n {g k:Nat} {e:TypeId} {cs:List Value} {kd:IntKind} {v:Int} {w:World} {K:Int→Prop} (hr:Row w.heap g e cs) (hk:cs[k]?=some (.int kd v)) (kk:K v):ldI kd ((Addr.mk g 0 none).add k) w K:=by
 rw [add_zero'];exact Qaf hr hk kk
theorem Zg9 {g k:Nat} {e:TypeId} {cs:List Value} {v:Value} {w:World} (hr:Row w.heap g e cs) (hk:cs[k]?=some v):w.cell? ((Addr.mk g 0 none).add k)=some v:=by
 rw [add_zero',hr.cell];exact hk
end
variable {w₀ w:World} {F L n:Nat} {s:S} {x:Int}
theorem Qyd (h:IsF w.heap F L n s) (h0:0≤x) (h1:x<n) (hl0:-1≤s.left x.toNat) (hl1:s.left x.toNat<n) (hr0:-1≤s.right x.toNat) (hr1:s.right x.toNat<n) :
  Calls Pg 283 #[.pointer (some ⟨F,0,none⟩),.int .i32 x] w fun e w'=>e=.returned (.tuple #[])∧St w w' F L n (pushS s x):=by
 have hst:=St.start h
 refine (Qt7 _ _ _ (fun v w'=>v=.tuple #[]∧St w w' F L n (pushS s x)) ?_).mono rti
 unfold Qnl nr
 repeat (first | (with_reducible first | refine Qpl ?_ | refine Qpk ?_ | refine gR ?_) | first | (with_reducible first | refine pt_i ?_ | refine gF ?_ | refine Qa1 (by omega) (by omega) ?_ | refine g0 ?_ | refine g1 ?_ | refine g2 ?_ | refine g3 ?_ | refine g4 ?_ | refine g5 ?_ | refine g6 ?_ | refine g7 ?_ | refine g8 ?_ | refine s0 fun _ hst=>?_ | refine s1 fun _ hst=>?_ | refine s2 fun _ hst=>?_ | refine s3 fun _ hst=>?_ | refine s4 fun _ hst=>?_ | refine s5 fun _ hst=>?_ | refine s6 fun _ hst=>?_ | refine s7 fun _ hst=>?_ | refine s8 fun _ hst=>?_) | simp only [projS,Qab])
 refine Qac (fun hc=>?_) (fun hc=>?_)<;>simp only [b1s] at hc
 ·have:pushS s x=s:=by simp [pushS,hc]
  rw [this];(refine ⟨by first | rfl | trivial,?_⟩;(exact stf))
 ·repeat (first | (with_reducible first | refine Qpl ?_ | refine Qpk ?_ | refine gR ?_) | first | (with_reducible first | refine pt_i ?_ | refine gF ?_ | refine Qa1 (by omega) (by omega) ?_ | refine g0 ?_ | refine g1 ?_ | refine g2 ?_ | refine g3 ?_ | refine g4 ?_ | refine g5 ?_ | refine g6 ?_ | refine g7 ?_ | refine g8 ?_ | refine s0 fun _ hst=>?_ | refine s1 fun _ hst=>?_ | refine s2 fun _ hst=>?_ | refine s3 fun _ hst=>?_ | refine s4 fun _ hst=>?_ | refine s5 fun _ hst=>?_ | refine s6 fun _ hst=>?_ | refine s7 fun _ hst=>?_ | refine s8 fun _ hst=>?_) | simp only [projS,Qab])
  have hs:pushS s x=tog (tog (swapS s x.toNat) (s.right x.toNat)) (s.left x.toNat):=by simp [pushS,hc]
  rw [hs]
  refine ⟨_,by decide,by decide,rfl,?_⟩
  refine Qac (fun hc1=>?_) (fun hc1=>?_)<;>simp only [b1s] at hc1
  ·rw [tog,tog,if_neg hc1]
   repeat (first | (with_reducible first | refine Qpl ?_ | refine Qpk ?_ | refine gR ?_) | first | (with_reducible first | refine pt_i ?_ | refine gF ?_ | refine Qa1 (by omega) (by omega) ?_ | refine g0 ?_ | refine g1 ?_ | refine g2 ?_ | refine g3 ?_ | refine g4 ?_ | refine g5 ?_ | refine g6 ?_ | refine g7 ?_ | refine g8 ?_ | refine s0 fun _ hst=>?_ | refine s1 fun _ hst=>?_ | refine s2 fun _ hst=>?_ | refine s3 fun _ hst=>?_ | refine s4 fun _ hst=>?_ | refine s5 fun _ hst=>?_ | refine s6 fun _ hst=>?_ | refine s7 fun _ hst=>?_ | refine s8 fun _ hst=>?_) | simp only [projS,Qab])
   refine ⟨_,by decide,by decide,rfl,?_⟩
   refine Qac (fun hc2=>?_) (fun hc2=>?_)<;>simp only [b1s] at hc2
   ·rw [if_neg hc2]
    repeat (first | (with_reducible first | refine Qpl ?_ | refine Qpk ?_ | refine gR ?_) | first | (with_reducible first | refine pt_i ?_ | refine gF ?_ | refine Qa1 (by omega) (by omega) ?_ | refine g0 ?_ | refine g1 ?_ | refine g2 ?_ | refine g3 ?_ | refine g4 ?_ | refine g5 ?_ | refine g6 ?_ | refine g7 ?_ | refine g8 ?_ | refine s0 fun _ hst=>?_ | refine s1 fun _ hst=>?_ | refine s2 fun _ hst=>?_ | refine s3 fun _ hst=>?_ | refine s4 fun _ hst=>?_ | refine s5 fun _ hst=>?_ | refine s6 fun _ hst=>?_ | refine s7 fun _ hst=>?_ | refine s8 fun _ hst=>?_) | simp only [projS,Qab])
    (refine ⟨by first | rfl | trivial,?_⟩;(exact stf))
   ·rw [if_pos hc2]
    (refine ⟨by first | rfl | trivial,?_⟩;(exact stf))
  ·rw [tog,tog,if_pos hc1]
   refine ⟨_,by decide,by decide,rfl,?_⟩
   refine Qac (fun hc2=>?_) (fun hc2=>?_)<;>simp only [b1s] at hc2
   ·rw [if_neg hc2]
    repeat (first | (with_reducible first | refine Qpl ?_ | refine Qpk ?_ | refine gR ?_) | first | (with_reducible first | refine pt_i ?_ | refine gF ?_ | refine Qa1 (by omega) (by omega) ?_ | refine g0 ?_ | refine g1 ?_ | refine g2 ?_ | refine g3 ?_ | refine g4 ?_ | refine g5 ?_ | refine g6 ?_ | refine g7 ?_ | refine g8 ?_ | refine s0 fun _ hst=>?_ | refine s1 fun _ hst=>?_ | refine s2 fun _ hst=>?_ | refine s3 fun _ hst=>?_ | refine s4 fun _ hst=>?_ | refine s5 fun _ hst=>?_ | refine s6 fun _ hst=>?_ | refine s7 fun _ hst=>?_ | refine s8 fun _ hst=>?_) | simp only [projS,Qab])
    (refine ⟨by first | rfl | trivial,?_⟩;(exact stf))
   ·rw [if_pos hc2]
    (refine ⟨by first | rfl | trivial,?_⟩;(exact stf))
def tp (s:S) (x:Int):Bool:=s.up x.toNat==-1 || (s.left (s.up x.toNat).toNat != x&&s.right (s.up x.toNat).toNat != x)
theorem Q4r (h:IsF w.heap F L n s) (h0:0≤x) (h1:x<n) (hw:Wf n s) :
  Calls Pg 281 #[.pointer (some ⟨F,0,none⟩),.int .i32 x] w fun e w'=>e=.returned (.bool (tp s x))∧w'=w:=by
 have hst:=St.start h
 obtain ⟨⟨hu0,hu1⟩,_⟩:=hw x.toNat (by omega)
 refine (Qvc _ _ _ (fun v w'=>v=.bool (tp s x)∧w'=w) ?_).mono rti
 unfold Qpw nr
 repeat (first | (with_reducible first | refine Qpl ?_ | refine Qpk ?_ | refine gR ?_) | first | (with_reducible first | refine pt_i ?_ | refine gF ?_ | refine Qa1 (by omega) (by omega) ?_ | refine g0 ?_ | refine g1 ?_ | refine g2 ?_ | refine g3 ?_ | refine g4 ?_ | refine g5 ?_ | refine g6 ?_ | refine g7 ?_ | refine g8 ?_ | refine s0 fun _ hst=>?_ | refine s1 fun _ hst=>?_ | refine s2 fun _ hst=>?_ | refine s3 fun _ hst=>?_ | refine s4 fun _ hst=>?_ | refine s5 fun _ hst=>?_ | refine s6 fun _ hst=>?_ | refine s7 fun _ hst=>?_ | refine s8 fun _ hst=>?_) | simp only [projS,Qab])
 refine Qac (fun hc=>?_) (fun hc=>?_)<;>simp only [b1s] at hc
 ·exact ⟨by simp [tp,hc],by first | rfl | trivial⟩
 ·repeat (first | (with_reducible first | refine Qpl ?_ | refine Qpk ?_ | refine gR ?_) | first | (with_reducible first | refine pt_i ?_ | refine gF ?_ | refine Qa1 (by omega) (by omega) ?_ | refine g0 ?_ | refine g1 ?_ | refine g2 ?_ | refine g3 ?_ | refine g4 ?_ | refine g5 ?_ | refine g6 ?_ | refine g7 ?_ | refine g8 ?_ | refine s0 fun _ hst=>?_ | refine s1 fun _ hst=>?_ | refine s2 fun _ hst=>?_ | refine s3 fun _ hst=>?_ | refine s4 fun _ hst=>?_ | refine s5 fun _ hst=>?_ | refine s6 fun _ hst=>?_ | refine s7 fun _ hst=>?_ | refine s8 fun _ hst=>?_) | simp only [projS,Qab])
  refine Qac (fun hc1=>?_) (fun hc1=>?_)<;>simp only [b1s] at hc1
  ·repeat (first | (with_reducible first | refine Qpl ?_ | refine Qpk ?_ | refine gR ?_) | first | (with_reducible first | refine pt_i ?_ | refine gF ?_ | refine Qa1 (by omega) (by omega) ?_ | refine g0 ?_ | refine g1 ?_ | refine g2 ?_ | refine g3 ?_ | refine g4 ?_ | refine g5 ?_ | refine g6 ?_ | refine g7 ?_ | refine g8 ?_ | refine s0 fun _ hst=>?_ | refine s1 fun _ hst=>?_ | refine s2 fun _ hst=>?_ | refine s3 fun _ hst=>?_ | refine s4 fun _ hst=>?_ | refine s5 fun _ hst=>?_ | refine s6 fun _ hst=>?_ | refine s7 fun _ hst=>?_ | refine s8 fun _ hst=>?_) | simp only [projS,Qab])
   refine ⟨?_,by first | rfl | trivial⟩
   have e1:(s.up x.toNat==-1)=false:=by simpa using hc
   have e2:(s.left (s.up x.toNat).toNat != x)=true:=by simpa using hc1
   rw [tp,e1,e2];rfl
  ·refine ⟨?_,by first | rfl | trivial⟩
   have e1:(s.up x.toNat==-1)=false:=by simpa using hc
   have e2:(s.left (s.up x.toNat).toNat != x)=false:=by simpa using hc1
   rw [tp,e1,e2];rfl
theorem Q8t (h:IsF w.heap F L n s) (h0:0≤x) (h1:x<n) (hp0:0≤s.up x.toNat) (hp1:s.up x.toNat<n) :
  Calls Pg 284 #[.pointer (some ⟨F,0,none⟩),.int .i32 x] w fun e w'=>e=.returned (.int .i64 (if s.right (s.up x.toNat).toNat=x then 1 else 0))∧w'=w.drew:=by
 have hst:=St.start h
 refine (Qt4 _ _ _ (fun v w'=>v=.int .i64 (if s.right (s.up x.toNat).toNat=x then 1 else 0)∧w'=w.drew) ?_).mono rti
 unfold Qni nr
 repeat (first | (with_reducible first | refine Qpl ?_ | refine Qpk ?_ | refine gR ?_) | first | (with_reducible first | refine pt_i ?_ | refine gF ?_ | refine Qa1 (by omega) (by omega) ?_ | refine g0 ?_ | refine g1 ?_ | refine g2 ?_ | refine g3 ?_ | refine g4 ?_ | refine g5 ?_ | refine g6 ?_ | refine g7 ?_ | refine g8 ?_ | refine s0 fun _ hst=>?_ | refine s1 fun _ hst=>?_ | refine s2 fun _ hst=>?_ | refine s3 fun _ hst=>?_ | refine s4 fun _ hst=>?_ | refine s5 fun _ hst=>?_ | refine s6 fun _ hst=>?_ | refine s7 fun _ hst=>?_ | refine s8 fun _ hst=>?_) | simp only [projS,Qab])
 refine Qac (fun hc=>?_) (fun hc=>?_)<;>simp only [b1s] at hc
 ·simp only [if_pos hc];exact ⟨by first | rfl | trivial,by first | rfl | trivial⟩
 ·simp only [if_neg hc];exact ⟨by first | rfl | trivial,by first | rfl | trivial⟩
theorem Zjz {c:Int} {K:World→Prop} (hst:St w₀ w F L n s) (h0:0≤x) (h1:x<n) (hc0:0≤c) (hc1:c<n) (hcx:c≠x)
  (k:∀w',St w₀ w' F L n (addC s x.toNat c)→K w') :
  pt (some ⟨F,0,none⟩) fun a48_15=>
 ldS a48_15 w fun s50_16b s50_16l s50_16c=>
 ixS s50_16b s50_16l c 9 fun a52_17=>
 ldI .i32 a52_17 w fun n53_18=>
 ldI .i32 (a52_17.add 1) w fun n53_19=>
 ldI .i32 (a52_17.add 2) w fun n53_20=>
 ldB (a52_17.add 3) w fun b53_21=>
 ldI .i32 (a52_17.add 4) w fun n53_22=>
 ldI .i64 (a52_17.add 5) w fun n53_23=>
 ldI .i64 (a52_17.add 6) w fun n53_24=>
 ldI .i64 (a52_17.add 7) w fun n53_25=>
 ldI .i64 (a52_17.add 8) w fun n53_26=>
 alo #[(.int .i32 (0:Int)),(.int .i32 (0:Int)),(.int .i32 (0:Int)),(.bool false),(.int .i32 (0:Int)),(.int .i64 (0:Int)),(.int .i64 (0:Int)),(.int .i64 (0:Int)),(.int .i64 (0:Int))] 305 w fun a27 w28=>
 sto a27 (.int .i32 n53_18) w28 fun w29=>
 sto (a27.add 1) (.int .i32 n53_19) w29 fun w30=>
 sto (a27.add 2) (.int .i32 n53_20) w30 fun w31=>
 sto (a27.add 3) (.bool b53_21) w31 fun w32=>
 sto (a27.add 4) (.int .i32 n53_22) w32 fun w33=>
 sto (a27.add 5) (.int .i64 n53_23) w33 fun w34=>
 sto (a27.add 6) (.int .i64 n53_24) w34 fun w35=>
 sto (a27.add 7) (.int .i64 n53_25) w35 fun w36=>
 sto (a27.add 8) (.int .i64 n53_26) w36 fun w37=>
 ldI .i32 ((Addr.mk L (x.toNat*9) none).add 4) (World.drew w37) fun n59_38=>
 ldI .i32 (a27.add 4) (World.drew w37) fun n61_39=>
 ldI .i64 ((Addr.mk L (x.toNat*9) none).add 6) (World.drew w37) fun n66_40=>
 ldI .i64 (a27.add 6) (World.drew w37) fun n68_41=>
 sto ((Addr.mk L (x.toNat*9) none).add 4) (.int .i32 (IntKind.wrap .i32 (n59_38+n61_39))) (World.drew w37) fun w42=>
 World.cell? w42 (a27.add 6)=some (.int .i64 n68_41)∧sto ((Addr.mk L (x.toNat*9) none).add 6) (.int .i64 (IntKind.wrap .i64 (n66_40+n68_41))) w42 fun w43=>
 ldI .i64 ((Addr.mk L (x.toNat*9) none).add 7) (World.drew w43) fun n79_44=>
 ldI .i64 (a27.add 7) (World.drew w43) fun n81_45=>
 ldI .i64 ((Addr.mk L (x.toNat*9) none).add 8) (World.drew w43) fun n86_46=>
 ldI .i64 (a27.add 8) (World.drew w43) fun n88_47=>
 sto ((Addr.mk L (x.toNat*9) none).add 7) (.int .i64 (if n81_45<n79_44 then n81_45 else n79_44)) (World.drew w43) fun w48=>
 World.cell? w48 (a27.add 8)=some (.int .i64 n88_47)∧sto ((Addr.mk L (x.toNat*9) none).add 8) (.int .i64 (if n88_47>n86_46 then n88_47 else n86_46)) w48 fun w49=>K w49:=by
 refine pt_i (Qdx hst (Qa1 hc0 hc1 ?_))
 refine Qyt hst (by omega) (Qsy hst (by omega) (Qnw hst (by omega) (Qlx hst (by omega) (Qsw hst (by omega) (Quy hst (by omega) (Q1m hst (by omega) (Qnx hst (by omega) (Qsx hst (by omega) ?_))))))))
 have hLlt:=hst.i.l.lt
 refine cp_i ⟨rfl,rfl,rfl,rfl,rfl,rfl,rfl,rfl,rfl⟩ fun w1 hr hc=>?_
 have hst1:=hst.nob hc
 have hBL:¬w.heap.size=L:=by omega
 have e1:addC s x.toNat c=(((s.Qc1 x.toNat (IntKind.i32.wrap (s.size x.toNat+s.size c.toNat))).Qgy x.toNat (IntKind.i64.wrap (s.sum x.toNat+s.sum c.toNat))).Qbz x.toNat (if s.least c.toNat<s.least x.toNat then s.least c.toNat else s.least x.toNat)).Qc2 x.toNat (if s.most c.toNat>s.most x.toNat then s.most c.toNat else s.most x.toNat):=by
  rw [addC,if_neg (by omega)]
 rw [e1] at k
 have hx:x.toNat<n:=by omega
 refine Qsw hst1.drew hx (Q1n hr rfl (Q1m hst1.drew hx (Q1n hr rfl ?_)))
 refine Zhw hst1.drew hx fun w2 hst2 hc2=>?_
 have hr2:=hc2.row hBL hr
 refine ⟨Zg9 hr2 rfl,?_⟩
 refine Zko hst2 hx fun w3 hst3 hc3=>?_
 have hr3:=hc3.row hBL hr2
 refine Qnx hst3.drew hx (Q1n hr3 rfl (Qsx hst3.drew hx (Q1n hr3 rfl ?_)))
 refine Zdo hst3.drew hx fun w4 hst4 hc4=>?_
 have hr4:=hc4.row hBL hr3
 refine ⟨Zg9 hr4 rfl,?_⟩
 exact Zhx hst4 hx fun w5 hst5 _=>k _ hst5
theorem Qky (h:IsF w.heap F L n s) (h0:0≤x) (h1:x<n) (hw:Wf n s) (hlx:s.left x.toNat≠x) (hrx:s.right x.toNat≠x) :
  Calls Pg 200 #[.pointer (some ⟨F,0,none⟩),.int .i32 x] w fun e w'=>e=.returned (.tuple #[])∧St w w' F L n (pullS s x):=by
 have hst:=St.start h
 obtain ⟨_,⟨hl0,hl1⟩,hr0,hr1⟩:=hw x.toNat (by omega)
 refine (Qt8 _ _ _ (fun v w'=>v=.tuple #[]∧St w w' F L n (pullS s x)) ?_).mono rti
 unfold Qnm nr
 refine pt_i (Qdx hst (Qa1 h0 h1 ?_))
 repeat (first | (with_reducible first | refine Qpl ?_ | refine Qpk ?_ | refine gR ?_) | first | (with_reducible first | refine pt_i ?_ | refine gF ?_ | refine Qa1 (by omega) (by omega) ?_ | refine g0 ?_ | refine g1 ?_ | refine g2 ?_ | refine g3 ?_ | refine g4 ?_ | refine g5 ?_ | refine g6 ?_ | refine g7 ?_ | refine g8 ?_ | refine s0 fun _ hst=>?_ | refine s1 fun _ hst=>?_ | refine s2 fun _ hst=>?_ | refine s3 fun _ hst=>?_ | refine s4 fun _ hst=>?_ | refine s5 fun _ hst=>?_ | refine s6 fun _ hst=>?_ | refine s7 fun _ hst=>?_ | refine s8 fun _ hst=>?_) | simp only [projS,Qab])
 refine ⟨_,by decide,by decide,rfl,?_⟩
 have hst':∀{w'},St w w' F L n ((((s.Qc1 x.toNat 1).Qgy x.toNat (s.value x.toNat)).Qbz x.toNat (s.value x.toNat)).Qc2 x.toNat (s.value x.toNat))→St w w' F L n (ownS s x.toNat):=fun h=>h
 refine Qac (fun hc1=>?_) (fun hc1=>?_)<;>simp only [b1s] at hc1
 ·refine Zjz (hst' (by assumption)) h0 h1 (by omega) hl1 hlx fun w2 hst2=>?_
  refine ⟨_,by decide,by decide,rfl,?_⟩
  refine Qac (fun hc2=>?_) (fun hc2=>?_)<;>simp only [b1s] at hc2
  ·exact Zjz hst2 h0 h1 (by omega) hr1 hrx fun w3 hst3=>⟨by first | rfl | trivial,hst3⟩
  ·refine ⟨by first | rfl | trivial,?_⟩
   rw [pullS,addC.eq_1 _ _ (s.right x.toNat),if_pos hc2];exact hst2
 ·refine ⟨_,by decide,by decide,rfl,?_⟩
  have e:addC (ownS s x.toNat) x.toNat (s.left x.toNat)=ownS s x.toNat:=by rw [addC,if_pos hc1]
  refine Qac (fun hc2=>?_) (fun hc2=>?_)<;>simp only [b1s] at hc2
  ·rw [pullS,e]
   exact Zjz (hst' (by assumption)) h0 h1 (by omega) hr1 hrx fun w3 hst3=>⟨by first | rfl | trivial,hst3⟩
  ·rw [pullS,e,addC,if_pos hc2]
   exact ⟨by first | rfl | trivial,hst' (by assumption)⟩
theorem Zh6 {s4:S} {x p:Nat} {g gg B:Int} {d:Bool} (RL:RotQ s s4 x p g gg B d) (hw:Wf n s) (hx:x<n) (hp:p<n) (hg0:-1≤g) (hg1:g<n) (hB0:-1≤B) (hB1:B<n):Wf n s4:=by
 intro i hi
 obtain ⟨h1,h2,h3⟩:=hw i hi
 rw [RL.up,RL.left,RL.right]
 refine ⟨?_,?_,?_⟩
 ·split
  ·omega
  ·split
   ·omega
   ·split
    ·omega
    ·exact h1
 ·split
  ·omega
  ·split
   ·omega
   ·split
    ·omega
    ·exact h2
 ·split
  ·omega
  ·split
   ·omega
   ·split
    ·omega
    ·exact h3
def lnk (s:S) (x p:Nat) (g gg B:Int) (d gl:Bool):S:=
 let s1:=if gg=-1 then s else if gl then s.Qa5 gg.toNat x else s.Qa3 gg.toNat x
 let s2:=if d then s1.Qa5 p B else s1.Qa3 p B
 let s3:=if B=-1 then s2 else s2.w_up B.toNat p
 let s4:=if d then s3.Qa3 x p else s3.Qa5 x p
 (s4.w_up p x).w_up x g
theorem Zmy {x p:Nat} {g gg B:Int} {d gl:Bool} (hxp:x≠p) (hgx:gg≠x) (hgp:gg≠p) (hgg:-1≤gg) (hB:-1≤B) (hgl:gg≠-1→(gl=true↔s.left gg.toNat=p)) :
  RotQ s (lnk s x p g gg B d gl) x p g gg B d:=by
 refine ⟨fun y=>?_,fun y=>?_,fun y=>?_,fun y=>?_⟩
 ·unfold lnk;(repeat' split)<;>exact ⟨rfl,rfl,rfl,rfl,rfl,rfl⟩
 ·by_cases h1:B=-1<;>by_cases h2:gg=-1<;>cases d<;>cases gl<;>simp [lnk,upd,h1,h2]
 ·by_cases h2:gg=-1
  ·by_cases h1:B=-1<;>cases d<;>simp [lnk,upd,h1,h2]
  ·have hgl:=hgl h2
   have e1:gg.toNat≠x:=by omega
   have e2:gg.toNat≠p:=by omega
   by_cases h1:B=-1<;>cases d<;>cases gl<;>simp [lnk,upd,h1,h2] at hgl ⊢<;>(first | simp [hgl] | skip)<;>(repeat' split)<;>simp_all<;>omega
 ·by_cases h2:gg=-1
  ·by_cases h1:B=-1<;>cases d<;>simp [lnk,upd,h1,h2]
  ·have hgl:=hgl h2
   have e1:gg.toNat≠x:=by omega
   have e2:gg.toNat≠p:=by omega
   by_cases h1:B=-1<;>cases d<;>cases gl<;>simp [lnk,upd,h1,h2] at hgl ⊢<;>(first | simp [hgl] | skip)<;>(repeat' split)<;>simp_all<;>omega
theorem nn {B:Int} (h:-1≤B) (k:B≠-1):0≤B:=by omega
theorem tn {B:Int} {n:Nat} (h:0≤B) (k:B<n):B.toNat<n:=by omega
theorem gno {gg:Int} {x:Nat} {P:Prop} (h0:-1≤gg) (h:gg≠x):¬(gg≠-1∧x=gg.toNat∧P):=fun ⟨a,b,_⟩=>h (by omega)
set_option maxHeartbeats 400000 in
theorem Qrb {x p:Nat} {g gg:Int} {d:Bool} (h:IsF w.heap F L n s) (hx:x<n) (hp:p<n) (hxp:x≠p) (hu:s.up x=p) (hg:s.up p=g) (hw:Wf n s)
  (hd:s.right p=x↔d=false) (hgg:(gg=-1∧tp s p=true)∨(gg=g∧gg≠-1∧tp s p=false)) (hgx:gg≠x) (hgp:gg≠p) (hside:gg≠-1→(s.right gg.toNat=p↔¬s.left gg.toNat=p))
  (hlx:s.left x≠x∧s.right x≠x∧s.left x≠p∧s.right x≠p) (hlp:(if d then s.right p else s.left p)≠p) (hlp2:(if d then s.right p else s.left p)≠x) :
  Calls Pg 285 #[.pointer (some ⟨F,0,none⟩),.int .i32 x] w fun e w'=>e=.returned (.tuple #[])∧∃s4,RotQ s s4 x p g gg (if d then s.right x else s.left x) d∧St w w' F L n (pullS (pullS s4 p) x):=by
 have hst:=St.start h
 have ex:(x:Int).toNat=x:=rfl
 have ep:(p:Int).toNat=p:=rfl
 have X0:0≤(x:Int):=Int.natCast_nonneg x
 have X1:(x:Int)<n:=Int.ofNat_lt.2 hx
 have P0:0≤(p:Int):=Int.natCast_nonneg p
 have P1:(p:Int)<n:=Int.ofNat_lt.2 hp
 have hxp':(x:Int)≠p:=fun e=>hxp (Int.ofNat.inj e)
 obtain ⟨⟨hg0,hg1⟩,⟨hpl0,hpl1⟩,hpr0,hpr1⟩:=hw p hp
 obtain ⟨_,⟨hl0,hl1⟩,hr0,hr1⟩:=hw x hx
 rw [hg] at hg0 hg1
 have hgg0:-1≤gg∧gg<n:=by
  rcases hgg with ⟨h,_⟩ | ⟨h,_⟩
  ·rw [h];exact ⟨Int.le_refl _,Int.lt_of_lt_of_le (by decide) (Int.natCast_nonneg n)⟩
  ·rw [h];exact ⟨hg0,hg1⟩
 obtain ⟨B,hB⟩:∃B:Int,B=if d then s.right x else s.left x:=⟨_,rfl⟩
 have hB0:-1≤B∧B<n:=by
  rw [hB];split
  ·exact ⟨hr0,hr1⟩
  ·exact ⟨hl0,hl1⟩
 have hBx:B≠x∧B≠p:=by rw [hB];split<;>simp [hlx]
 have g1:¬(gg≠-1∧p=gg.toNat∧s.left gg.toNat=p):=gno hgg0.1 hgp
 have g2:¬(gg≠-1∧p=gg.toNat∧s.left gg.toNat≠p):=gno hgg0.1 hgp
 have g3:¬(gg≠-1∧x=gg.toNat∧s.left gg.toNat=p):=gno hgg0.1 hgx
 have g4:¬(gg≠-1∧x=gg.toNat∧s.left gg.toNat≠p):=gno hgg0.1 hgx
 have RL:RotQ s (lnk s x p g gg B d (s.left gg.toNat==p)) x p g gg B d:=Zmy hxp hgx hgp hgg0.1 hB0.1 (fun _=>by simp)
 have hw4:Wf n (lnk s x p g gg B d (s.left gg.toNat==p)):=Zh6 RL hw hx hp hg0 hg1 hB0.1 hB0.2
 have fin:∀w',St w w' F L n (lnk s x p g gg B d (s.left gg.toNat==p))→Calls Pg 200 #[.pointer (some ⟨F,0,none⟩),.int .i32 p] w' fun e53 w53=>e53=.returned (.tuple #[])∧
   Calls Pg 200 #[.pointer (some ⟨F,0,none⟩),.int .i32 x] w53 fun e55 w55=>e55=.returned (.tuple #[])∧
   (Value.tuple #[]=.tuple #[]∧∃s4,RotQ s s4 x p g gg (if d then s.right x else s.left x) d∧St w w55 F L n (pullS (pullS s4 p) x)):=by
  intro w' hst
  have hlp4:=RL.left p
  have hrp4:=RL.right p
  have hlx4:=RL.left x
  have hrx4:=RL.right x
  rw [if_neg g1] at hlp4
  rw [if_neg g2] at hrp4
  rw [if_neg g3] at hlx4
  rw [if_neg g4] at hrx4
  generalize lnk s x p g gg B d (s.left gg.toNat==p)=s4 at *
  have q1:s4.left p≠p:=by
   rw [hlp4]
   cases d
   ·rw [if_neg (by simp),if_neg (by simp [hxp.symm])];simpa using hlp
   ·rw [if_pos ⟨rfl,rfl⟩];exact hBx.2
  have q2:s4.right p≠p:=by
   rw [hrp4]
   cases d
   ·rw [if_pos ⟨rfl,rfl⟩];exact hBx.2
   ·rw [if_neg (by simp),if_neg (by simp [hxp.symm])];simpa using hlp
  have q3:s4.left x≠x:=by
   rw [hlx4]
   cases d
   ·rw [if_neg (by simp),if_pos ⟨rfl,rfl⟩];exact hxp'.symm
   ·rw [if_neg (by simp [hxp]),if_neg (by simp)];exact hlx.1
  have q4:s4.right x≠x:=by
   rw [hrx4]
   cases d
   ·rw [if_neg (by simp [hxp]),if_neg (by simp)];exact hlx.2.1
   ·rw [if_neg (by simp),if_pos ⟨rfl,rfl⟩];exact hxp'.symm
  clear hlp4 hrp4 hlx4 hrx4
  refine (Qky hst.i P0 P1 hw4 (by rw [ep];exact q1) (by rw [ep];exact q2)).mono ?_
  rintro e w53 ⟨rfl,hst'⟩
  have hst:=hst.trans hst'
  obtain ⟨e1,e2,e3,_,_⟩:=Qlv s4 p
  refine ⟨rfl,(Qky hst.i X0 X1 (Qqr hw4) (by rw [e2,ex];exact q3) (by rw [e3,ex];exact q4)).mono ?_⟩
  rintro e w55 ⟨rfl,hst'⟩
  exact ⟨rfl,rfl,s4,hB ▸ RL,hst.trans hst'⟩
 refine (Qq8 _ _ _ (fun v w'=>v=.tuple #[]∧∃s4,RotQ s s4 x p g gg (if d then s.right x else s.left x) d∧St w w' F L n (pullS (pullS s4 p) x)) ?_).mono rti
 unfold Qkh nr
 refine pt_i (Qdx hst (Qa1 X0 X1 (Qyt hst hx ?_)))
 rw [ex,hu]
 refine pt_i (Qdx hst (Qa1 P0 P1 (Qyt hst hp ?_)))
 rw [ep,hg]
 refine (Q8t h X0 X1 (by rw [ex,hu];exact P0) (by rw [ex,hu];exact P1)).mono ?_
 rintro e w11 ⟨rfl,rfl⟩
 rw [ex,hu,ep]
 refine ⟨_,rfl,?_⟩
 obtain ⟨s1,hs1⟩:∃s1,s1=(if gg=-1 then s else if s.left gg.toNat==p then s.Qa5 gg.toNat x else s.Qa3 gg.toNat x):=⟨_,rfl⟩
 refine ⟨fun _ w'=>St w w' F L n s1,?_,?_⟩
 ·refine (Q4r (hst.drew.i) P0 P1 hw).mono ?_
  rintro e w15 ⟨rfl,rfl⟩
  refine ⟨_,rfl,Qac (fun hc=>?_) (fun hc=>?_)⟩
  ·simp only [b1s] at hc
   have hgt:gg=g∧gg≠-1:=by
    rcases hgg with ⟨_,h⟩ | ⟨h1,h2,_⟩
    ·rw [h] at hc;cases hc
    ·exact ⟨h1,h2⟩
   have eg:g=gg:=hgt.1.symm
   have hgn:gg≠-1:=hgt.2
   have G0:=nn hgg0.1 hgn
   have G1:=hgg0.2
   have GN:=tn G0 G1
   rw [eg]
   refine pt_i (Qdx hst.drew.drew (Qa1 G0 G1 ?_))
   refine (Q8t (hst.drew.drew.i) P0 P1 (by rw [ep,hg,eg];exact G0) (by rw [ep,hg,eg];exact G1)).mono ?_
   rintro e w21 ⟨rfl,rfl⟩
   rw [ep,hg,eg]
   refine ⟨_,rfl,hst.drew.drew.drew.cellF,?_⟩
   rw [hs1,if_neg hgn]
   by_cases hl:s.left gg.toNat=p
   ·have hr:¬s.right gg.toNat=p:=fun e=>(hside hgn).1 e hl
    rw [if_neg hr,if_pos (by simpa using hl)]
    exact Qpl (Qsc hst.drew.drew.drew GN fun w' hst'=>hst')
   ·have hr:s.right gg.toNat=p:=(hside hgn).2 hl
    rw [if_pos hr,if_neg (by simpa using hl)]
    exact Qpk (Qmt hst.drew.drew.drew GN fun w' hst'=>hst')
  ·simp only [b1s] at hc
   have hgt:gg=-1:=by
    rcases hgg with ⟨h,_⟩ | ⟨h1,h2,h3⟩
    ·exact h
    ·rw [h3] at hc;cases hc
   rw [hs1,if_pos hgt];exact hst.drew
 clear hst
 rintro _ w25 hst
 have r1:s1.right x=s.right x:=by
  rw [hs1];split
  ·rfl
  ·split
   ·rfl
   ·show upd s.right gg.toNat (x:Int) x=s.right x
    exact Qag _ _ (fun e=>hgx (by rw [e];exact (Int.toNat_of_nonneg (nn hgg0.1 (by assumption))).symm))
 have l1:s1.left x=s.left x:=by
  rw [hs1];split
  ·rfl
  ·split
   ·show upd s.left gg.toNat (x:Int) x=s.left x
    exact Qag _ _ (fun e=>hgx (by rw [e];exact (Int.toNat_of_nonneg (nn hgg0.1 (by assumption))).symm))
   ·rfl
 have hBd:(if d then s.right x else s.left x)=B:=hB.symm
 have el:lnk s x p g gg B d (s.left gg.toNat==p)=(((if d then (if B=-1 then (if d then s1.Qa5 p B else s1.Qa3 p B) else (if d then s1.Qa5 p B else s1.Qa3 p B).w_up B.toNat p).Qa3 x p else (if B=-1 then (if d then s1.Qa5 p B else s1.Qa3 p B) else (if d then s1.Qa5 p B else s1.Qa3 p B).w_up B.toNat p).Qa5 x p).w_up p x).w_up x g):=by
  rw [hs1];rfl
 rw [el] at fin
 refine pt_i (Qdx hst (Qa1 X0 X1 ?_))
 cases d with
 | true=>
  have hd':¬s.right p=x:=fun e=>by simpa using hd.1 e
  simp only [if_true,Bool.false_eq_true,if_false] at fin hBd
  rw [if_neg hd',show IntKind.wrap .i64 ((1:Int)-0)=1 from rfl]
  refine Qpk (Qnw hst hx ?_)
  rw [ex,r1,hBd]
  refine pt_i (Qdx hst (Qa1 P0 P1 (Qpl (Qsc hst hp fun w35 hst=>?_))))
  rw [ep] at hst
  refine Qac (fun hc=>?_) (fun hc=>?_)<;>simp only [b1s] at hc
  ·rw [if_neg hc] at fin
   refine pt_i (Qdx hst (Qa1 (nn hB0.1 hc) hB0.2 (Qwd hst (tn (nn hB0.1 hc) hB0.2) fun w39 hst=>?_)))
   refine pt_i (Qdx hst (Qa1 X0 X1 (Qpk (Qmt hst hx fun w44 hst=>?_))))
   refine pt_i (Qdx hst.drew (pt_i (Qdx hst.drew (Qa1 P0 P1 (Qwd hst.drew hp fun w50 hst=>?_)))))
   refine Qa1 X0 X1 (Qwd hst hx fun w52 hst=>?_)
   rw [ex,ep] at hst
   exact (fin _ hst).mono fun e w h=>⟨h.1,h.2.mono fun e w h=>⟨h.1,rfl,by simpa [hBd] using h.2.2⟩⟩
  ·rw [if_pos hc] at fin
   refine pt_i (Qdx hst (Qa1 X0 X1 (Qpk (Qmt hst hx fun w44 hst=>?_))))
   refine pt_i (Qdx hst.drew (pt_i (Qdx hst.drew (Qa1 P0 P1 (Qwd hst.drew hp fun w50 hst=>?_)))))
   refine Qa1 X0 X1 (Qwd hst hx fun w52 hst=>?_)
   rw [ex,ep] at hst
   exact (fin _ hst).mono fun e w h=>⟨h.1,h.2.mono fun e w h=>⟨h.1,rfl,by simpa [hBd] using h.2.2⟩⟩
 | false=>
  have hd':s.right p=x:=hd.2 rfl
  simp only [if_true,Bool.false_eq_true,if_false] at fin hBd
  rw [if_pos hd',show IntKind.wrap .i64 ((1:Int)-1)=0 from rfl]
  refine Qpl (Qsy hst hx ?_)
  rw [ex,l1,hBd]
  refine pt_i (Qdx hst (Qa1 P0 P1 (Qpk (Qmt hst hp fun w35 hst=>?_))))
  rw [ep] at hst
  refine Qac (fun hc=>?_) (fun hc=>?_)<;>simp only [b1s] at hc
  ·rw [if_neg hc] at fin
   refine pt_i (Qdx hst (Qa1 (nn hB0.1 hc) hB0.2 (Qwd hst (tn (nn hB0.1 hc) hB0.2) fun w39 hst=>?_)))
   refine pt_i (Qdx hst (Qa1 X0 X1 (Qpl (Qsc hst hx fun w44 hst=>?_))))
   refine pt_i (Qdx hst.drew (pt_i (Qdx hst.drew (Qa1 P0 P1 (Qwd hst.drew hp fun w50 hst=>?_)))))
   refine Qa1 X0 X1 (Qwd hst hx fun w52 hst=>?_)
   rw [ex,ep] at hst
   exact (fin _ hst).mono fun e w h=>⟨h.1,h.2.mono fun e w h=>⟨h.1,rfl,by simpa [hBd] using h.2.2⟩⟩
  ·rw [if_pos hc] at fin
   refine pt_i (Qdx hst (Qa1 X0 X1 (Qpl (Qsc hst hx fun w44 hst=>?_))))
   refine pt_i (Qdx hst.drew (pt_i (Qdx hst.drew (Qa1 P0 P1 (Qwd hst.drew hp fun w50 hst=>?_)))))
   refine Qa1 X0 X1 (Qwd hst hx fun w52 hst=>?_)
   rw [ex,ep] at hst
   exact (fin _ hst).mono fun e w h=>⟨h.1,h.2.mono fun e w h=>⟨h.1,rfl,by simpa [hBd] using h.2.2⟩⟩
end Cut
end Go.Proofs.YtfeekmmfdkfgmaaGreatDoor
