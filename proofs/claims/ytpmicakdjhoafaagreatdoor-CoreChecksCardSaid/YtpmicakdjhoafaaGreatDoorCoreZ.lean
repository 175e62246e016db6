/-
Asks of a nil map, and of an edge between two corners (layer 16's program).
Conditions: those that each theorem states.
-/
import Derived.Test.YtpmicakdjhoafaaGreatDoorGLawC
set_option linter.unusedVariables false
set_option linter.unusedSimpArgs false
namespace Go.Proofs.YtpmicakdjhoafaaGreatDoor
open Go Go.RowKit
namespace Core
open Go.Proofs.YtpmicakdjhoafaaGreatDoor.Seq Go.Proofs.YtpmicakdjhoafaaGreatDoor.Cut Go.Proofs.YtpmicakdjhoafaaGreatDoor.Web
section
variable {w₀ w w':World} {b:Bk} {N:Nat} {lv:Nat→Bool} {tl:Nat→List Nat} {q:List (List Nat)} {B D:Nat→Option (Nat × Nat)} {ky:Nat→Int} {x y:Int}
theorem vertex_nil:Calls Pg Qb2 #[.pointer none,.int .i64 x] w fun r w'=>r=.returned (errV 1)∧w'=w:=by
 refine (calls_core_Map_vertex _ _ _ (fun v' w'=>v'=errV 1∧w'=w) ?_).mono (by rintro e w' ⟨v,rfl,rfl,k⟩;exact ⟨rfl,k⟩)
 unfold Qim
 refine place_nil.mono ?_
 rintro r w3 ⟨rfl,rfl⟩
 exact ⟨_,rfl,Qan (fun _=>⟨rfl,rfl⟩) fun k=>absurd k (by decide)⟩
theorem edge_nil:Calls Pg Qb8 #[.pointer none,.int .i64 x] w fun r w'=>r=.returned (errV 1)∧w'=w:=by
 refine (calls_core_Map_edge _ _ _ (fun v' w'=>v'=errV 1∧w'=w) ?_).mono (by rintro e w' ⟨v,rfl,rfl,k⟩;exact ⟨rfl,k⟩)
 unfold sh_core_Map_edge
 refine place_nil.mono ?_
 rintro r w3 ⟨rfl,rfl⟩
 exact ⟨_,rfl,Qan (fun _=>⟨rfl,rfl⟩) fun k=>absurd k (by decide)⟩
theorem Connected_nil:Calls Pg Qgl #[.pointer none,.int .i64 x,.int .i64 y] w fun r w'=>r=.returned (.tuple #[.bool false,errV 1])∧Chg Qab w w':=by
 refine (calls_core_Map_Connected _ _ _ _ (fun v' w'=>v'=.tuple #[.bool false,errV 1]∧Chg Qab w w') ?_).mono (by rintro e w' ⟨v,rfl,rfl,k⟩;exact ⟨rfl,k⟩)
 unfold sh_core_Map_Connected
 refine vertex_nil.mono ?_
 rintro r w3 ⟨rfl,rfl⟩
 refine ⟨_,rfl,vertex_nil.mono ?_⟩
 rintro r w4 ⟨rfl,rfl⟩
 exact ⟨_,rfl,first2 fun w5 c5=>Qan (fun _=>⟨rfl,c5⟩) fun k=>absurd k (by decide)⟩
theorem dart_nil:Calls Pg Qdk #[.pointer none,.int .i64 x] w fun r w'=>r=.returned (errV 1)∧w'=w:=by
 refine (calls_core_Map_dart _ _ _ (fun v' w'=>v'=errV 1∧w'=w) ?_).mono (by rintro e w' ⟨v,rfl,rfl,k⟩;exact ⟨rfl,k⟩)
 unfold sh_core_Map_dart
 exact Qaf (fun _=>⟨rfl,rfl⟩) (fun h=>by cases h)
theorem Face_nil:Calls Pg Qfo #[.pointer none,.int .i64 x] w fun r w'=>r=.returned (.tuple #[.slice none 0 0,errV 1])∧w'=w:=by
 refine (calls_core_Map_Face _ _ _ (fun v' w'=>v'=.tuple #[.slice none 0 0,errV 1]∧w'=w) ?_).mono (by rintro e w' ⟨v,rfl,rfl,k⟩;exact ⟨rfl,k⟩)
 unfold sh_core_Map_Face
 refine dart_nil.mono ?_
 rintro r w3 ⟨rfl,rfl⟩
 exact ⟨_,rfl,Qan (fun _=>⟨rfl,rfl⟩) fun k=>absurd k (by decide)⟩
theorem Marked_nil:Calls Pg Qb3 #[.pointer none,.int .i64 x] w fun r w'=>r=.returned (.tuple #[.bool false,errV 1])∧w'=w:=by
 refine (calls_core_Map_Marked _ _ _ (fun v' w'=>v'=.tuple #[.bool false,errV 1]∧w'=w) ?_).mono (by rintro e w' ⟨v,rfl,rfl,k⟩;exact ⟨rfl,k⟩)
 unfold Qin
 refine edge_nil.mono ?_
 rintro r w3 ⟨rfl,rfl⟩
 exact ⟨_,rfl,Qan (fun _=>⟨rfl,rfl⟩) fun k=>absurd k (by decide)⟩
theorem Next_nil:Calls Pg fn_core_Map_Next #[.pointer none,.int .i64 x] w fun r w'=>r=.returned (.tuple #[.int .i64 0,errV 1])∧w'=w:=by
 refine (calls_core_Map_Next _ _ _ (fun v' w'=>v'=.tuple #[.int .i64 0,errV 1]∧w'=w) ?_).mono (by rintro e w' ⟨v,rfl,rfl,k⟩;exact ⟨rfl,k⟩)
 unfold sh_core_Map_Next
 exact Qaf (fun _=>⟨rfl,rfl⟩) (fun h=>by cases h)
theorem AddVertex_nil:Calls Pg Qay #[.pointer none,.int .i64 x] w fun r w'=>r=.returned (errV 1)∧w'=w:=by
 refine (Qe8 _ _ _ (fun v' w'=>v'=errV 1∧w'=w) ?_).mono (by rintro e w' ⟨v,rfl,rfl,k⟩;exact ⟨rfl,k⟩)
 unfold Qee
 refine place_nil.mono ?_
 rintro r w3 ⟨rfl,rfl⟩
 exact ⟨_,rfl,Qan (fun _=>⟨rfl,rfl⟩) fun k=>absurd k (by decide)⟩
theorem Part_nil:Calls Pg Qbo #[.pointer none,.int .i64 x] w fun r w'=>r=.returned (errV 1)∧w'=w:=by
 refine (calls_core_Map_Part _ _ _ (fun v' w'=>v'=errV 1∧w'=w) ?_).mono (by rintro e w' ⟨v,rfl,rfl,k⟩;exact ⟨rfl,k⟩)
 unfold sh_core_Map_Part
 refine edge_nil.mono ?_
 rintro r w3 ⟨rfl,rfl⟩
 exact ⟨_,rfl,Qan (fun _=>⟨rfl,rfl⟩) fun k=>absurd k (by decide)⟩
theorem Check_nil:Calls Pg Qc4 #[.pointer none,.agg #[.int .i64 x,.int .i64 y]] w fun r w'=>r=.returned (errV 1)∧Chg Qab w w':=by
 refine (calls_core_Map_Check _ _ _ _ (fun v' w'=>v'=errV 1∧Chg Qab w w') ?_).mono (by rintro e w' ⟨v,rfl,rfl,k⟩;exact ⟨rfl,k⟩)
 unfold sh_core_Map_Check
 refine Qa4 fun A w1 _ c1 ra=>Qaj (n:=x) ra rfl (vertex_nil.mono ?_)
 rintro r w3 ⟨rfl,rfl⟩
 exact ⟨_,rfl,Qan (fun _=>⟨rfl,c1⟩) fun k=>absurd k (by decide)⟩
theorem Live_nil:Calls Pg fn_core_Map_Live #[.pointer none,.int .i64 x] w fun r w'=>r=.returned (.bool false)∧w'=w:=by
 refine (calls_core_Map_Live _ _ _ (fun v' w'=>v'=.bool false∧w'=w) ?_).mono (by rintro e w' ⟨v,rfl,rfl,k⟩;exact ⟨rfl,k⟩)
 unfold sh_core_Map_Live
 refine vertex_nil.mono ?_
 rintro r w3 ⟨rfl,rfl⟩
 exact ⟨_,rfl,Qgc _,rfl,rfl⟩
theorem Has_nil:Calls Pg Qgk #[.pointer none,.int .i64 x] w fun r w'=>r=.returned (.bool false)∧w'=w:=by
 refine (calls_core_Map_Has _ _ _ (fun v' w'=>v'=.bool false∧w'=w) ?_).mono (by rintro e w' ⟨v,rfl,rfl,k⟩;exact ⟨rfl,k⟩)
 unfold sh_core_Map_Has
 refine edge_nil.mono ?_
 rintro r w3 ⟨rfl,rfl⟩
 exact ⟨_,rfl,Qgc _,rfl,rfl⟩
theorem Sum_nil:Calls Pg Qdz #[.pointer none] w fun r w'=>r=.returned (.int .i64 0)∧w'=w:=by
 refine (calls_core_Map_Sum _ _ (fun v' w'=>v'=.int .i64 0∧w'=w) ?_).mono (by rintro e w' ⟨v,rfl,rfl,k⟩;exact ⟨rfl,k⟩)
 unfold sh_core_Map_Sum
 exact Qaf (fun _=>⟨rfl,rfl⟩) (fun h=>by cases h)
theorem Room_nil:Calls Pg Qfn #[.pointer none] w fun r w'=>r=.returned (.int .i64 0)∧w'=w:=by
 refine (calls_core_Map_Room _ _ (fun v' w'=>v'=.int .i64 0∧w'=w) ?_).mono (by rintro e w' ⟨v,rfl,rfl,k⟩;exact ⟨rfl,k⟩)
 unfold sh_core_Map_Room
 exact Qaf (fun _=>⟨rfl,rfl⟩) (fun h=>by cases h)
theorem Counts_nil:Calls Pg Qbs #[.pointer none] w fun r w'=>r=.returned (.agg #[.int .i64 0,.int .i64 0,.int .i64 0,.int .i64 0])∧Chg Qab w w':=by
 refine (calls_core_Map_Counts _ _ (fun v' w'=>v'=.agg #[.int .i64 0,.int .i64 0,.int .i64 0,.int .i64 0]∧Chg Qab w w') ?_).mono (by rintro e w' ⟨v,rfl,rfl,k⟩;exact ⟨rfl,k⟩)
 unfold Qio
 refine Qa4 fun A w1 hA c1 ra=>Qaf (fun _=>?_) (fun h=>by cases h)
 rw [Qag,Qag,Qag]
 refine Qb6 ra (by simp) rfl fun w2 c2 ra=>Qb6 ra (by simp) rfl fun w3 c3 ra=>Qb6 ra (by simp) rfl fun w4 c4 ra=>Qb6 ra (by simp) rfl fun w5 c5 ra=>Qaj (n:=0) ra rfl (Qaj (n:=0) ra rfl (Qaj (n:=0) ra rfl (Qaj (n:=0) ra rfl ⟨rfl,?_⟩)))
 exact c1.trans' (((c2.trans c3).trans c4).trans c5) fun i e=>.inr (by omega)
theorem core_New_bad {n:Int} (h:¬(1≤n∧n≤1048576)):Calls Pg Qgi #[.int .i64 n] w fun r w'=>r=.returned (.tuple #[.pointer none,errV 1])∧w'=w:=by
 refine (calls_core_New _ _ (fun v' w'=>v'=.tuple #[.pointer none,errV 1]∧w'=w) ?_).mono (by rintro e w' ⟨v,rfl,rfl,k⟩;exact ⟨rfl,k⟩)
 unfold sh_core_New
 have ht:Calls Pg fn_turn_New #[.int .i64 n,.int .i64 n] w fun r w'=>r=.returned (.tuple #[.pointer none,errV 1])∧w'=w:=by
  refine (calls_turn_New _ _ _ (fun v' w'=>v'=.tuple #[.pointer none,errV 1]∧w'=w) ?_).mono (by rintro e w' ⟨v,rfl,rfl,k⟩;exact ⟨rfl,k⟩)
  unfold sh_turn_New
  refine ⟨fun _ _=>False,Qaf (fun _=>⟨rfl,rfl⟩) fun k1=>Qaf (fun _=>⟨rfl,rfl⟩) fun k2=>?_,fun _ _ h=>h.elim⟩
  exfalso
  simp only [b1s] at *
  omega
 refine ht.mono ?_
 rintro r w3 ⟨rfl,rfl⟩
 exact ⟨_,_,rfl,Qan (fun _=>⟨rfl,rfl⟩) fun k=>absurd k (by decide)⟩
theorem x_Legal {u be v ce:Int} (h:GM w.heap b N lv tl q B D ky):Calls Pg fn_core_Map_Legal #[.pointer (some ⟨b.M,0,none⟩),.agg #[.int .i64 u,.int .i64 be],.agg #[.int .i64 v,.int .i64 ce]] w fun r w'=>∃z,r=.returned (.tuple #[.bool z,errV (k2E lv tl N u be v ce)])∧GS w w' b N lv tl q B D ky∧(k2E lv tl N u be v ce=0→(z=true↔Lgl tl N u.toNat be v.toNat ce))∧(k2E lv tl N u be v ce≠0→z=false):=by
 refine (calls_core_Map_Legal _ _ _ _ _ _ (fun v' w'=>∃z,v'=.tuple #[.bool z,errV (k2E lv tl N u be v ce)]∧GS w w' b N lv tl q B D ky∧(k2E lv tl N u be v ce=0→(z=true↔Lgl tl N u.toNat be v.toNat ce))∧(k2E lv tl N u be v ce≠0→z=false)) ?_).mono (by rintro r w' ⟨v,rfl,z,rfl,j⟩;exact ⟨z,rfl,j⟩)
 unfold sh_core_Map_Legal
 refine Qa4 fun A1 w1 hA1 c1 ra=>Qa4 fun A2 w2 hA2 c2 rb=>?_
 have ra:=c2.row (fun h=>h) ra
 have gs:=h.nob (c1.trans c2)
 rw [Qag,Qag]
 refine Qaj (n:=u) ra rfl (Qaj (n:=be) ra rfl (Qaj (n:=v) rb rfl (Qaj (n:=ce) rb rfl ((x_looks gs.a.toMR.x h.cb).mono ?_))))
 rintro r w3 ⟨X,Y,is,rfl,xs,k1,k2⟩
 have gs3:=gs.trans (gs.a.xs xs)
 have key:k2E lv tl N u be v ce=0→(is=true↔Lgl tl N u.toNat be v.toNat ce):=fun hk=>by
  obtain ⟨_,_,his⟩:=k1 hk
  rw [his]
  have hk1:kE lv tl N u be=0:=Classical.byContradiction fun k=>by unfold k2E at hk;rw [if_neg k] at hk;exact k hk
  obtain ⟨u,rfl,hu,_,hcu⟩:=kE_0 hk1
  rw [Int.toNat_natCast]
  unfold Lgl
  rw [h.cb.pf (itm_lt h.cb.mp hu hcu),h.cj.gc]
 refine ⟨_,_,_,_,rfl,Qaf (fun hi=>?_) fun hi=>⟨_,rfl,gs3,fun hk=>by rw [←key hk,hi],fun _=>rfl⟩⟩
 have hk:k2E lv tl N u be v ce=0:=Classical.byContradiction fun k=>by rw [k2 k] at hi;cases hi
 refine ⟨Qgc _,true,by rw [hk];rfl,gs3,fun _=>by rw [←key hk,hi],fun j=>absurd hk j⟩
end
end Core
end Go.Proofs.YtpmicakdjhoafaaGreatDoor
