/-
Edges laid (layer 16's program): what two corners look into, faces divided and bound.
Conditions: those that each theorem states.
-/
import Derived.Test.YtokjfdggpapkbaaGreatDoorGCoreB
set_option linter.unusedVariables false
set_option linter.unusedSimpArgs false
namespace Go.Proofs.YtokjfdggpapkbaaGreatDoor
open Go Go.RowKit
namespace Core
open Go.Proofs.YtokjfdggpapkbaaGreatDoor.Seq Go.Proofs.YtokjfdggpapkbaaGreatDoor.Cut Go.Proofs.YtokjfdggpapkbaaGreatDoor.Web
section
variable {P:Program} {xs ys:Array Value} {X Y:Nat→Int} {k:IntKind} {w:World}
theorem run_eqF (d : Nat) : ∀ (fs : List Field), (∀ f ∈ fs, f.name ≠ "_" ∧ P.underlying f.type = some (.int k) ∧ xs[f.offset]? = some (.int k (X f.offset)) ∧ ys[f.offset]? = some (.int k (Y f.offset))) →
  (Op.eqFields (d+1) xs ys fs).run P w=.ok (fs.all fun f=>X f.offset==Y f.offset) w
 | [],_=>by simp [Op.eqFields,go_sem]
 | f::fs,h=>by
  obtain ⟨h1,h2,h3,h4⟩:=h f (by simp)
  have ih:=run_eqF d fs fun g hg=>h g (List.mem_cons_of_mem _ hg)
  unfold Op.eqFields
  rw [if_pos h1,Qae (Qda h2 h3),Qae (Qda h2 h4),Qae (run_equalIn_int w d f.type k k _ _ h2)]
  cases hb:(X f.offset==Y f.offset)
  ·simp [go_sem,hb]
  ·simp [go_sem,hb,ih]
def intF (P:Program) (k:IntKind) (t:TypeId):Bool:=match P.underlying t with | some (.int k')=>sameK k k' | _=>false
theorem intF_eq {t:TypeId} (h:intF P k t=true):P.underlying t=some (.int k):=by
 unfold intF at h
 split at h
 ·rename_i h1;rw [h1,←Qy7 h]
 ·cases h
theorem Qy8 {t : TypeId} {offs : List Nat} {A B : Operand} (ht : P.underlying t = some (.struct (P.fieldsOf t))) (hp : P.stoodInHeld t = false) (hg : P.eqGuardType P.depth t = false) (ha : ((P.fieldsOf t).toList.all fun f => decide (f.name ≠ "_") && intF P k f.type) = true) (ho : (P.fieldsOf t).toList.map (·.offset) = offs)
  (hx:∀o∈offs,xs[o]?=some (.int k (X o))∧ys[o]?=some (.int k (Y o))) :
  (do eqGuard .eql t A B (.agg xs) (.agg ys);binOp .eql t (.agg xs) (.agg ys):Sem Value).run P w=.ok (.bool (offs.all fun o=>X o==Y o)) w∧
  (do eqGuard .neq t A B (.agg xs) (.agg ys);binOp .neq t (.agg xs) (.agg ys):Sem Value).run P w=.ok (.bool (!(offs.all fun o=>X o==Y o))) w:=by
 have e0:(Op.equalIn (9998+1+1) t (.agg xs) (.agg ys)).run P w=.ok (offs.all fun o=>X o==Y o) w:=by
  rw [run_equalIn_struct w _ t xs ys ht hp,run_eqF (X:=X) (Y:=Y) (k:=k)]
  ·rw [←ho,List.all_map];rfl
  ·intro f hf
   have h1:=List.all_eq_true.1 ha f hf
   rw [Bool.and_eq_true,decide_eq_true_iff] at h1
   have h2:=hx f.offset (by rw [←ho];exact List.mem_map.2 ⟨f,hf,rfl⟩)
   exact ⟨h1.1,intF_eq h1.2,h2.1,h2.2⟩
 constructor
 ·rw [Qae (run_eqGuard_agg w .eql t A B _ _ hg),run_eql_struct,show 10000=9998+1+1 from rfl,e0];rfl
 ·rw [Qae (run_eqGuard_agg w .neq t A B _ _ hg),run_neq_struct,show 10000=9998+1+1 from rfl,e0];rfl
end
section
variable {w₀ w w':World} {b:Bk} {N e g v x y z a c u s:Nat} {be ce:Int} {E E':Int} {lv lv':Nat→Bool} {tl tl':Nat→List Nat} {q q':List (List Nat)} {A C:List Nat} {B B' D D':Nat→Option (Nat × Nat)} {ky ky':Nat→Int} {f:Nat→Nat} {lim:Nat→Prop}
def itm' (tl:Nat→List Nat) (N v:Nat) (be:Int):Nat:=if be=-1 then 2*N+v else sg tl N be.toNat
theorem MX.low (h:MX w.heap b N lv tl q B D ky E) (k:Nat) (hk:b.ch k):k<w.heap.size:=by
 have h1:=h.t.lt
 have h2:=h.w.e.lt
 have h3:=h.w.a.a.lt.2
 obtain ⟨_,f,_⟩:=h.w.f
 have h4:=f.lt.2
 obtain ⟨_,g,_⟩:=h.f
 have h5:=g.lt.2
 have h6:=h.r.lt
 have h7:=h.v.lt
 have h8:=h.k.lt
 unfold Bk.ch at hk
 omega
def k2E (lv:Nat→Bool) (tl:Nat→List Nat) (N:Nat) (u be v ce:Int):Int:=if kE lv tl N u be=0 then kE lv tl N v ce else kE lv tl N u be
end
end Core
end Go.Proofs.YtokjfdggpapkbaaGreatDoor
namespace Go.Proofs.YtokjfdggpapkbaaGreatDoor
open Go Go.RowKit
namespace Core
open Go.Proofs.YtokjfdggpapkbaaGreatDoor.Seq Go.Proofs.YtokjfdggpapkbaaGreatDoor.Cut Go.Proofs.YtokjfdggpapkbaaGreatDoor.Web
structure GM (h:Array Obj) (b:Bk) (N:Nat) (lv:Nat→Bool) (tl:Nat→List Nat) (q:List (List Nat)) (B D:Nat→Option (Nat × Nat)) (ky:Nat→Int):Prop extends MR h b N lv tl q B D ky where
 cb:CB (fun _=>False) N tl q B D
 mm:MM N tl B D ky fun _=>False
 ll:∀v,v<N→tl v≠[]→lv v=true
 ki:∀e,Laid tl N e→∃w:Int,-2147483648≤w∧w≤2147483647∧ky e=w*1048576+e
def GC (tl:Nat→List Nat) (N:Nat):Nat→Nat→Prop:=RT fun x y=>∃e,Laid tl N e∧((x=og tl N (2*e)∧y=og tl N (2*e+1))∨(x=og tl N (2*e+1)∧y=og tl N (2*e)))
def PF (tl:Nat→List Nat) (N:Nat):Nat→Nat→Prop:=RT fun x y=>y=ph tl N x
def Lgl (tl:Nat→List Nat) (N u:Nat) (be:Int) (v:Nat) (ce:Int):Prop:=PF tl N (itm' tl N u be) (itm' tl N v ce)∨¬GC tl N u v
open Classical in
noncomputable def jE (lv:Nat→Bool) (tl:Nat→List Nat) (N:Nat) (e u be v ce:Int):Int:=
 if 0≤e∧e<N then (if Laid tl N e.toNat then 20 else if k2E lv tl N u be v ce=0 then (if Lgl tl N u.toNat be v.toNat ce then 0 else 15) else k2E lv tl N u be v ce) else 12
section
variable {w₀ w w':World} {b:Bk} {N g x y z a c s:Nat} {E E':Int} {lv lv':Nat→Bool} {tl tl':Nat→List Nat} {q q':List (List Nat)} {A C:List Nat} {B B' D D':Nat→Option (Nat × Nat)} {ky ky':Nat→Int} {f:Nat→Nat} {lim:Nat→Prop}
theorem GM.keep {S:Nat→Prop} (h:GM w.heap b N lv tl q B D ky) (c:Chg S w w') (hS:∀k,S k→¬b.has k):GM w'.heap b N lv tl q B D ky:=⟨h.toMR.keep c hS,h.cb,h.mm,h.ll,h.ki⟩
theorem cy_rt (hx:x∈A) (hy:y∈A):RT (Cy A) x y:=by
 obtain ⟨p,s,rfl⟩:=List.append_of_mem hx
 have hr:∀{u v},Cy (x::(s++p)) u v→Cy (p++x::s) u v:=fun k=>Qsi.2 (by simpa using k)
 refine RT.mono (fun u v k=>hr k) ?_
 have hy:=Qeo.1 hy
 generalize s++p=l at *
 have key:∀(m:List Nat) (pre:List Nat) (u:Nat),x::l=pre++u::m→RT (Cy (x::l)) x u→y∈u::m→RT (Cy (x::l)) x y:=by
  intro m
  induction m with
  | nil=>intro pre u _ h1 h2;obtain rfl:=List.mem_singleton.1 h2;exact h1
  | cons v m ih=>
   intro pre u h1 h2 h3
   rcases List.mem_cons.1 h3 with rfl | h3
   ·exact h2
   ·refine ih (pre++[u]) v (by simp [h1]) (h2.step ?_) h3
    rw [h1]
    exact .inl (Web.Nx.append.2 (.inr (.inl (.inl ⟨rfl,rfl⟩))))
 exact key l [] x rfl .refl hy
theorem CB.pf (h:CB lim N tl q B D) (hx:x<3*N):SF q x y↔PF tl N x y:=by
 constructor
 ·rintro ⟨A,hA,h1,h2⟩
  exact RT.mono (fun u v k=>(h.fq A hA u v k).symm) (cy_rt h1 h2)
 ·intro k
  induction k with
  | refl=>obtain ⟨A,hA,k⟩:=h.al x hx;exact ⟨A,hA,k,k⟩
  | step _ k ih=>
   subst k
   have h1:=ih
   obtain ⟨A,hA,_,h2⟩:=h1
   exact Qn3 h.nd ih (h.sf_ph (h.lt _ (List.mem_flatten.2 ⟨A,hA,h2⟩)))
theorem e_Key {z:Int} {e:Nat} (hz:-2147483648≤z∧z≤2147483647) (he:e<1048576):Calls Pg Qv1 #[.int .i32 z,.int .i64 e] w fun r w'=>r=.returned (.tuple #[.int .i64 (z*1048576+e),errV 0])∧w'=w:=by
 refine (Qxm _ _ _ (fun v' w'=>v'=.tuple #[.int .i64 (z*1048576+e),errV 0]∧w'=w) ?_).mono (by rintro e w' ⟨v,rfl,rfl,k⟩;exact ⟨rfl,k⟩)
 unfold Qvt nr
 refine Qad (fun k=>?_) (fun _=>Qad (fun k=>?_) (fun _=>⟨by omega,?_⟩))
 ·simp only [b1s] at k;omega
 ·simp only [b1s] at k;omega
 rw [show (min (Int.toNat (20:Int)) (IntKind.bits .i64))=20 from rfl,show (2:Int) ^ 20=1048576 by decide,wrap64_in (x:=z) (by omega) (by omega),wrap64_in (x:=z*1048576) (by omega) (by omega),wrap64_in (x:=z*1048576+e) (by omega) (by omega)]
 exact ⟨rfl,rfl⟩
theorem MX.cnt (h:MX w.heap b N lv tl q B D ky E) (c:Chg (·=b.M) w w') (r:Row w'.heap b.M Qj1 (mrow b N (cV lv N) E' (cV lv N-cB B N) (sB B ky N))):XS w w' b N lv tl q B D ky E':=
 ⟨c.mono fun _ _ e=>.inl e,h.toMP0.row c,r⟩
end
end Core
end Go.Proofs.YtokjfdggpapkbaaGreatDoor
namespace Go.Proofs.YtokjfdggpapkbaaGreatDoor
open Go Go.RowKit
namespace Core
open Go.Proofs.YtokjfdggpapkbaaGreatDoor.Seq Go.Proofs.YtokjfdggpapkbaaGreatDoor.Cut Go.Proofs.YtokjfdggpapkbaaGreatDoor.Web
section
variable {w₀ w w':World} {b:Bk} {N:Nat} {lv:Nat→Bool} {tl:Nat→List Nat} {q:List (List Nat)} {B D:Nat→Option (Nat × Nat)} {ky:Nat→Int}
theorem Qzr {e:Int} (hk:eE tl N e=0):∃x:Nat,e=x∧Laid tl N x:=by
 unfold eE at hk
 split at hk
 ·refine ⟨e.toNat,by omega,?_⟩
  split at hk
  ·assumption
  ·cases hk
 ·cases hk
theorem eE_of {e:Nat} (hN:e<N) (h:Laid tl N e):eE tl N e=0:=by unfold eE;rw [if_pos (by omega),Int.toNat_natCast,if_pos h]
theorem Q18 {e:Int} (h:GM w.heap b N lv tl q B D ky):Calls Pg Qmb #[.pointer (some ⟨b.M,0,none⟩),.int .i64 e] w fun r w'=>w'=w∧∃z,r=.returned (.tuple #[.int .i32 z,errV (eE tl N e)])∧(eE tl N e≠0→z=0)∧(eE tl N e=0→z=ky e.toNat/1048576):=by
 refine (Qq4 _ _ _ (fun v' w'=>w'=w∧∃z,v'=.tuple #[.int .i32 z,errV (eE tl N e)]∧(eE tl N e≠0→z=0)∧(eE tl N e=0→z=ky e.toNat/1048576)) ?_).mono (by rintro r w' ⟨v,rfl,k,z,rfl,j⟩;exact ⟨k,z,rfl,j⟩)
 unfold Qln nr
 have hx0:=h.toMR.x
 refine (Qx9 hx0).mono ?_
 rintro r w3 ⟨rfl,rfl⟩
 refine ⟨_,rfl,Qai (fun k=>⟨rfl,_,rfl,fun _=>rfl,fun j=>absurd j k⟩) (fun k=>pt_i ?_)⟩
 obtain ⟨x,rfl,hl⟩:=Qzr k
 have hN:=h.cb.mp.Qbe hl
 rw [Qac]
 refine Qaj h.r rfl (Qaq hN ?_)
 rw [Nat.zero_add,Nat.mul_one]
 refine Qaf (n:=ky x) h.k (Qt5 hN) ((Qzq (h.kb x)).mono ?_)
 rintro r w4 ⟨rfl,rfl⟩
 exact ⟨_,rfl,rfl,_,by rw [k];rfl,fun j=>absurd k j,fun _=>by rw [Int.toNat_natCast]⟩
end
end Core
end Go.Proofs.YtokjfdggpapkbaaGreatDoor
