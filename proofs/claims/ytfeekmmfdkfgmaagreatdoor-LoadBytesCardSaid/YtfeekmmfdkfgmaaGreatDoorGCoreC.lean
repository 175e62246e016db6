/-
Edges laid (layer 16's program): what two corners look into, faces divided and bound.
Conditions: those that each theorem states.
-/
import Derived.Test.YtfeekmmfdkfgmaaGreatDoorGCoreB
set_option linter.unusedVariables false
set_option linter.unusedSimpArgs false
namespace Go.Proofs.YtfeekmmfdkfgmaaGreatDoor
open Go Go.RowKit
namespace Core
set_option linter.ambiguousOpen false
open Seq Cut Web
section
variable {P:Program} {xs ys:Array Value} {X Y:Nat→Int} {k:IntKind} {w:World}
end
section
variable {w₀ w w':World} {b:Bk} {N e g v x y z a c u s:Nat} {be ce:Int} {E E':Int} {lv lv':Nat→Bool} {tl tl':Nat→List Nat} {q q':List (List Nat)} {A C:List Nat} {B B' D D':Nat→Option (Nat × Nat)} {ky ky':Nat→Int} {f:Nat→Nat} {lim:Nat→Prop}
def itm' (tl:Nat→List Nat) (N v:Nat) (be:Int):Nat:=if be=-1 then 2*N+v else sg tl N be.toNat
theorem MX.low (h:MX w.heap b N lv tl q B D ky E) (k:Nat) (hk:b.ch k):k<w.heap.size:=by
 have h1:=h.t.lt
 have h2:=h.w.e.lt
 have h3:=h.w.a.a.lt.2
 obtain ⟨_,f,_⟩:=h.w.f
 have h4:=f.lt.2
 obtain ⟨_,g,_⟩:=h.f
 have h5:=g.lt.2
 have h6:=h.r.lt
 have h7:=h.v.lt
 have h8:=h.k.lt
 unfold Bk.ch at hk
 omega
def k2E (lv:Nat→Bool) (tl:Nat→List Nat) (N:Nat) (u be v ce:Int):Int:=if kE lv tl N u be=0 then kE lv tl N v ce else kE lv tl N u be
end
structure GM (h:Array Obj) (b:Bk) (N:Nat) (lv:Nat→Bool) (tl:Nat→List Nat) (q:List (List Nat)) (B D:Nat→Option (Nat × Nat)) (ky:Nat→Int):Prop extends MR h b N lv tl q B D ky where
 cb:CB (fun _=>False) N tl q B D
 mm:MM N tl B D ky fun _=>False
 ll:∀v,v<N→tl v≠[]→lv v=true
 ki:∀e,Laid tl N e→∃w:Int,-2147483648≤w∧w≤2147483647∧ky e=w*1048576+e
def GC (tl:Nat→List Nat) (N:Nat):Nat→Nat→Prop:=RT fun x y=>∃e,Laid tl N e∧((x=og tl N (2*e)∧y=og tl N (2*e+1))∨(x=og tl N (2*e+1)∧y=og tl N (2*e)))
def PF (tl:Nat→List Nat) (N:Nat):Nat→Nat→Prop:=RT fun x y=>y=ph tl N x
def Lgl (tl:Nat→List Nat) (N u:Nat) (be:Int) (v:Nat) (ce:Int):Prop:=PF tl N (itm' tl N u be) (itm' tl N v ce)∨¬GC tl N u v
open Classical in
noncomputable def jE (lv:Nat→Bool) (tl:Nat→List Nat) (N:Nat) (e u be v ce:Int):Int:=
 if 0≤e∧e<N then (if Laid tl N e.toNat then 20 else if k2E lv tl N u be v ce=0 then (if Lgl tl N u.toNat be v.toNat ce then 0 else 15) else k2E lv tl N u be v ce) else 12
section
variable {w₀ w w':World} {b:Bk} {N g x y z a c s:Nat} {E E':Int} {lv lv':Nat→Bool} {tl tl':Nat→List Nat} {q q':List (List Nat)} {A C:List Nat} {B B' D D':Nat→Option (Nat × Nat)} {ky ky':Nat→Int} {f:Nat→Nat} {lim:Nat→Prop}
theorem GM.keep {S:Nat→Prop} (h:GM w.heap b N lv tl q B D ky) (c:Chg S w w') (hS:∀k,S k→¬b.has k):GM w'.heap b N lv tl q B D ky:=⟨h.toMR.keep c hS,h.cb,h.mm,h.ll,h.ki⟩
theorem Q6v (hx:x∈A) (hy:y∈A):RT (Cy A) x y:=by
 obtain ⟨p,s,rfl⟩:=List.append_of_mem hx
 have hr:∀{u v},Cy (x::(s++p)) u v→Cy (p++x::s) u v:=fun k=>Qv2.2 (by simpa using k)
 refine RT.mono (fun u v k=>hr k) ?_
 have hy:=Qe8.1 hy
 generalize s++p=l at *
 have key:∀(m:List Nat) (pre:List Nat) (u:Nat),x::l=pre++u::m→RT (Cy (x::l)) x u→y∈u::m→RT (Cy (x::l)) x y:=by
  intro m
  induction m with
  | nil=>intro pre u _ h1 h2;obtain rfl:=List.mem_singleton.1 h2;exact h1
  | cons v m ih=>
   intro pre u h1 h2 h3
   rcases List.mem_cons.1 h3 with rfl | h3
   ·exact h2
   ·refine ih (pre++[u]) v (by simp [h1]) (h2.step ?_) h3
    rw [h1]
    exact .inl (Web.Nx.append.2 (.inr (.inl (.inl ⟨rfl,rfl⟩))))
 exact key l [] x rfl .refl hy
theorem CB.pf (h:CB lim N tl q B D) (hx:x<3*N):SF q x y↔PF tl N x y:=by
 constructor
 ·rintro ⟨A,hA,h1,h2⟩
  exact RT.mono (fun u v k=>(h.fq A hA u v k).symm) (Q6v h1 h2)
 ·intro k
  induction k with
  | refl=>obtain ⟨A,hA,k⟩:=h.al x hx;exact ⟨A,hA,k,k⟩
  | step _ k ih=>
   subst k
   have h1:=ih
   obtain ⟨A,hA,_,h2⟩:=h1
   exact Qqo h.nd ih (h.Zdr (h.lt _ (List.mem_flatten.2 ⟨A,hA,h2⟩)))
theorem Zjo {z:Int} {e:Nat} (hz:-2147483648≤z∧z≤2147483647) (he:e<1048576):Calls Pg 135 #[.int .i32 z,.int .i64 e] w fun r w'=>r=.returned (.tuple #[.int .i64 (z*1048576+e),errV 0])∧w'=w:=by
 refine (Q13 _ _).go ?_
 unfold Qzq nr
 refine Qac (fun k=>?_) (fun _=>Qac (fun k=>?_) (fun _=>⟨by omega,?_⟩))
 ·simp only [b1s] at k;omega
 ·simp only [b1s] at k;omega
 rw [show (min (Int.toNat (20:Int)) (IntKind.bits .i64))=20 from rfl,show (2:Int) ^ 20=1048576 by decide,wrap64_in (x:=z) (by omega) (by omega),wrap64_in (x:=z*1048576) (by omega) (by omega),wrap64_in (x:=z*1048576+e) (by omega) (by omega)]
 exact ⟨rfl,rfl⟩
theorem MX.cnt (h:MX w.heap b N lv tl q B D ky E) (c:Chg (·=b.M) w w') (r:Row w'.heap b.M 133 (mrow b N (cV lv N) E' (cV lv N-cB B N) (sB B ky N))):XS w w' b N lv tl q B D ky E':=
 ⟨c.mono fun _ _ e=>.inl e,h.toMP0.row c,r⟩
end
section
variable {w₀ w w':World} {b:Bk} {N:Nat} {lv:Nat→Bool} {tl:Nat→List Nat} {q:List (List Nat)} {B D:Nat→Option (Nat × Nat)} {ky:Nat→Int}
theorem Q6q {e:Int} (hk:eE tl N e=0):∃x:Nat,e=x∧Laid tl N x:=by
 unfold eE at hk
 split at hk
 ·refine ⟨e.toNat,by omega,?_⟩
  split at hk
  ·assumption
  ·cases hk
 ·cases hk
theorem Zjp {e:Nat} (hN:e<N) (h:Laid tl N e):eE tl N e=0:=by unfold eE;rw [if_pos (by omega),Int.toNat_natCast,if_pos h]
theorem Zdc {e:Int} (h:GM w.heap b N lv tl q B D ky):Calls Pg 90 #[.pointer (some ⟨b.M,0,none⟩),.int .i64 e] w fun r w'=>w'=w∧∃z,r=.returned (.tuple #[.int .i32 z,errV (eE tl N e)])∧(eE tl N e≠0→z=0)∧(eE tl N e=0→z=ky e.toNat/1048576):=by
 refine (Qua _ _).go ?_
 unfold Qno nr
 have hx0:=h.toMR.x
 refine (Q2r hx0).mono ?_
 rintro r w3 ⟨rfl,rfl⟩
 refine ⟨_,rfl,Qaj (fun k=>⟨rfl,_,rfl,fun _=>rfl,fun j=>absurd j k⟩) (fun k=>pt_i ?_)⟩
 obtain ⟨x,rfl,hl⟩:=Q6q k
 have hN:=h.cb.mp.Qbj hl
 rw [Qad]
 refine Qai h.r rfl (Qat hN ?_)
 rw [Nat.zero_add,Nat.mul_one]
 refine Qaf (n:=ky x) h.k (Qxr hN) ((Q4l (h.kb x)).mono ?_)
 rintro r w4 ⟨rfl,rfl⟩
 exact ⟨_,rfl,rfl,_,by rw [k];rfl,fun j=>absurd k j,fun _=>by rw [Int.toNat_natCast]⟩
end
end Core
end Go.Proofs.YtfeekmmfdkfgmaaGreatDoor
