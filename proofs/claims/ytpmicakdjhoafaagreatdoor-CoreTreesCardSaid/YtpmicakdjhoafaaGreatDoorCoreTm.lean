/-
The theorem of stage 16 in plain words: marked edges and ties, one by one.
Conditions: those that each theorem states.
-/
import Derived.Test.YtpmicakdjhoafaaGreatDoorCoreT
set_option linter.unusedVariables false
set_option linter.unusedSimpArgs false
namespace Go.Proofs.YtpmicakdjhoafaaGreatDoor
open Go Go.RowKit
namespace Core
open Go.Proofs.YtpmicakdjhoafaaGreatDoor.Seq Go.Proofs.YtpmicakdjhoafaaGreatDoor.Cut Go.Proofs.YtpmicakdjhoafaaGreatDoor.Web
noncomputable def rs (p:Nat→Prop) (B:Nat→Option (Nat × Nat)) (e:Nat):Option (Nat × Nat):=if bl (p e)=true then B e else none
section
variable {w w':World} {bad:Nat→Prop} {b:Option Addr} {bk':Bk} {N n c d e i j u v x y:Nat} {A:List Nat} {tl:Nat→List Nat} {lv:Nat→Bool} {W ky:Nat→Int} {q:List (List Nat)} {B D:Nat→Option (Nat × Nat)} {p p':Nat→Prop} {h0:Array Obj} {G:Nat→Nat} {V:Value}
theorem Qtu (h:p e):rs p B e=B e:=by unfold rs;rw [if_pos (Qmp.2 h)]
theorem Qrh (h:¬p e):rs p B e=none:=by unfold rs;rw [if_neg (fun k=>h (Qmp.1 k))]
theorem Qxw {r:Nat × Nat} (h:rs p B e=some r):p e∧B e=some r:=by
 by_cases k:p e
 ·rw [Qtu k] at h;exact ⟨k,h⟩
 ·rw [Qrh k] at h;cases h
theorem Qy0 (hn:A.Nodup) (hi:A[i]?=some e) (hp:p e) (hB:B e=some (u,v)):LK q (rs (fun x=>x∈A.take (i+1)∧p x) B) x y↔LK q (rs (fun x=>x∈A.take i∧p x) B) x y∨(LK q (rs (fun x=>x∈A.take i∧p x) B) x u∧LK q (rs (fun x=>x∈A.take i∧p x) B) v y)∨(LK q (rs (fun x=>x∈A.take i∧p x) B) x v∧LK q (rs (fun x=>x∈A.take i∧p x) B) u y):=by
 have hlt:=(List.getElem?_eq_some_iff.1 hi).1
 have hne:e∉A.take i:=fun h=>by
  obtain ⟨j,hj⟩:=List.getElem?_of_mem h
  have hj1:=(List.getElem?_eq_some_iff.1 hj).1
  rw [List.length_take] at hj1
  rw [List.getElem?_take_of_lt (by omega)] at hj
  have:=(List.getElem?_inj hlt hn (j:=j)).1 (by rw [hi,hj])
  omega
 have e1:rs (fun x=>x∈A.take (i+1)∧p x) B=upd (rs (fun x=>x∈A.take i∧p x) B) e (some (u,v)):=by
  funext z
  have ht:A.take (i+1)=A.take i++[e]:=by rw [List.take_add_one,hi];rfl
  by_cases h:z=e
  ·subst h
   rw [Qab,Qtu ⟨by rw [ht];simp,hp⟩,hB]
  ·rw [Qai _ _ h]
   by_cases k:z∈A.take i∧p z
   ·rw [Qtu (p:=fun x=>x∈A.take i∧p x) k,Qtu ⟨by rw [ht];simp [k.1],k.2⟩]
   ·rw [Qrh (p:=fun x=>x∈A.take i∧p x) k,Qrh fun k2=>k ⟨by have:=k2.1;rw [ht] at this;simpa [h] using this,k2.2⟩]
 rw [e1,lk_add (Qrh fun k=>hne k.1)]
theorem Qtt (hi:A[i]?=some e) (h:¬(p e∧(B e).isSome)):rs (fun x=>x∈A.take (i+1)∧p x) B=rs (fun x=>x∈A.take i∧p x) B:=by
 funext z
 have ht:A.take (i+1)=A.take i++[e]:=by rw [List.take_add_one,hi];rfl
 by_cases k:z∈A.take i∧p z
 ·rw [Qtu (p:=fun x=>x∈A.take i∧p x) k,Qtu ⟨by rw [ht];simp [k.1],k.2⟩]
 ·rw [Qrh (p:=fun x=>x∈A.take i∧p x) k]
  by_cases k2:z=e
  ·subst k2
   by_cases hp:p z
   ·rw [Qtu ⟨by rw [ht];simp,hp⟩]
    cases hB:B z with
    | none=>rfl
    | some r=>exact absurd ⟨hp,by rw [hB];rfl⟩ h
   ·rw [Qrh fun k3=>hp k3.2]
  ·rw [Qrh fun k3=>k ⟨by have:=k3.1;rw [ht] at this;simpa [k2] using this,k3.2⟩]
theorem Qvk:rs (fun x=>x∈A.take 0∧p x) B=fun _=>none:=by
 funext z;exact Qrh fun k=>by have:=k.1;simp at this
theorem rs_all (h:∀e r,B e=some r→p e):rs p B=B:=by
 funext z
 cases hB:B z with
 | none => by_cases k : p z
           · rw [Qtu k,hB]
           · rw [Qrh k]
 | some r=>rw [Qtu (h z r hB),hB]
theorem eL_sort:(eL tl N).Pairwise (· < ·):=List.Pairwise.filter _ List.pairwise_lt_range
theorem Qps:(eL tl N).Nodup:=List.Pairwise.imp (fun h=>by omega) eL_sort
theorem eL_lt (hi:(eL tl N)[i]?=some e) (hj:(eL tl N)[j]?=some d):i<j↔e<d:=by
 obtain ⟨h1,rfl⟩:=List.getElem?_eq_some_iff.1 hi
 obtain ⟨h2,rfl⟩:=List.getElem?_eq_some_iff.1 hj
 have:=List.pairwise_iff_getElem.1 (eL_sort (tl:=tl) (N:=N))
 constructor
 ·exact this i j h1 h2
 ·intro k
  rcases Nat.lt_trichotomy i j with h | h | h
  ·exact h
  ·subst h;omega
  ·have:=this j i h2 h1 h;omega
theorem GM.less (h:GM h0 bk' N lv tl q B D ky) (hl:Laid tl N e) (hB:B e=none):LK [] (rs (fun x=>x∈eL tl N∧ky x<ky e) B) (og tl N (2*e)) (og tl N (2*e+1)):=by
 refine Classical.byContradiction fun hn=>?_
 obtain ⟨f,u,v,k1,k2,k3⟩:=sepP (P:=LK [] (rs (fun x=>x∈eL tl N∧ky x<ky e) B)) (q:=[]) (fun _=>LK.refl) (fun _ _=>LK.symm) (fun _ _ _=>LK.trans) (fun _ _ ⟨A,hA,_⟩=>by cases hA) N B _ _ h.bN h.cj'.fB (h.cj'.hang hl) hn
 have hf:=(h.cb.bB f _ k1).1
 have:=h.mm f e _ _ (fun h=>h) k1 (h.tied hl hB) k2
 exact k3 (LK.te (e:=f) (by rw [Qtu ⟨Qww.2 ⟨h.cb.mp.Qbv hf,hf⟩,this⟩];exact k1))
theorem GM.more (h:GM h0 bk' N lv tl q B D ky) (hl:Laid tl N e) {r:Nat × Nat} (hB:B e=some r):LK q (rs (fun x=>x∈eL tl N∧ky e<ky x) D) (2*e) (2*e+1):=by
 obtain ⟨_,rfl,_⟩:=h.cb.bB e r hB
 refine Classical.byContradiction fun hn=>?_
 obtain ⟨f,u,v,k1,k2,k3⟩:=sepP (P:=LK q (rs (fun x=>x∈eL tl N∧ky e<ky x) D)) (q:=q) (fun _=>LK.refl) (fun _ _=>LK.symm) (fun _ _ _=>LK.trans) (fun _ _=>LK.sf) N D _ _ h.dN h.cj'.fD (h.cj'.link hl) hn
 have hf:=(h.cb.bD f _ k1).1
 have cb':=h.cb.Qwj hB
 have cj:CJ (fun i=>False∨i=e) N tl q (upd B e none) D:=⟨cb',h.cj'.fB.less,h.cj'.fD⟩
 have:=cj.Qxf (e:=e) (fun i hi=>hi.elim False.elim id) hl (Qab _ _ _) (h.cj'.fB e _ _ hB) k2
 have:=h.mm e f _ _ (fun h=>h) hB k1 this
 exact k3 (LK.te (e:=f) (by rw [Qtu ⟨Qww.2 ⟨h.cb.mp.Qbv hf,hf⟩,this⟩];exact k1))
theorem CB.lk1 {lim:Nat→Prop} (h:CB lim N tl q B D) (hx:x<3*N):LK q (fun _=>none) x y↔SF q x y:=by
 constructor
 ·intro k
  induction k with
  | refl=>obtain ⟨A,hA,k⟩:=h.al x hx;exact ⟨A,hA,k,k⟩
  | step _ k ih=>
   rcases k with k | ⟨_,k | k⟩
   ·exact Qlm h.nd ih k
   ·cases k
   ·cases k
 ·exact LK.sf
structure LG (w:World) (bad:Nat→Prop) (b:Option Addr) (c n:Nat) (G:Nat→Nat):Prop where
 v:VA w b n 1 (ivs ((List.range n).map G))
 o:Okb bad n b
 k:n≤c
theorem Qt0:((List.range n).map G).length=n:=by simp
theorem LA.lg (h:LA w bad V ((List.range n).map G)):∃b c,V=.slice b n c∧LG w bad b c n G:=by
 obtain ⟨b,c,rfl,h1,h2,h3⟩:=h
 rw [Qt0] at h1 h2 h3 ⊢
 exact ⟨b,c,rfl,h1,h2,h3⟩
theorem LG.la (h:LG w bad b c n G):LA w bad (.slice b n c) ((List.range n).map G):=⟨b,c,by rw [Qt0],by rw [Qt0];exact h.v,by rw [Qt0];exact h.o,by rw [Qt0];exact h.k⟩
theorem LG.keep {S:Nat→Prop} (h:LG w bad b c n G) (k:Chg S w w') (hS:∀i,S i→bad i):LG w' bad b c n G:=⟨h.v.keep k fun g hl hg hs=>h.o g hl hg (hS g hs),h.o,h.k⟩
theorem LG.nob (h:LG w bad b c n G) (k:Chg Qac w w'):LG w' bad b c n G:=h.keep k fun _ h=>h.elim
theorem LG.rd (h:LG w bad b c n G) (hx:x<n) {K:Int→Prop} (k:K (G x:Nat)):ixS b n (x:Int) 1 fun a=>ldI .i64 a w K:=by
 have:=rdI (A:=(List.range n).map G) (w:=w) (b:=b) (j:=x) (d:=G x) (K:=K) (by rw [Qt0];exact h.v) (by rw [List.getElem?_map,List.getElem?_range hx];rfl) k
 rwa [Qt0] at this
theorem Qy4 {bad:Nat→Prop} (hn:n≤1048576) (hbad:∀k,bad k→k<w.heap.size):Calls Pg Qca #[.int .i64 n] w fun r w'=>∃b c,r=.returned (.slice b n c)∧Chg Qac w w'∧LG w' bad b c n id:=by
 refine (r_New07 hn).mono ?_
 rintro r w' ⟨V,rfl,k,h⟩
 have h:LA w' (fun k=>k<w.heap.size) V ((List.range n).map id):=by rw [List.map_id];exact h
 obtain ⟨b,c,rfl,h2⟩:=LA.lg h
 exact ⟨b,c,rfl,k,h2.v,fun g hl e hb=>h2.o g hl e (hbad g hb),h2.k⟩
theorem Qvr {a0 c0:Nat} (h:LG w bad b c n G) (ha:a0<n) (hc:c0<n) (hn:n≤1048576) (hbad:∀k,bad k→k<w.heap.size):Calls Pg Qb1 #[.slice b n c,.int .i64 a0,.int .i64 c0] w fun r w'=>∃b' c' z G',r=.returned (.tuple #[.slice b' n c',.bool z])∧Chg Qac w w'∧(z=true↔G a0≠G c0)∧LG w' bad b' c' n G'∧∀x y,G' x=G' y↔G x=G y∨(G x=G a0∧G c0=G y)∨(G x=G c0∧G a0=G y):=by
 refine (Qy5 h.la ha hc hn hbad).mono ?_
 rintro r w' ⟨V',z,rfl,k,hz,h'⟩
 obtain ⟨b',c',rfl,h2⟩:=LA.lg h'
 refine ⟨b',c',z,_,rfl,k,hz,h2,fun x y=>?_⟩
 by_cases e:G a0=G c0
 ·rw [if_pos e]
  constructor
  ·exact .inl
  ·rintro (k | ⟨k1,k2⟩ | ⟨k1,k2⟩)<;>omega
 ·rw [if_neg e,jn_iff e]
end
end Core
end Go.Proofs.YtpmicakdjhoafaaGreatDoor
