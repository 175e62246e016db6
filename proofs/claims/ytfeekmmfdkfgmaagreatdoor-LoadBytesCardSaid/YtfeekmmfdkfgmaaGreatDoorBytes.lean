/-
Bytes: numbers out of bytes and into them, clones, what is joined; frames cut and made (layer 1's program).
Conditions: those that each theorem states.
-/
import Derived.Test.YtfeekmmfdkfgmaaGreatDoorGNew
import Derived.Lib.AppendZeros
import Derived.Test.YtfeekmmfdkfgmaaGreatDoorHsh
set_option linter.unusedVariables false
set_option linter.unusedSimpArgs false
namespace Go.Proofs.YtfeekmmfdkfgmaaGreatDoor
open Go Go.RowKit
namespace Core
open Go.Proofs.YtfeekmmfdkfgmaaGreatDoor.Seq
theorem al_s (w:World) (o:Obj):(w.alloc o).heap.size=w.heap.size+1:=by show (w.heap.push _).size=_;simp
theorem Q9j:ET Pg 44 5 1 1:=ET.of (by kernel_rfl) (by kernel_rfl)
def bys (l:List Nat):List Value:=l.map fun (x:Nat)=>.int .u8 (x:Int)
def Bt (l:List Nat):Prop:=∀x∈l,x<256
def nb (l:List Nat):Nat:=l.foldl (fun v c=>v*256+c) 0
theorem Q4v {l:List Nat}:(bys l).length=l.length:=List.length_map ..
theorem Q4u {l:List Nat}:∀u∈bys l,oneC u=true:=by intro u hu;obtain ⟨x,_,rfl⟩:=List.mem_map.1 hu;rfl
theorem Q4w {l:List Nat} {i:Nat} (h:i<l.length):(bys l)[i]?=some (.int .u8 (l[i]:Int)):=by unfold bys;rw [List.getElem?_map,List.getElem?_eq_getElem h];rfl
theorem Q61 {l m:List Nat}:bys (l++m)=bys l++bys m:=List.map_append
theorem Q8x {l:List Nat} {k:Nat}:(bys l).take k=bys (l.take k):=by unfold bys;rw [List.map_take]
theorem Q8y {l:List Nat} {k:Nat}:(bys l).drop k=bys (l.drop k):=by unfold bys;rw [List.map_drop]
theorem Bt.take {l:List Nat} (h:Bt l) (k:Nat):Bt (l.take k):=fun x hx=>h x (List.mem_of_mem_take hx)
theorem Bt.drop {l:List Nat} (h:Bt l) (k:Nat):Bt (l.drop k):=fun x hx=>h x (List.mem_of_mem_drop hx)
theorem Bt.get {l:List Nat} (h:Bt l) {i:Nat} (hi:i<l.length):l[i] < 256:=h _ (List.getElem_mem hi)
theorem Q4c (l:List Nat) (c:Nat):nb (l++[c])=nb l*256+c:=by unfold nb;rw [List.foldl_append];rfl
theorem Zmw:∀(k:Nat) (l:List Nat),l.length=k→Bt l→nb l<256 ^ k:=by
 intro k
 induction k with
 | zero=>intro l hl _;obtain rfl:=List.length_eq_zero_iff.1 hl;decide
 | succ k ih=>
  intro l hl hb
  have hn:l≠[]:=by intro e;subst e;cases hl
  obtain ⟨m,c,rfl⟩:∃m c,l=m++[c]:=⟨l.dropLast,l.getLast hn,(List.dropLast_concat_getLast hn).symm⟩
  have h1:=ih m (by simp at hl;omega) (fun x hx=>hb x (by simp [hx]))
  have h2:=hb c (by simp)
  rw [Q4c,Nat.pow_succ]
  have:(nb m+1)*256≤256 ^ k*256:=Nat.mul_le_mul_right _ h1
  rw [Nat.add_mul] at this;omega
theorem Q1f {l:List Nat} {k:Nat} (hl:l.length≤k) (hb:Bt l):nb l<256 ^ k:=
 Nat.lt_of_lt_of_le (Zmw _ l rfl hb) (Nat.pow_le_pow_right (by decide) hl)
theorem wrap_u64 {n:Int} (h0:0≤n) (h1:n<18446744073709551616):IntKind.wrap .u64 n=n:=by
 simp [IntKind.wrap,IntKind.bits,IntKind.signed];omega
theorem or8 {v c:Nat} (hv:v<72057594037927936) (hc:c<256) :
  IntKind.wrap .u64 (((BitVec.ofInt (IntKind.bits .u64) (IntKind.wrap .u64 ((v:Int)*2 ^ (min (Int.toNat (8:Int)) (IntKind.bits .u64)))) ||| BitVec.ofInt (IntKind.bits .u64) (IntKind.wrap .u64 (c:Int))).toNat:Int))=((v*256+c:Nat):Int):=by
 have e1:(v:Int)*2 ^ (min (Int.toNat (8:Int)) (IntKind.bits .u64))=((v*256:Nat):Int):=by
  rw [show min (Int.toNat (8:Int)) (IntKind.bits .u64)=8 from by decide];omega
 have e2:IntKind.wrap .u64 (c:Int)=c:=wrap_u64 (by omega) (by omega)
 have e3:IntKind.wrap .u64 ((v*256:Nat):Int)=((v*256:Nat):Int):=wrap_u64 (by omega) (by omega)
 rw [e1,e2,e3,show IntKind.bits .u64=64 from rfl,BitVec.ofInt_natCast,BitVec.ofInt_natCast,BitVec.toNat_or,BitVec.toNat_ofNat,BitVec.toNat_ofNat,Nat.mod_eq_of_lt (by omega),Nat.mod_eq_of_lt (by omega)]
 have e4:v*256 ||| c=v*256+c:=by
  rw [show v*256=v <<< 8 by rw [Nat.shiftLeft_eq]]
  exact (Nat.shiftLeft_add_eq_or_of_lt hc v).symm
 rw [e4]
 exact wrap_u64 (by omega) (by omega)
section
variable {w w':World} {b:Option Addr} {l c base:Nat} {xs ys:List Nat}
theorem Zhh {xs:List Value} (h:VA w b l 1 xs) (h1:∀u∈xs,oneC u=true) (hl:l≤140737488355328):Calls Pg 243 #[.slice b l c] w fun r w'=>∃b' c',r=.returned (.slice b' l c')∧Own w' w.heap.size 5 1 b' l c' xs∧Chg Qaa w w':=by
 refine (Qlc _ _ _).go ?_
 unfold Qgl nr
 refine Qac (fun hn=>?_) (fun hn=>?_)
 ·have hb:b=none:=by simpa using hn
  subst hb
  have h0:l=0:=by rcases h.2 with k | ⟨_,_,_,_,k,_⟩;exact k;cases k
  subst h0
  obtain rfl:xs=[]:=List.length_eq_zero_iff.1 (by simpa using h.1)
  exact ⟨_,_,rfl,Own.nil,Chg.refl _ _⟩
 ·refine Qal fun r1=>?_
  have hc1:Chg Qaa w (w.alloc (.cells #[] 5)):=(Chg.refl _ _).alloc _
  have hs1:(w.alloc (.cells #[] 5)).heap.size=w.heap.size+1:=al_s _ _
  have ho:Own (w.alloc (.cells #[] 5)) w.heap.size 5 1 (some ⟨w.heap.size,0,none⟩) 0 0 []:=World.ownsRow_made w #[] 0 (Nat.le_refl _) (by unfold maxLen;omega) (by simp)
  obtain ⟨b',c',w2,hr,ho2,hc2,hw⟩:=Qfo (sc:=c) (ty:=44) Q9j ho (h.alloc (.cells #[] 5)) h1 (by omega) (by omega) (by omega)
  rw [Nat.zero_add] at hr ho2
  exact ⟨b',_,c',w2,hr,_,_,rfl,ho2,hc1.trans' hc2 fun k hk=>.inr (by simp only [Q4x,Option.some.injEq] at hk;omega)⟩
def pbs (v:Nat):Nat→List Nat
 | 0=>[]
 | k+1=>v/256 ^ k % 256::pbs v k
theorem Qbc (v:Nat):∀k,(pbs v k).length=k
 | 0=>rfl
 | k+1=>by rw [pbs,List.length_cons,Qbc v k]
theorem add0 (b:Option Addr):Option.map (fun a=>Addr.add a (0*1)) b=b:=by cases b<;>rfl
end
end Core
end Go.Proofs.YtfeekmmfdkfgmaaGreatDoor
