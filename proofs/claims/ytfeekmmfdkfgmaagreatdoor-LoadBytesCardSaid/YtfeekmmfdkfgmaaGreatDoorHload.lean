import Derived.Test.YtfeekmmfdkfgmaaGreatDoorHref
import Derived.Test.YtfeekmmfdkfgmaaGreatDoorHsh
import Derived.Test.YtfeekmmfdkfgmaaGreatDoorGLawC
import Derived.Test.YtfeekmmfdkfgmaaGreatDoorHold
import Derived.Laws.BytesArg
/-
The references of layers 3 and 17: places loaded; a model that fits.
Conditions: those that each theorem states.
-/
set_option linter.unusedVariables false
set_option linter.unusedSimpArgs false
namespace Go.Proofs.YtfeekmmfdkfgmaaGreatDoor
open Go Go.RowKit
set_option linter.unnecessarySimpa false
namespace Core
set_option linter.ambiguousOpen false
open Seq Cut Web
theorem CV.Zed {w:World} {b:Option Addr} {l sz:Nat} {xs:List Value} (h:VA w b l sz xs):CV w b l sz xs:=by
 by_cases h0:l=0
 ·exact .inl h0
 obtain ⟨g,hb,hg⟩:=h.blk (by omega)
 have key:∀i,i<l→∃a,b=some a∧∀k,k<sz→w.cell? ((a.add (i*sz)).add k)=xs[i*sz+k]?:=fun i hi=>by
  have h1:=h.ix hi (K:=fun a=>∀k,k<sz→w.cell? (a.add k)=xs[i*sz+k]?) fun g o e cs r _ hc k hk=>by rw [Qad,r.cell];exact hc k hk
  obtain ⟨a,ha,_,_,k⟩:=h1
  rw [Int.toNat_natCast] at k
  exact ⟨a,ha,k⟩
 obtain ⟨a,ha,_⟩:=key 0 (by omega)
 refine .inr ⟨a,ha,?_,fun i k hi hk=>?_⟩
 ·rw [ha] at hb;cases hb;exact hg
 ·obtain ⟨a',ha',hc⟩:=key i hi
  rw [ha] at ha';cases ha'
  exact hc k hk
section
variable {w w':World} {M:Mdl} {X:List (Int × Int)} {b:Option Addr} {c m d e:Nat} {fr nx:Nat→Nat} {W:Nat→Int}
theorem cvz {i:Nat} {p:Int × Int} (va:CV w b X.length 2 (X.flatMap pz)) (hp:X[i]?=some p) {K:Int→Int→Prop} (k:K p.1 p.2):ixS b X.length (i:Int) 2 fun a=>ldI .u32 a w fun x=>ldI .i64 (a.add 1) w fun y=>K x y:=
 va.ix (List.getElem?_eq_some_iff.1 hp).1 fun a hc=>⟨p.1,(hc 0 (by omega)).trans (Q2z (j:=0) hp (by omega)),p.2,(hc 1 (by omega)).trans (Q2z (j:=1) hp (by omega)),k⟩
theorem Zli:(mcl fr nx W (d/2))[d % 2]?=some (.int .u32 (fr d:Nat)):=by
 rcases Nat.mod_two_eq_zero_or_one d with z | z
 ·rw [z]
  show some (Value.int .u32 (fr (2*(d/2)):Nat))=_
  rw [show 2*(d/2)=d by omega]
 ·rw [z]
  show some (Value.int .u32 (fr (2*(d/2)+1):Nat))=_
  rw [show 2*(d/2)+1=d by omega]
theorem Zlh:(mcl fr nx W (d/2))[2+d % 2]?=some (.int .u32 (nx d:Nat)):=by
 rcases Nat.mod_two_eq_zero_or_one d with z | z
 ·rw [z]
  show some (Value.int .u32 (nx (2*(d/2)):Nat))=_
  rw [show 2*(d/2)=d by omega]
 ·rw [z]
  show some (Value.int .u32 (nx (2*(d/2)+1):Nat))=_
  rw [show 2*(d/2)+1=d by omega]
theorem cvFr (h:CV w b m 5 (recs (mcl fr nx W) m)) (hd:d/2<m) {K:Int→Prop} (k:K (fr d:Nat)):ixS b m ((d/2:Nat):Int) 5 fun a=>ixA a 2 ((d % 2:Nat):Int) 1 fun a'=>ldI .u32 a' w K:=
 h.ix hd fun a hc=>⟨by omega,by omega,(fr d:Nat),by rw [Int.toNat_natCast,Nat.mul_one,hc _ (by omega),Qlw hd (by omega)];exact Zli,k⟩
theorem cvNx (h:CV w b m 5 (recs (mcl fr nx W) m)) (hd:d/2<m) {K:Int→Prop} (k:K (nx d:Nat)):ixS b m ((d/2:Nat):Int) 5 fun a=>ixA (a.add 2) 2 ((d % 2:Nat):Int) 1 fun a'=>ldI .u32 a' w K:=
 h.ix hd fun a hc=>⟨by omega,by omega,(nx d:Nat),by rw [Int.toNat_natCast,Nat.mul_one,Addr.add_add,hc _ (by omega),Qlw hd (by omega)];exact Zlh,k⟩
theorem Zla (p:Int × Int):(!oddP p)=((p.2==0&&p.1 != 4294967295) || (p.2==1&&p.1 != 0) || (p.2==2&&p.1==4294967295)):=by
 unfold oddP
 by_cases h0:p.2=0
 ·simp [h0,bne]
 ·by_cases h1:p.2=1
  ·simp [h1,bne]
  ·by_cases h2:p.2=2
   ·simp [h2,bne]
   ·simp [h0,h1,h2]
theorem Q7r {n:Int} (va:CV w b X.length 2 (X.flatMap pz)) (hl:X.length≤1000000000):Calls Pg 114 #[.int .i64 n,.slice b X.length c] w fun r w'=>Chg Qaa w w'∧∃(a:Int) (sb:Option Addr) (sl sc:Nat) (e:Int),r=.returned (.tuple #[.agg #[.int .i64 a,.slice sb sl sc],.int .i64 e])∧(e=0↔okA n X):=by
 refine (Qtx _ _ _ _ _ (fun v' w'=>Chg Qaa w w'∧∃(a:Int) (sb:Option Addr) (sl sc:Nat) (e:Int),v'=.tuple #[.agg #[.int .i64 a,.slice sb sl sc],.int .i64 e]∧(e=0↔okA n X)) ?_).mono (by rintro e w' ⟨v,rfl,k,a,b,c,d,e,rfl,k1⟩;exact ⟨k,a,b,c,d,e,rfl,k1⟩)
 unfold Qnd nr
 refine Qak fun A w3 hA c3 r3=>?_
 simp only [Qad]
 have bad:∀{u:World},Chg Qaa w3 u→¬okA n X→sto ⟨A,0,none⟩ (.int .i64 0) u fun w5=>sto ⟨A,0+1,none⟩ (.slice none 0 0) w5 fun w6=>ldI .i64 ⟨A,0,none⟩ w6 fun n7=>ldS ⟨A,0+1,none⟩ w6 fun s8b s8l s8c=>
   (fun v' w'=>Chg Qaa w w'∧∃(a:Int) (sb:Option Addr) (sl sc:Nat) (e:Int),v'=Value.tuple #[.agg #[.int .i64 a,.slice sb sl sc],.int .i64 e]∧(e=0↔okA n X)) (.tuple #[.agg #[.int .i64 n7,.slice s8b s8l s8c],.int .i64 1]) w6:=by
  intro u k hno
  refine Qao (k.row (fun h=>h) r3) (by simp) rfl fun w5 c5 r5=>Qao r5 (by simp) rfl fun w6 c6 r6=>Qaf (n:=0) r6 rfl (Qai r6 rfl ⟨(c3.trans k).trans' (c5.trans c6) fun i e=>.inr (by omega),_,_,_,_,_,rfl,⟨fun h=>by omega,fun h=>absurd h hno⟩⟩)
 refine ⟨fun us w'=>us=[]∧w'=w3∧(1≤n∧n≤1048576)∧(X.length:Int)≤n,Qac (fun k=>?_) (fun k=>Qac (fun k1=>?_) (fun k1=>Qac (fun k2=>?_) (fun k2=>?_))),?_⟩
 ·simp only [b1s] at k
  exact bad (Chg.refl _ _) fun h=>by have:=h.1;omega
 ·simp only [b1s] at k1
  exact bad (Chg.refl _ _) fun h=>by have:=h.1;omega
 ·simp only [b1s] at k2
  exact bad (Chg.refl _ _) fun h=>by have:=h.2.1;omega
 ·simp only [b1s] at k
  simp only [b1s] at k1
  simp only [b1s] at k2
  exact ⟨rfl,rfl,⟨by omega,by omega⟩,by omega⟩
 rintro _ w17 ⟨_,e17,hn,hln⟩
 rw [e17]
 let J:Nat→List Value→World→Prop:=fun j us w'=>∃i:Nat,us=[.int .i64 i]∧i≤X.length∧(∀p,p∈X.take i→oddP p=false)∧(∀q,i=X.length→X[X.length-1]?=some q→q.1≠0)∧Chg Qaa w3 w'∧j=X.length-i
 refine ⟨LI J,LM J,⟨_,0,rfl,Nat.zero_le _,by simp,fun q h hq=>by have:=(List.getElem?_eq_some_iff.1 hq).1;omega,Chg.refl _ _,rfl⟩,?_⟩
 intro _ i w21 hJ
 obtain ⟨i,hus,hi,ho,hla,ck,hj⟩:=hJ.at
 simp only [vj] at hus
 subst hus
 refine Qac (fun hlt=>?_) (fun hlt=>?_)<;>simp only [b1s] at hlt
 ·obtain ⟨p,hp⟩:∃p,X[i]?=some p:=⟨_,List.getElem?_eq_getElem (by omega)⟩
  rw [wrap64_in (x:=(X.length:Int)-1) (by omega) (by omega),wrap64_in (x:=(i:Int)+1) (by omega) (by omega),show ((i:Int)+1)=((i+1:Nat):Int) by omega]
  refine cvz (va.nob (c3.trans ck)) hp (Qak fun B w26 hB c26 r26=>?_)
  simp only [Qad]
  refine Qao r26 (by simp) rfl fun w27 c27 r27=>Qao r27 (by simp) rfl fun w28 c28 r28=>?_
  have ck28:Chg Qaa w3 w28:=(ck.trans c26).trans' (c27.trans c28) fun i e=>.inr (by have:=ck.size;omega)
  have ho':(!oddP p)=((p.2==0&&p.1 != 4294967295) || (p.2==1&&p.1 != 0) || (p.2==2&&p.1==4294967295)):=Zla p
  refine ⟨fun us w'=>us=[.bool (!oddP p)]∧w'=w28,?_,?_⟩
  ·have a1:∀{K:Int→Prop},K p.2→ldI .i64 ⟨B,0+1,none⟩ w28 K:=fun {K} k=>Qaf (n:=p.2) r28 rfl k
   have a0:∀{K:Int→Prop},K p.1→ldI .u32 ⟨B,0,none⟩ w28 K:=fun {K} k=>Qaf (n:=p.1) r28 rfl k
   rw [ho']
   refine a1 (Qac (fun k=>a0 (Qac (fun k1=>⟨by simp [k,k1],rfl⟩) (fun k1=>a1 (Qac (fun k2=>?_) (fun k2=>a1 (Qac (fun k3=>?_) (fun k3=>?_))))))) (fun k=>a1 (Qac (fun k1=>a0 (Qac (fun k2=>⟨by simp [k,k1,k2],rfl⟩) (fun k2=>a1 (Qac (fun k3=>?_) (fun k3=>⟨by simp [k,k1,k2,k3],rfl⟩))))) (fun k1=>a1 (Qac (fun k2=>a0 ⟨by simp [k,k1,k2],rfl⟩) (fun k2=>⟨by simp [k,k1,k2],rfl⟩))))))
   ·exfalso;have e1:=eq_of_beq k;have e2:=eq_of_beq k2;omega
   ·exfalso;have e1:=eq_of_beq k;have e2:=eq_of_beq k3;omega
   ·exact ⟨by simp [k,k1,k2,k3],rfl⟩
   ·exfalso;have e1:=eq_of_beq k1;have e2:=eq_of_beq k3;omega
  rintro _ bb w45 ⟨hbb,e45⟩
  rw [e45]
  simp only [List.cons.injEq,Value.bool.injEq,and_true] at hbb
  subst hbb
  refine Qac (fun k=>bad ck28 fun h=>?_) (fun k=>?_)
  ·have:=Qmf h.2.2.1 hp
   rw [this] at k;cases k
  have hod:oddP p=false:=by simpa using k
  have ho2:∀q,q∈X.take (i+1)→oddP q=false:=fun q hq=>by
   rw [List.take_add_one,hp,List.mem_append] at hq
   rcases hq with hq | hq
   ·exact ho q hq
   ·simp at hq;rw [hq];exact hod
  refine Qac (fun k1=>Qaf (n:=p.1) r28 rfl (Qac (fun k2=>?_) (fun k2=>?_))) (fun k1=>?_)<;>simp only [b1s] at k1
  ·simp only [b1s] at k2
   refine bad ck28 fun h=>h.2.2.2 p ?_ k2
   rw [show X.length-1=i by omega];exact hp
  ·simp only [b1s] at k2
   refine LI.again (k:=X.length-(i+1)) ⟨i+1,rfl,by omega,ho2,fun q _ hq=>?_,ck28,rfl⟩ (by rw [hj];omega)
   rw [show X.length-1=i by omega,hp] at hq
   cases hq;exact k2
  ·exact LI.again (k:=X.length-(i+1)) ⟨i+1,rfl,by omega,ho2,fun q h _=>by omega,ck28,rfl⟩ (by rw [hj];omega)
 ·have hil:i=X.length:=by omega
  rw [hil,List.take_length] at ho
  refine Qao (ck.row (fun h=>h) r3) (by simp) rfl fun w5 c5 r5=>Qao r5 (by simp) rfl fun w6 c6 r6=>Qaf (n:=n) r6 rfl (Qai r6 rfl ⟨(c3.trans ck).trans' (c5.trans c6) fun i e=>.inr (by omega),_,_,_,_,_,rfl,⟨fun _=>⟨hn,hln,?_,fun q hq=>hla q hil hq⟩,fun _=>rfl⟩⟩)
  rw [List.any_eq_false]
  exact fun x hx=>by rw [ho x hx];decide
theorem Q7s (va:CV w b X.length 2 (X.flatMap pz)) {i:Nat} (hi:i<4294967296):Calls Pg 115 #[.slice b X.length c,.int .u32 (i:Nat)] w fun r w'=>r=.returned (.bool (lv X i))∧w'=w:=by
 refine (Qto _ _ _ _).go ?_
 unfold Qm4 nr
 rw [wrap64_in (by omega) (by omega)]
 refine Qac (fun k=>?_) (fun k=>?_)<;>simp only [b1s] at k
 ·obtain ⟨p,hp⟩:∃p,X[i]?=some p:=⟨_,List.getElem?_eq_getElem (by omega)⟩
  refine cvz1 va hp ⟨?_,rfl⟩
  unfold lv
  rw [hp]
 ·refine ⟨?_,rfl⟩
  unfold lv
  rw [List.getElem?_eq_none (by omega)]
theorem Q0o (h:MV0 w M) (hd:d/2<M.m) (hx:d<4294967296):Calls Pg 45 #[M.val,.int .i64 (d:Nat)] w fun r w'=>r=.returned (.int .i64 (M.fr d:Nat))∧Chg Qaa w w':=by
 refine (Qtm _ _ _ _ _ _ _ _ _ _ _).go ?_
 unfold Qm2 nr
 refine Qak fun A w6 hA c6 r6=>?_
 have:=(h.d d (by omega)).1
 rw [Qad,td2,tm2,wrap64_in (by omega) (by omega)]
 refine Qai r6 rfl ⟨by decide,by decide,cvFr (h.nob c6).l hd ⟨?_,c6⟩⟩
 rw [wrap64_in (by omega) (by omega)]
theorem Zd6 (h:MV0 w M) (hd:d/2<M.m) (hx:d<4294967296):Calls Pg 46 #[M.val,.int .i64 (d:Nat)] w fun r w'=>r=.returned (.int .i64 (M.nx d:Nat))∧Chg Qaa w w':=by
 refine (Qtl _ _ _ _ _ _ _ _ _ _ _).go ?_
 unfold Qm1 nr
 refine Qak fun A w6 hA c6 r6=>?_
 have:=(h.d d (by omega)).2
 rw [Qad,td2,tm2,wrap64_in (by omega) (by omega)]
 refine Qai r6 rfl ⟨by decide,by decide,cvNx (h.nob c6).l hd ⟨?_,c6⟩⟩
 rw [wrap64_in (by omega) (by omega)]
def dts (Y:List (Int × Int)) (k:Nat):List Nat:=(List.range k).flatMap fun e=>if lv Y e then [2*e,2*e+1] else []
theorem Q6j {Y:List (Int × Int)} {k:Nat}:d∈dts Y k↔d/2<k∧lv Y (d/2)=true:=by
 unfold dts
 rw [List.mem_flatMap]
 constructor
 ·rintro ⟨e,h1,h2⟩
  rw [List.mem_range] at h1
  split at h2
  ·rename_i hl
   simp only [List.mem_cons,List.not_mem_nil,or_false] at h2
   have:d/2=e:=by omega
   rw [this];exact ⟨h1,hl⟩
  ·cases h2
 ·rintro ⟨h1,h2⟩
  refine ⟨d/2,List.mem_range.2 h1,?_⟩
  rw [if_pos h2]
  simp;omega
theorem Q4m {Y:List (Int × Int)} {k:Nat}:dts Y (k+1)=dts Y k++if lv Y k then [2*k,2*k+1] else []:=by
 unfold dts;rw [List.range_succ,List.flatMap_append];simp
theorem Q8o {Y:List (Int × Int)}:∀{k:Nat},(dts Y k).Nodup
 | 0=>List.nodup_nil
 | k+1=>by
  rw [Q4m,List.nodup_append]
  refine ⟨Q8o,by split<;>simp,fun a ha b hb e=>?_⟩
  have h1:=(Q6j.1 ha).1
  split at hb
  ·simp only [List.mem_cons,List.not_mem_nil,or_false] at hb;omega
  ·cases hb
theorem Q6r {Y:List (Int × Int)} {k:Nat}:(dts Y k).length≤2*k:=Qbh Q8o fun d hd=>by have:=(Q6j.1 hd).1;omega
theorem Q49 (h:MV0 w M) (hl:M.Y.length≤1000000):Calls Pg 44 #[M.val] w fun r w'=>∃V,r=.returned V∧Chg Qaa w w'∧LA w' (fun k=>k<w.heap.size) V (dts M.Y M.Y.length):=by
 refine (Qr1 _ _ _ _ _ _ _ _ _ _ _ (fun v' w'=>Chg Qaa w w'∧LA w' (fun k=>k<w.heap.size) v' (dts M.Y M.Y.length)) ?_).mono (by rintro e w' ⟨v,rfl,k⟩;exact ⟨v,rfl,k⟩)
 unfold Qlm nr
 refine Qak fun A w5 hA c5 r5=>?_
 rw [Qad]
 have s5:=c5.size
 let J:Nat→List Value→World→Prop:=fun j us w'=>∃(i:Nat) (b':Option Addr) (c':Nat),us=[.slice b' (dts M.Y i).length c',.int .i64 i]∧i≤M.Y.length∧Own w' w5.heap.size 3 1 b' (dts M.Y i).length c' (ivs (dts M.Y i))∧Chg Qaa w5 w'∧j=M.Y.length-i
 refine ⟨LI J,LM J,⟨_,0,none,0,rfl,Nat.zero_le _,Own.nil,Chg.refl _ _,rfl⟩,?_⟩
 intro _ sb sl sc n9 w10 hJ
 obtain ⟨i,b',c',hus,hi,ho,ck,hj⟩:=hJ.at
 simp only [vk] at hus
 obtain ⟨⟨rfl,rfl,rfl⟩,rfl⟩:=hus
 have r10:=ck.row (fun h=>h) r5
 have s10:=ck.size
 have hdl:=Q6r (Y:=M.Y) (k:=i)
 refine Qai r10 rfl (Qac (fun hlt=>?_) (fun hlt=>?_))<;>simp only [b1s] at hlt
 ·obtain ⟨p,hp⟩:∃p,M.Y[i]?=some p:=⟨_,List.getElem?_eq_getElem (by omega)⟩
  have hlv:lv M.Y i=(p.2==1):=by unfold lv;rw [hp]
  rw [wrap64_in (x:=(i:Int)+1) (by omega) (by omega),wrap64_in (x:=(2:Int)*(i:Int)) (by omega) (by omega),wrap64_in (x:=(2:Int)*(i:Int)+1) (by omega) (by omega),show ((i:Int)+1)=((i+1:Nat):Int) by omega]
  refine Qai r10 rfl (cvz1 (h.nob (c5.trans ck)).e hp (Qac (fun k=>Qak fun B w16 hB c16 r16=>?_) (fun k=>?_)))
  ·have s16:=c16.size
   obtain ⟨b2,c2,w18,hrun,ho2,hc2,_⟩:=Qb0 (sc:=2) (ty:=58) Qdv (ho.keep c16 fun _ _ h=>h) (VA.Qgm (l:=2) (sz:=1) r16 rfl) (by intro u hu;simp at hu;rcases hu with rfl | rfl<;>rfl) (by omega) (by omega) (by omega) (by omega)
   have e1:dts M.Y (i+1)=dts M.Y i++[2*i,2*i+1]:=by rw [Q4m,hlv,k];rfl
   refine ⟨b2,_,c2,w18,hrun,LI.again (k:=M.Y.length-(i+1)) ⟨i+1,b2,c2,?_,by omega,?_,(ck.trans c16).trans' hc2 (fun i hi=>.inr (ho.Qar hi).1),rfl⟩ (by rw [hj];omega)⟩
   ·rw [e1,List.length_append];rfl
   ·rw [e1,List.length_append]
    have:ivs (dts M.Y i++[2*i,2*i+1])=ivs (dts M.Y i)++[.int .i64 (2*(i:Int)),.int .i64 (2*(i:Int)+1)]:=by simp [ivs]
    rw [this];exact ho2
  ·have e1:dts M.Y (i+1)=dts M.Y i:=by rw [Q4m,hlv,k];simp
   refine LI.again (k:=M.Y.length-(i+1)) ⟨i+1,sb,sc,?_,by omega,?_,ck,rfl⟩ (by rw [hj];omega)
   ·rw [e1]
   ·rw [e1];exact ho
 ·have hil:i=M.Y.length:=by omega
  rw [hil] at ho ⊢
  exact ⟨c5.trans ck,sb,sc,rfl,VA.Qa6 ho,fun g _ hg k=>by have:=(ho.Qar hg).1;(have k:g<w.heap.size:=k);omega,ho.cap.1⟩
end
theorem Ze3:edgeT Pg .u32 .i32 (Pg.fieldsOf 109).toList=true:=by kernel_rfl
theorem Q2h {w:World} {A B:Operand} {x0 x1 x2 x3 x4 y0 y1 y2 y3 y4:Int} :
  (do eqGuard .neq 109 A B (.agg #[.int .u32 x0,.int .u32 x1,.int .u32 x2,.int .u32 x3,.int .i32 x4]) (.agg #[.int .u32 y0,.int .u32 y1,.int .u32 y2,.int .u32 y3,.int .i32 y4]);binOp .neq 109 (.agg #[.int .u32 x0,.int .u32 x1,.int .u32 x2,.int .u32 x3,.int .i32 x4]) (.agg #[.int .u32 y0,.int .u32 y1,.int .u32 y2,.int .u32 y3,.int .i32 y4]):Sem Value).run Pg w =
   .ok (.bool (!((x0==y0&&x1==y1)&&((x2==y2&&x3==y3)&&x4==y4)))) w:=Q7k (by kernel_rfl) (by kernel_rfl) (by kernel_rfl) Ze3
def snc (sf:Nat→Bool) (x:Nat):List Value:=[.int .i64 (if sf x then 1 else 0)]
theorem Q3p {sf:Nat→Bool} (x:Nat):(snc sf x).length=1:=rfl
section
variable {w w':World} {M:Mdl}
theorem Zhe (hm:M.m=M.Y.length) {d:Nat}:d∈dts M.Y M.Y.length↔M.LD d:=by
 rw [Q6j]
 exact ⟨fun h=>h.2,fun h=>⟨Qit h,h⟩⟩
set_option maxRecDepth 4000 in
theorem Zd7 (h:MV0 w M) (hB:M.X.length≤1000000∧M.Y.length≤1000000∧M.m≤1000000):Calls Pg 43 #[M.val] w fun r w'=>∃y,r=.returned (.bool y)∧Chg Qaa w w'∧(y=true↔M.ok∧NxI M.LD M.nx):=by
 refine (Qtn _ _ _ _ _ _ _ _ _ _ _ (fun v' w'=>∃y,v'=.bool y∧Chg Qaa w w'∧(y=true↔M.ok∧NxI M.LD M.nx)) ?_).mono (by rintro e w' ⟨v,rfl,y,rfl,k⟩;exact ⟨y,rfl,k⟩)
 unfold Qm3 nr
 obtain ⟨bX,bY,bm⟩:=hB
 have bad:∀{u:World},Chg Qaa w u→¬(M.ok∧NxI M.LD M.nx)→(fun v' w'=>∃y,v'=Value.bool y∧Chg Qaa w w'∧(y=true↔M.ok∧NxI M.LD M.nx)) (.bool false) u:=fun {u} k hno=>⟨false,rfl,k,fun e=>(by cases e),fun e=>absurd e hno⟩
 refine Qak fun A w5 hA c5 r5=>?_
 simp only [Qad]
 have s5:=c5.size
 have lA:=r5.lt
 refine Qaf (n:=M.N) r5 rfl (Qai r5 rfl ((Q7r (h.nob c5).v (by omega)).mono ?_))
 rintro r w11 ⟨c11,a1,sb1,sl1,sc1,e1,rfl,he1⟩
 have s11:=c11.size
 refine ⟨_,_,_,_,_,rfl,Qak fun A13 w14 hA13 c14 r14=>Qao r14 (by simp) rfl fun w15 c15 r15=>Qao r15 (by simp) rfl fun w16 c16 r16=>?_⟩
 have s14:=c14.size
 have s15:=c15.size
 have s16:=c16.size
 have c016:Chg Qaa w w16:=((c5.trans c11).trans c14).trans' (c15.trans c16) fun k e=>.inr (by omega)
 have r16a:=(c15.trans c16).row (by omega) ((c11.trans c14).row (fun h=>h) r5)
 refine Qaf (n:=M.N) r16a rfl (Qai r16a rfl ((Q7r (h.nob c016).e (by omega)).mono ?_))
 rintro r w22 ⟨c22,a2,sb2,sl2,sc2,e2,rfl,he2⟩
 have s22:=c22.size
 refine ⟨_,_,_,_,_,rfl,Qak fun A24 w25 hA24 c25 r25=>Qao r25 (by simp) rfl fun w26 c26 r26=>Qao r26 (by simp) rfl fun w27 c27 r27=>?_⟩
 have s25:=c25.size
 have s26:=c26.size
 have s27:=c27.size
 have c027:Chg Qaa w w27:=((c016.trans c22).trans c25).trans' (c26.trans c27) fun k e=>.inr (by omega)
 have r27a:=(c26.trans c27).row (by omega) ((c22.trans c25).row (fun h=>h) r16a)
 refine ⟨fun us w'=>us=[]∧w'=w27∧okA M.N M.X∧okA M.N M.Y∧M.m=M.Y.length,Qac (fun k=>?_) (fun k=>Qac (fun k1=>?_) (fun k1=>Qai r27a rfl (Qai r27a rfl (Qac (fun k2=>?_) (fun k2=>?_))))),?_⟩
 ·simp only [b1s] at k
  exact bad c027 fun ⟨ok,_⟩=>k (he1.2 ok.1)
 ·simp only [b1s] at k1
  exact bad c027 fun ⟨ok,_⟩=>k1 (he2.2 ok.2.1)
 ·simp only [b1s] at k2
  exact bad c027 fun ⟨ok,_⟩=>k2 (by rw [ok.2.2.1])
 ·simp only [b1s] at k
  simp only [b1s] at k1
  simp only [b1s] at k2
  exact ⟨rfl,rfl,he1.1 k,he2.1 k1,by omega⟩
 rintro _ w31 ⟨_,e31,o1,o2,o3⟩
 rw [e31]
 let J:Nat→List Value→World→Prop:=fun jj us w'=>∃e:Nat,us=[.int .i64 e]∧e≤M.m∧(∀x,x<e→lv M.Y x=false→M.fr (2*x)=0∧M.fr (2*x+1)=0∧M.nx (2*x)=0∧M.nx (2*x+1)=0∧M.W x=0)∧Chg Qaa w27 w'∧jj=M.m-e
 refine ⟨LI J,LM J,⟨_,0,rfl,Nat.zero_le _,fun x hx=>absurd hx (Nat.not_lt_zero _),Chg.refl _ _,rfl⟩,?_⟩
 intro _ e w35 hJ
 obtain ⟨e,hus,he,hz,ck,hj⟩:=hJ.at
 simp only [vj] at hus
 subst hus
 have r35:=ck.row (fun h=>h) r27a
 have c035:=c027.trans ck
 have h35:=h.nob c035
 refine Qai r35 rfl (Qac (fun hlt=>?_) (fun hlt=>?_))<;>simp only [b1s] at hlt
 ·have hem:e<M.m:=by omega
  obtain ⟨p,hp⟩:∃p,M.Y[e]?=some p:=⟨_,List.getElem?_eq_getElem (by omega)⟩
  have hlv:lv M.Y e=(p.2==1):=by unfold lv;rw [hp]
  rw [wrap64_in (x:=(e:Int)+1) (by omega) (by omega),show ((e:Int)+1)=((e+1:Nat):Int) by omega]
  have next:(lv M.Y e=false→M.fr (2*e)=0∧M.fr (2*e+1)=0∧M.nx (2*e)=0∧M.nx (2*e+1)=0∧M.W e=0)→(LI J) [.int .i64 ((e+1:Nat):Int)] w35∧(LM J) [.int .i64 ((e+1:Nat):Int)] w35<(LM J) [.int .i64 (e:Nat)] w35:=fun hn=>by
   refine LI.again (k:=M.m-(e+1)) ⟨e+1,rfl,by omega,fun x hx hl=>?_,ck,rfl⟩ (by rw [hj];omega)
   by_cases ex:x=e
   ·subst ex;exact hn hl
   ·exact hz x (by omega) hl
  refine Qai r35 rfl (cvz1 h35.e hp (Qac (fun k=>Qai r35 rfl (ldE17 h35.l hem ⟨_,_,Q2h,Qac (fun k2=>?_) (fun k2=>?_)⟩)) (fun k=>?_)))
  ·have hl:lv M.Y e=false:=by rw [hlv];simpa [bne] using k
   refine bad c035 fun ⟨ok,_⟩=>?_
   obtain ⟨z0,z1,z2,z3,z4⟩:=ok.2.2.2.1 e hem hl
   rw [z0,z1,z2,z3,z4] at k2
   simp at k2
  ·refine next fun _=>?_
   simp at k2
   omega
  ·have hl:lv M.Y e=true:=by rw [hlv];simpa [bne] using k
   exact next fun h=>by rw [hl] at h;cases h
 have hem:e=M.m:=by omega
 refine ldM17 r35 ((Q49 h35 (by omega)).mono ?_)
 rintro r w54 ⟨_,rfl,c54,db,dc,rfl,dv,do_,dcap⟩
 have r54:=c54.row (fun h=>h) r35
 have s54:=c54.size
 have hdl:=Q6r (Y:=M.Y) (k:=M.Y.length)
 have hLD:∀{d},d∈dts M.Y M.Y.length↔M.LD d:=fun {d}=>Zhe o3
 have hnd:=Q8o (Y:=M.Y) (k:=M.Y.length)
 generalize dts M.Y M.Y.length=DL at *
 refine ⟨_,_,_,rfl,Qai r54 rfl ?_⟩
 rw [wrap64_in (x:=(2:Int)*(M.m:Nat)) (by omega) (by omega),show (2:Int)*(M.m:Nat)=((2*M.m:Nat):Int) by omega,show Int.toNat ((2*M.m:Nat):Int)=2*M.m from rfl]
 refine ⟨by omega,Int.le_refl _,by omega,Qak fun S w58 hS c58 r58=>?_⟩
 have s58:=c58.size
 have lS:=r58.lt
 have r58':Row w58.heap S 3 (recs (snc fun _=>false) (2*M.m)):=by rw [Qas] at r58;exact r58
 have c058:Chg Qaa w w58:=(c035.trans c54).trans c58
 have cw:∀{w'},Chg (fun k=>k=S) w58 w'→Chg Qaa w w':=fun {w'} k=>c058.trans' k fun i e=>.inr (by have:=c035.size;omega)
 have cd:∀{w'},Chg (fun k=>k=S) w58 w'→Chg Qaa w54 w':=fun {w'} k=>c58.trans' k fun i e=>.inr (by omega)
 have km:∀{w'},Chg (fun k=>k=S) w58 w'→Row w'.heap A 25 M.cl.toList:=fun {w'} k=>(cd k).row (fun h=>h) r54
 let J2:Nat→List Value→World→Prop:=fun jj us w'=>∃(i:Nat) (sf:Nat→Bool),us=[.int .i64 i]∧i≤DL.length∧Row w'.heap S 3 (recs (snc sf) (2*M.m))∧(∀x,sf x=true↔∃y,y∈DL.take i∧M.nx y=x)∧(∀y,y∈DL.take i→M.dok y)∧(∀x y,x∈DL.take i→y∈DL.take i→M.nx x=M.nx y→x=y)∧Chg (fun k=>k=S) w58 w'∧jj=DL.length-i
 refine ⟨LI J2,LM J2,⟨_,0,fun _=>false,rfl,Nat.zero_le _,r58',fun x=>⟨fun h=>(by cases h),fun ⟨y,hy,_⟩=>by simp at hy⟩,by simp,by simp,Chg.refl _ _,rfl⟩,?_⟩
 intro _ i w62 hJ2
 obtain ⟨i,sf,hus,hi,rs,hsf,hdk,hin,ck2,hj2⟩:=hJ2.at
 simp only [vj] at hus
 subst hus
 refine Qac (fun hlt=>?_) (fun hlt=>?_)<;>simp only [b1s] at hlt
 ·have hiD:i<DL.length:=by omega
  obtain ⟨d,hd⟩:∃d,DL[i]?=some d:=⟨_,List.getElem?_eq_getElem hiD⟩
  have hdm:=List.mem_of_getElem? hd
  have hL:M.LD d:=hLD.1 hdm
  have hdY:d/2<M.Y.length:=Qit hL
  have hd2:d/2<M.m:=by omega
  obtain ⟨bf,bn⟩:=h.d d (by omega)
  have et:DL.take (i+1)=DL.take i++[d]:=by rw [List.take_add_one,hd];rfl
  have nodok:¬M.dok d→¬(M.ok∧NxI M.LD M.nx):=fun hn ⟨ok,_⟩=>hn (ok.2.2.2.2 d hL)
  have ckd:=ck2.drew
  have mkd:Row w62.drew.heap A 25 M.cl.toList:=km ckd
  have hdd:=h.nob (cw ckd)
  have dvd:=dv.nob (cd ckd)
  rw [wrap64_in (x:=(i:Int)+1) (by omega) (by omega),show ((i:Int)+1)=((i+1:Nat):Int) by omega]
  refine Qai mkd rfl (rdI (w:=w62.drew) dvd hd ⟨by decide,rdI (w:=w62.drew) dvd hd ⟨by decide,?_⟩⟩)
  rw [td2,tm2,wrap64_in (by omega) (by omega)]
  refine cvNx (w:=w62.drew) hdd.l hd2 ⟨fun us w'=>us=[]∧Chg Qaa w62 w'∧M.dok d,?_,?_⟩
  ·have ckd2:=ckd.drew
   have c62d:Chg Qaa w62 w62.drew.drew:=(Chg.refl Qaa w62).drew.drew
   have mk2:Row w62.drew.drew.heap A 25 M.cl.toList:=km ckd2
   have hd2':=h.nob (cw ckd2)
   have dv2:=dv.nob (cd ckd2)
   generalize w62.drew.drew=w63 at *
   refine Qai mk2 rfl (ldM17 mk2 (rdI dv2 hd ((Q0o hd2' hd2 (by omega)).mono ?_)))
   rintro r w80 ⟨rfl,c80⟩
   have mk80:=c80.row (fun h=>h) mk2
   have h80:=hd2'.nob c80
   have k80:=ckd2.trans c80.weak
   refine ⟨_,rfl,by rw [mk80.cell];rfl,?_⟩
   rw [Qgx (x:=((M.fr d:Nat):Int)) (by omega) (by omega)]
   refine (Q7s h80.v bf).mono ?_
   rintro r w83 ⟨rfl,e83⟩
   rw [e83]
   refine ⟨_,rfl,Qac (fun k=>bad (cw k80) (nodok fun hk=>?_)) (fun k=>Qai mk80 rfl ⟨by decide,?_⟩)⟩
   ·rw [hk.1] at k;cases k
   have k1:lv M.X (M.fr d)=true:=by simpa using k
   rw [td2,Qgx (by omega) (by omega)]
   refine (Q7s h80.e (by omega)).mono ?_
   rintro r w87 ⟨rfl,e87⟩
   rw [e87]
   refine ⟨_,rfl,Qac (fun k=>bad (cw k80) (nodok fun hk=>?_)) (fun k=>ldM17 mk80 (ldM17 mk80 ?_))⟩
   ·have:=hk.2.1
    unfold Mdl.LD at this
    rw [this] at k;cases k
   have k2:lv M.Y (M.nx d/2)=true:=by simpa using k
   have hx2:M.nx d/2<M.m:=by have:=Qit k2;omega
   rw [wrap64_in (by omega) (by omega)]
   refine rdIc (dv2.nob c80) hd fun a97 ha97=>?_
   refine (Q0o h80 hx2 (by omega)).mono ?_
   rintro r w100 ⟨rfl,c100⟩
   have mk100:=c100.row (fun h=>h) mk80
   refine ⟨_,rfl,ha97 c100,Qxq mk100 ?_⟩
   refine (Q0o (h80.nob c100) hd2 (by omega)).mono ?_
   rintro r w103 ⟨rfl,c103⟩
   have k103:=k80.trans (c100.trans c103).weak
   refine ⟨_,rfl,Qac (fun k=>bad (cw k103) (nodok fun hk=>?_)) (fun k=>⟨rfl,c62d.trans (c80.trans (c100.trans c103)),k1,k2,?_⟩)⟩<;>simp only [b1s] at k
   ·exact k (by rw [hk.2.2])
   ·omega
  rintro _ w105 ⟨_,c105,hdok⟩
  have hx2:M.nx d<2*M.m:=by have:=Qit hdok.2.1;omega
  have ck105:=ck2.trans c105.weak
  have rs105:=c105.row (fun h=>h) rs
  refine Qat hx2 (Qaf (n:=if sf (M.nx d) then 1 else 0) rs105 (by rw [show 0+M.nx d*1=M.nx d*1+0 by omega,Qdb (sz:=1) (snc sf) Q3p hx2 (by omega)];rfl) (Qat hx2 ?_))
  refine Qao rs105 (by rw [Qah (sz:=1) (snc sf) Q3p];omega) rfl fun w109 c109 r109=>?_
  have ck109:=ck105.trans c109
  have l109:0+M.nx d*1<(recs (snc sf) (2*M.m)).length:=by rw [Qah (sz:=1) (snc sf) Q3p];omega
  refine Qat hx2 (Qaf (n:=IntKind.wrap .i64 ((if sf (M.nx d) then 1 else 0)+1)) r109 (by rw [List.getElem?_set_self (by simpa using l109)]) (Qac (fun k=>?_) (fun k=>?_)))<;>simp only [b1s] at k
  ·have hsx:sf (M.nx d)=true:=by
    cases hh:sf (M.nx d) with
    | true=>rfl
    | false=>rw [hh] at k;simp [IntKind.wrap,IntKind.bits,IntKind.signed] at k
   obtain ⟨y,hy,hyx⟩:=(hsf _).1 hsx
   refine bad (cw ck109) fun ⟨ok,inj⟩=>?_
   have hyL:=hLD.1 (List.mem_of_mem_take hy)
   have:y=d:=inj y d hyL hL hyx
   subst this
   obtain ⟨q,hq⟩:=List.getElem?_of_mem hy
   have hql:=(List.getElem?_eq_some_iff.1 hq).1
   rw [List.length_take] at hql
   rw [List.getElem?_take,if_pos (by omega)] at hq
   have:=(List.getElem?_inj (by omega) hnd).1 (hq.trans hd.symm)
   omega
  ·have hsx:sf (M.nx d)=false:=by
    cases hh:sf (M.nx d) with
    | false=>rfl
    | true=>rw [hh] at k;simp [IntKind.wrap,IntKind.bits,IntKind.signed] at k
   have r109':Row w109.heap S 3 (recs (snc (upd sf (M.nx d) true)) (2*M.m)):=by
    rw [show 0+M.nx d*1=M.nx d*1+0 by omega,Qca (sz:=1) (snc sf) Q3p (g:=snc (upd sf (M.nx d) true)) hx2 (by omega) (fun j hj=>by unfold snc;rw [Qag _ _ hj]) (by unfold snc;rw [Qab,hsx];rfl)] at r109
    exact r109
   have new:∀y,y∈DL.take i→M.nx y≠M.nx d:=fun y hy e=>by
    rw [(hsf _).2 ⟨y,hy,e⟩] at hsx;cases hsx
   refine LI.again (k:=DL.length-(i+1)) ⟨i+1,_,rfl,by omega,r109',fun x=>?_,fun y hy=>?_,fun x y hx hy e=>?_,ck109,rfl⟩ (by rw [hj2];omega)
   ·rw [et]
    by_cases ex:x=M.nx d
    ·subst ex
     rw [Qab]
     exact ⟨fun _=>⟨d,by simp,rfl⟩,fun _=>rfl⟩
    ·rw [Qag _ _ ex,hsf]
     constructor
     ·rintro ⟨y,h1,h2⟩;exact ⟨y,List.mem_append_left _ h1,h2⟩
     ·rintro ⟨y,h1,h2⟩
      rcases List.mem_append.1 h1 with h1 | h1
      ·exact ⟨y,h1,h2⟩
      ·rw [List.mem_singleton] at h1;subst h1;exact absurd h2.symm ex
   ·rw [et,List.mem_append,List.mem_singleton] at hy
    rcases hy with hy | rfl
    ·exact hdk y hy
    ·exact hdok
   ·rw [et,List.mem_append,List.mem_singleton] at hx hy
    rcases hx with hx | rfl<;>rcases hy with hy | rfl
    ·exact hin x y hx hy e
    ·exact absurd e (new x hx)
    ·exact absurd e.symm (new y hy)
    ·rfl
 ·rw [List.take_of_length_le (by omega)] at hdk hin
  refine ⟨true,rfl,cw ck2,fun _=>⟨⟨o1,o2,o3,fun e' he' hl=>hz e' (by omega) hl,fun d hd=>hdk d (hLD.2 hd)⟩,fun x y hx hy e=>hin x y (hLD.2 hx) (hLD.2 hy) e⟩,fun _=>rfl⟩
theorem Zbd {X:List (Int × Int)} {k:Nat} {p:Int × Int} (hp:X[k]?=some p):livk (toP X) (k+1)=livk (toP X) k++(if p.2=1 then [k] else []):=by
 have hlv:lv X k=(p.2==1):=by unfold lv;rw [hp]
 rw [Q1k,Q1k,List.range_succ,List.filter_append]
 congr 1
 rw [List.filter_cons,hlv,List.filter_nil]
 by_cases e:p.2=1<;>simp [e]
theorem Q93 {out:Nat→List Nat} {v:Nat} (h:out v=[]):upd out v []=out:=by
 funext u
 by_cases e:u=v
 ·subst e;rw [Qab,h]
 ·rw [Qag _ _ e]
def hdI (l:List Nat):Int:=match l.head? with | some d=>(d:Int) | none=>-1
theorem Zeu (l:List Nat) (d:Nat):hdI (l++[d])=if hdI l<0 then (d:Int) else hdI l:=by
 cases l with
 | nil=>rfl
 | cons a l=>
  show (a:Int)=if (a:Int)<0 then (d:Int) else (a:Int)
  rw [if_neg (by omega)]
set_option maxRecDepth 4000 in
theorem Q1d (h:MV0 w M) (hB:M.X.length≤1000000∧M.Y.length≤1000000∧M.m≤1000000):Calls Pg 11 #[M.val] w fun r w'=>Chg Qaa w w'∧∃(sb:Option Addr) (sl sc:Nat) (y:Bool),r=.returned (.tuple #[.slice sb sl sc,.bool y])∧(y=true↔M.good):=by
 refine (Qr0 _ _ _ _ _ _ _ _ _ _ _ (fun v' w'=>Chg Qaa w w'∧∃(sb:Option Addr) (sl sc:Nat) (y:Bool),v'=.tuple #[.slice sb sl sc,.bool y]∧(y=true↔M.good)) ?_).mono (by rintro e w' ⟨v,rfl,k,a,b,c,y,rfl,k1⟩;exact ⟨k,a,b,c,y,rfl,k1⟩)
 unfold Qll nr
 have bad:∀{u:World},Chg Qaa w u→¬M.good→(fun v' w'=>Chg Qaa w w'∧∃(sb:Option Addr) (sl sc:Nat) (y:Bool),v'=Value.tuple #[.slice sb sl sc,.bool y]∧(y=true↔M.good)) (.tuple #[.slice none 0 0,.bool false]) u:=fun {u} k hno=>⟨k,_,_,_,false,rfl,fun e=>(by cases e),fun e=>absurd e hno⟩
 refine Qak fun A w5 hA c5 r5=>ldM17 r5 ((Zd7 (h.nob c5) hB).mono ?_)
 obtain ⟨bX,bY,bm⟩:=hB
 simp only [Qad]
 have s5:=c5.size
 have lA:=r5.lt
 rintro r w11 ⟨y,rfl,c11,hy⟩
 have c011:=c5.trans c11
 have r11:=c11.row (fun h=>h) r5
 have s11:=c11.size
 refine ⟨_,rfl,Qac (fun k=>bad c011 fun ⟨ok,tl,hr,_⟩=>?_) (fun k=>?_)⟩
 ·rw [hy.2 ⟨ok,hr.inj fun d hd=>(ok.2.2.2.2 d hd).2⟩] at k;cases k
 obtain ⟨ok,inj⟩:=hy.1 (by simpa using k)
 obtain ⟨lX,lm⟩:=Mdl.Q9e ok
 have ok':=ok
 obtain ⟨⟨a1,a2,_⟩,⟨b1,b2,_⟩,eY,_,hdk⟩:=ok'
 refine Qai r11 rfl ⟨by omega,Int.le_refl _,by omega,Qak fun B w15 hB' c15 r15=>ldM17 (c15.row (fun h=>h) r11) ((Q49 (h.nob (c011.trans c15)) (by omega)).mono ?_)⟩
 rw [Int.toNat_natCast] at r15 ⊢
 have r15':Row w15.heap B 58 (recs (fun _=>[.slice none 0 0]) M.X.length):=by rw [Qas] at r15;exact r15
 have s15:=c15.size
 have lB:=r15.lt
 rintro r w21 ⟨_,rfl,c21,db,dc,rfl,dv,do_,dcap⟩
 have s21:=c21.size
 have c021:=(c011.trans c15).trans c21
 have r21:Row w21.heap A 25 M.cl.toList:=(c15.trans c21).row (fun h=>h) r11
 have hdl:=Q6r (Y:=M.Y) (k:=M.Y.length)
 have hLD:∀{d},d∈dts M.Y M.Y.length↔M.LD d:=fun {d}=>Zhe eY
 have hnd:=Q8o (Y:=M.Y) (k:=M.Y.length)
 generalize dts M.Y M.Y.length=DL at *
 have cw:∀{w'},Chg (fun k=>k=B∨w21.heap.size≤k) w21 w'→Chg Qaa w w':=fun {w'} k=>c021.trans' k fun i e=>.inr (by omega)
 have km:∀{w'},Chg (fun k=>k=B∨w21.heap.size≤k) w21 w'→Row w'.heap A 25 M.cl.toList:=fun {w'} k=>k.row (fun e=>by omega) r21
 have oa0:OA w21 w21.heap.size B M.X.length (fun _=>[]) none:=⟨⟨fun _=>none,fun _=>0,c21.row (fun h=>h) r15',fun i _=>Own.nil,fun i j g _ _ hg=>by (cases hg),fun i g _ hg=>by (cases hg)⟩,by omega,Nat.le_refl _,fun g hg=>by (cases hg)⟩
 have hdv:Okb (fun k=>k<w21.heap.size→False) DL.length db:=fun g hg e k=>by
  obtain ⟨g',e',hl⟩:=dv.blk hg
  rw [e'] at e;cases e;exact k hl
 have kdv:∀{w'},Chg (fun k=>k=B∨w21.heap.size≤k) w21 w'→VA w' db DL.length 1 (ivs DL):=fun {w'} k=>dv.keep k fun g hg e hs=>by
  obtain ⟨g',e',hl⟩:=dv.blk hg
  rw [e'] at e;cases e
  rcases hs with hs | hs
  ·have h1:w15.heap.size≤g:=Nat.le_of_not_lt fun hh=>do_ g hg e' hh
   omega
  ·omega
 let J:Nat→List Value→World→Prop:=fun jj us w'=>∃(v:Nat) (vb:Option Addr) (vc:Nat) (out:Nat→List Nat),us=[.slice vb (livk (toP M.X) v).length vc,.int .i64 v]∧v≤M.X.length∧OA w' w21.heap.size B M.X.length out vb∧Own w' w21.heap.size 3 1 vb (livk (toP M.X) v).length vc (ivs (livk (toP M.X) v))∧OC M.LD M.fr M.nx out∧(∀x,M.LD x→M.fr x<v→x∈out (M.fr x))∧(∀u,v≤u→out u=[])∧Chg (fun k=>k=B∨w21.heap.size≤k) w21 w'∧jj=M.X.length-v
 refine ⟨_,_,_,rfl,LI J,LM J,⟨_,0,none,0,fun _=>[],rfl,Nat.zero_le _,oa0,Own.nil,fun v hv=>absurd rfl hv,fun x _ hx=>absurd hx (Nat.not_lt_zero _),fun _ _=>rfl,Chg.refl _ _,rfl⟩,?_⟩
 intro _ sb sl sc n26 w27 hJ
 obtain ⟨v,vb,vc,out,hus,hv,oa,ov,oc,hin,hem,ck,hj⟩:=hJ.at
 simp only [vk] at hus
 obtain ⟨⟨rfl,rfl,rfl⟩,rfl⟩:=hus
 have hle:=Q6m (P:=toP M.X) (k:=v)
 refine Qai (km ck) rfl (Qac (fun hlt=>?_) (fun hlt=>?_))<;>simp only [b1s] at hlt
 ·have hvX:v<M.X.length:=by omega
  obtain ⟨p,hp⟩:∃p,M.X[v]?=some p:=⟨_,List.getElem?_eq_getElem (by omega)⟩
  have hlk:=Zbd hp
  refine ⟨fun us w'=>∃(vb':Option Addr) (vc':Nat),us=[.slice vb' (livk (toP M.X) (v+1)).length vc']∧OA w' w21.heap.size B M.X.length out vb'∧Own w' w21.heap.size 3 1 vb' (livk (toP M.X) (v+1)).length vc' (ivs (livk (toP M.X) (v+1)))∧Chg (fun k=>k=B∨w21.heap.size≤k) w21 w',?_,?_⟩
  ·refine Qai (km ck) rfl (cvz1 (h.nob (cw ck)).v hp (Qac (fun k=>Qak fun C w34 hC c34 r34=>?_) (fun k=>?_)))<;>simp only [b1s] at k
   ·have s34:=c34.size
    have soa:=oa.sz
    obtain ⟨b2,c2,w36,hrun,ho2,hc2,hb2⟩:=Qaw (ty:=58) Qdv (ov.keep c34 fun _ _ h=>h) r34 rfl (by intro u hu;simp at hu;subst hu;rfl) (by omega) (by omega) (by omega)
    rw [if_pos k] at hlk
    have e1:(livk (toP M.X) v).length+1=(livk (toP M.X) (v+1)).length:=by rw [hlk,List.length_append];rfl
    have e2:ivs (livk (toP M.X) v)++[.int .i64 (v:Int)]=ivs (livk (toP M.X) (v+1)):=by rw [hlk];simp [ivs]
    rw [e1,e2] at ho2
    refine ⟨b2,_,c2,w36,hrun,b2,c2,by rw [e1],(oa.nob c34).vert hc2 hb2 fun g hg=>(ho2.Qar hg).2,ho2,(ck.trans c34.weak).trans (hc2.mono fun k _ e=>.inr (ov.Qar e).1)⟩
   ·rw [if_neg k,List.append_nil] at hlk
    exact ⟨sb,sc,by rw [hlk],oa,by rw [hlk];exact ov,ck⟩
  rintro _ s37b s37l s37c w38 ⟨vb',vc',hus,oa2,ov2,ck2⟩
  simp only [List.cons.injEq,Value.slice.injEq,and_true] at hus
  obtain ⟨rfl,rfl,rfl⟩:=hus
  let Sf:Nat→List Nat:=fun i=>(DL.take i).filter fun d=>M.fr d==v
  have Sfl:∀i,(Sf i).length≤DL.length:=fun i=>by
   have:=List.length_filter_le (fun d=>M.fr d==v) (DL.take i)
   have:=List.length_take_le' i DL
   show ((DL.take i).filter _).length≤_
   omega
  let J2:Nat→List Value→World→Prop:=fun jj us w'=>∃i:Nat,us=[.int .i64 (Sf i).length,.int .i64 (hdI (Sf i)),.int .i64 i]∧i≤DL.length∧Chg Qaa w38 w'∧jj=DL.length-i
  refine ⟨LI J2,LM J2,⟨_,0,rfl,Nat.zero_le _,Chg.refl _ _,rfl⟩,?_⟩
  intro _ n41 n42 n43 w44 hJ2
  obtain ⟨i,hus,hi,ci,hj2⟩:=hJ2.at
  simp only [vj] at hus
  obtain ⟨rfl,rfl,rfl⟩:=hus
  have ck44:=ck2.trans ci.weak
  have bSf:=Sfl i
  refine Qac (fun hlt2=>?_) (fun hlt2=>?_)<;>simp only [b1s] at hlt2
  ·have hiD:i<DL.length:=by omega
   obtain ⟨d,hd⟩:∃d,DL[i]?=some d:=⟨_,List.getElem?_eq_getElem hiD⟩
   have hL:M.LD d:=hLD.1 (List.mem_of_getElem? hd)
   have hd2:d/2<M.m:=by have:=Qit hL;omega
   have eS:Sf (i+1)=Sf i++if M.fr d=v then [d] else []:=by
    show (DL.take (i+1)).filter _=(DL.take i).filter _++_
    rw [List.take_add_one,hd,List.filter_append]
    congr 1
    by_cases e:M.fr d=v<;>simp [e]
   have ckd:=ck44.drew
   refine ldM17 (w:=w44.drew) (km ckd) (rdI (w:=w44.drew) (kdv ckd) hd ((Q0o (h.nob (cw ckd)) hd2 (by omega)).mono ?_))
   rintro r w52 ⟨rfl,c52⟩
   have ci52:Chg Qaa w38 w52:=ci.drew.trans c52
   have ck52:=ckd.trans c52.weak
   rw [wrap64_in (x:=(i:Int)+1) (by omega) (by omega),show ((i:Int)+1)=((i+1:Nat):Int) by omega]
   refine ⟨_,rfl,Qac (fun k=>?_) (fun k=>?_)⟩<;>simp only [b1s] at k
   ·have ev:M.fr d=v:=by omega
    rw [if_pos ev] at eS
    have el:((Sf (i+1)).length:Int)=(Sf i).length+1:=by rw [eS,List.length_append];simp
    rw [wrap64_in (x:=((Sf i).length:Int)+1) (by omega) (by omega),←el]
    have hh:hdI (Sf (i+1))=if hdI (Sf i)<0 then (d:Int) else hdI (Sf i):=by rw [eS];exact Zeu _ _
    refine Qac (fun k2=>rdI (kdv ck52) hd ?_) (fun k2=>?_)<;>simp only [b1s] at k2
    ·rw [if_pos k2] at hh
     exact LI.again (k:=DL.length-(i+1)) ⟨i+1,by rw [hh],by omega,ci52,rfl⟩ (by rw [hj2];omega)
    ·rw [if_neg k2] at hh
     exact LI.again (k:=DL.length-(i+1)) ⟨i+1,by rw [hh],by omega,ci52,rfl⟩ (by rw [hj2];omega)
   ·have ev:¬M.fr d=v:=by omega
    rw [if_neg ev,List.append_nil] at eS
    exact LI.again (k:=DL.length-(i+1)) ⟨i+1,by rw [eS],by omega,ci52,rfl⟩ (by rw [hj2];omega)
  have hiD:i=DL.length:=by omega
  have eSf:Sf i=DL.filter fun d=>M.fr d==v:=by show (DL.take i).filter _=_;rw [hiD,List.take_length]
  have hSn:(Sf i).Nodup:=by rw [eSf];exact hnd.filter _
  have hSm:∀x,x∈Sf i↔M.LD x∧M.fr x=v:=fun x=>by rw [eSf,List.mem_filter,hLD,beq_iff_eq]
  generalize hS:Sf i=S at *
  have oa44:=oa2.nob ci
  have ov44:=ov2.keep ci fun _ _ h=>h
  have hSL:S.length≤2*M.m:=Qbh hSn fun x hx=>by have:=Qit ((hSm x).1 hx).1;omega
  let J3:Nat→List Value→World→Prop:=fun jj us w'=>∃(x:Int) (c:List Nat),us=[.int .i64 x,.int .i64 c.length]∧c.length≤S.length∧((c=[]∧x=hdI S)∨∃d t,S.head?=some d∧CW M.LD M.fr M.nx v d c∧c.getLast?=some t∧x=(M.nx t:Nat))∧OA w' w21.heap.size B M.X.length (upd out v c) s37b∧Own w' w21.heap.size 3 1 s37b (livk (toP M.X) (v+1)).length s37c (ivs (livk (toP M.X) (v+1)))∧Chg (fun k=>k=B∨w21.heap.size≤k) w21 w'∧jj=S.length-c.length
  refine ⟨LI J3,LM J3,⟨_,hdI S,[],rfl,Nat.zero_le _,.inl ⟨rfl,rfl⟩,by rw [Q93 (hem v (Nat.le_refl _))];exact oa44,ov44,ck44,rfl⟩,?_⟩
  intro _ n58 n59 w60 hJ3
  obtain ⟨x,c,hus,hc,hx,oa3,ov3,ck3,hj3⟩:=hJ3.at
  simp only [vj] at hus
  obtain ⟨rfl,rfl⟩:=hus
  refine Qac (fun hlt3=>?_) (fun hlt3=>?_)<;>simp only [b1s] at hlt3
  ·have hcl:c.length<S.length:=by omega
   obtain ⟨d,hSd⟩:∃d,S.head?=some d:=by
    cases S with
    | nil=>simp at hcl
    | cons a l=>exact ⟨a,rfl⟩
   have hhd:hdI S=(d:Int):=by unfold hdI;rw [hSd]
   have hdS:=(hSm d).1 (List.mem_of_mem_head? hSd)
   obtain ⟨x',rfl,hLx,hfx⟩:∃x':Nat,n58=x'∧M.LD x'∧M.fr x'=v:=by
    rcases hx with ⟨_,rfl⟩ | ⟨d',t,h1,cw',h2,rfl⟩
    ·exact ⟨d,hhd,hdS.1,hdS.2⟩
    ·have mt:=cw'.m t (List.mem_of_getLast? h2)
     have:=hdk t mt.1
     exact ⟨M.nx t,rfl,this.2.1,this.2.2.trans mt.2⟩
   have hx2:x' / 2<M.m:=by have:=Qit hLx;omega
   refine ⟨fun us w'=>us=[]∧w'=w60∧(c=[]∨x'≠d),Qac (fun k=>Qac (fun k2=>?_) (fun k2=>⟨rfl,rfl,.inr (by simp only [b1s] at k2;omega)⟩)) (fun k=>⟨rfl,rfl,.inl (List.length_eq_zero_iff.1 (by simp only [b1s] at k;omega))⟩),?_⟩
   ·simp only [b1s] at k
    simp only [b1s] at k2
    have exd:x'=d:=by omega
    refine bad (cw ck3) fun ⟨_,tl,hr,_⟩=>?_
    rcases hx with ⟨rfl,_⟩ | ⟨d',t,h1,cw',h2,h3⟩
    ·simp at k
    have edd:d'=d:=by rw [hSd] at h1;exact (Option.some.inj h1).symm
    subst edd
    have ht:M.nx t=d':=by omega
    obtain ⟨y,hy1,hy2,hy3⟩:=cw'.less hSn hSm hcl
    refine (oc.take cw' h2 ht).twice hy1 ?_ ?_ ⟨tl,hr⟩
    ·rw [hy2,Qab];intro e;rw [e] at k;simp at k
    ·rw [hy2,Qab];exact hy3
   rintro _ w62 ⟨_,rfl,hxd⟩
   have hcl2:(upd out v c v).length≤1000000000:=by rw [Qab];omega
   rw [wrap64_in (x:=(c.length:Int)+1) (by omega) (by omega),show ((c.length:Int)+1)=((c.length+1:Nat):Int) by omega]
   refine oa3.push (x:=x') hvX hcl2 fun w70 oa70 c70=>?_
   rw [Qab,Qhh] at oa70
   have ck70:=ck3.trans (c70.mono fun k _ e=>by rcases e with e | e;exact .inl e;exact .inr e.1)
   have ov70:=ov3.keep c70 fun g hg e=>by
    rcases e with e | e
    ·have:=(ov3.Qar hg).1;omega
    ·exact e.2 hg
   refine ldM17 (km ck70) ((Zd6 (h.nob (cw ck70)) hx2 (by omega)).mono ?_)
   rintro r w76 ⟨rfl,c76⟩
   have hcw:CW M.LD M.fr M.nx v d (c++[x']):=by
    rcases hx with ⟨rfl,e⟩ | ⟨d',t,h1,cw',h2,h3⟩
    ·have:x'=d:=by omega
     subst this
     exact CW.one hLx hfx
    ·have edd:d'=d:=by rw [hSd] at h1;exact (Option.some.inj h1).symm
     subst edd
     have ext:x'=M.nx t:=by omega
     subst ext
     refine cw'.more h2 ⟨hLx,hfx⟩ fun hmem=>?_
     rcases hxd with e | e
     ·rw [e] at h2;cases h2
     ·exact e (cw'.back inj h2 hmem)
   refine ⟨_,rfl,LI.again (k:=S.length-(c++[x']).length) ⟨_,c++[x'],?_,?_,.inr ⟨d,x',hSd,hcw,by simp,rfl⟩,oa70.nob c76,ov70.keep c76 fun _ _ h=>h,ck70.trans c76.weak,rfl⟩ ?_⟩
   ·rw [List.length_append];rfl
   ·rw [List.length_append];simp;omega
   ·rw [hj3,List.length_append];simp;omega
  ·have hcl:c.length=S.length:=by omega
   rw [wrap64_in (x:=(v:Int)+1) (by omega) (by omega),show ((v:Int)+1)=((v+1:Nat):Int) by omega]
   have hall:OC M.LD M.fr M.nx (upd out v c)∧∀x,x∈S→x∈c:=by
    rcases hx with ⟨rfl,_⟩ | ⟨d,t,h1,cw',h2,_⟩
    ·have:S=[]:=List.length_eq_zero_iff.1 (by simpa using hcl.symm)
     rw [Q93 (hem v (Nat.le_refl _)),this]
     exact ⟨oc,fun x hx=>hx⟩
    ·have hf:=cw'.full hSn hSm hcl
     have mt:=cw'.m t (List.mem_of_getLast? h2)
     have hk:=hdk t mt.1
     have:M.nx t∈c:=hf _ ((hSm _).2 ⟨hk.2.1,hk.2.2.trans mt.2⟩)
     exact ⟨oc.take cw' h2 (cw'.back inj h2 this),hf⟩
   refine LI.again (k:=M.X.length-(v+1)) ⟨v+1,s37b,s37c,upd out v c,rfl,by omega,oa3,ov3,hall.1,fun x hL hx=>?_,fun u hu=>?_,ck3,rfl⟩ (by rw [hj];omega)
   ·by_cases e:M.fr x=v
    ·rw [e,Qab];exact hall.2 x ((hSm x).2 ⟨hL,e⟩)
    ·rw [Qag _ _ e];exact hin x hL (by omega)
   ·rw [Qag _ _ (by omega)];exact hem u (by omega)
 ·have hvX:v=M.X.length:=by omega
  have hr:Rot M.LD M.fr M.nx out:=(oc.ow (k:=2*M.m) fun x _ hL=>hin x hL (by have:=Qit (hdk x hL).1;omega)).rot fun d hd=>by have:=Qit hd;omega
  obtain ⟨hM,hdl',_,hb,hs⟩:=Mdl.map ok hr
  have e1:(if (1:Int)>(M.X.length:Int) then (1:Int) else (M.X.length:Int))=((max M.X.length 1:Nat):Int):=by split<;>omega
  have e2:(if (1:Int)>(M.m:Int) then (1:Int) else (M.m:Int))=((max M.m 1:Nat):Int):=by split<;>omega
  have z:Sz M.N.toNat (max M.X.length 1) (max M.m 1) out:=⟨by omega,by omega,fun u hu _=>hb u (by omega),fun d hd=>by have:=Qit ((hdl' d).1 hd);omega,by omega⟩
  refine Qai (km ck) rfl (Qai (km ck) rfl ?_)
  rw [e1,e2]
  refine (Zeb (rc:=M.X.length) (oa.tf (s:=w.heap.size) (by omega)) hM z (by omega) hb).mono ?_
  rintro r w83 ⟨b83,c83',rfl,c83,t83⟩
  have s83:=c83.size
  refine ⟨_,_,_,_,_,rfl,Qak fun C w86 hC c86 r86=>Qd3 r86 rfl (by intro v hv;simp at hv;rcases hv with rfl | rfl<;>rfl) fun w87 c87 r87=>Qac (fun k=>by cases k) (fun _=>Qdw r87 ?_)⟩
  have s86:=c86.size
  have c27:Chg Qaa w27 w87:=(c83.trans c86).trans' c87 fun k e=>.inr (by omega)
  have t87:TF w87 (fun g=>g<w27.heap.size) b83 (max M.X.length 1) out:=by
   have t86:=(t83.old (n:=w86.heap.size)).nob c86
   refine (t86.keep c87 fun i e=>.inr ?_).weak fun i e=>.inl e
   have:=r86.lt
   omega
  rw [hvX,←Zbe] at ov ⊢
  refine (Zk3 t87 hM z (fun u hu=>hb u (by omega)) ((VA.Qa6 ov).nob c27) ⟨hs.nd,fun u hu=>?_,fun u hu hne=>hs.all u (by omega) hne⟩).mono ?_
  ·have:=Qit (Q1h.1 hu);omega
  rintro r w91 ⟨c91,y,rfl,hy⟩
  have c091:=((cw ck).trans c27).trans c91
  have hg:M.good↔Flt out M.N.toNat:=⟨fun ⟨_,tl,hr',hf⟩=>(Mdl.Zb0 ok hr' hr).1 hf,fun hf=>⟨ok,out,hr,hf⟩⟩
  refine ⟨_,rfl,Qac (fun k=>bad c091 fun hgd=>?_) (fun k=>?_)⟩
  ·rw [hy.2 (hg.1 hgd)] at k;cases k
  ·have:y=true:=by simpa using k
   exact ⟨c091,_,_,_,true,rfl,fun _=>hg.2 (hy.1 this),fun _=>rfl⟩
end
theorem Q99 {f:Nat→Int} {n:Nat}:∀{N:Nat},n≤N→(∀i,n≤i→f i=0)→sm f N=sm f n
 | 0,h,_=>by rw [Nat.le_zero.1 h]
 | N+1,h,h0=>by
  by_cases e:n=N+1
  ·rw [e]
  ·rw [sm,Q99 (by omega) h0,h0 N (by omega)];omega
theorem Qxm {P:List (Nat × Nat)} {i:Nat}:i∈liv P↔∃p,P[i]?=some p∧p.2=1:=by
 unfold liv
 rw [List.mem_filter,List.mem_range]
 cases h:P[i]? with
 | none=>simp
 | some p=>
  have:=(List.getElem?_eq_some_iff.1 h).1
  simp [this]
theorem Za7 {P:List (Nat × Nat)}:∀{k:Nat},k≤P.length→(lvn (P.take k):Int)=sm (fun i=>if i∈liv P then 1 else 0) k
 | 0,_=>by simp [lvn,sm]
 | k+1,h=>by
  obtain ⟨p,hp⟩:∃p,P[k]?=some p:=⟨_,List.getElem?_eq_getElem (by omega)⟩
  have ih:=Za7 (P:=P) (k:=k) (by omega)
  rw [Qhx hp,sm,←ih]
  by_cases e:p.2=1
  ·rw [if_pos e,if_pos (Qxm.2 ⟨p,hp,e⟩)];omega
  ·rw [if_neg e,if_neg fun k=>?_]
   ·omega
   ·obtain ⟨p',hp',e'⟩:=Qxm.1 k
    rw [hp] at hp';cases hp';exact e e'
theorem Zgh {P:List (Nat × Nat)} {N:Nat} (h:P.length≤N):(lvn P:Int)=sm (fun i=>if i∈liv P then 1 else 0) N:=by
 rw [Q99 (n:=P.length) h fun i hi=>if_neg fun k=>by
  obtain ⟨p,hp,_⟩:=Qxm.1 k
  have:=(List.getElem?_eq_some_iff.1 hp).1;omega]
 have:=Za7 (P:=P) (Nat.le_refl _)
 rwa [List.take_length] at this
theorem Zb9:ET Pg 34 107 5 20:=ET.of (by kernel_rfl) (by kernel_rfl)
structure LT (w:World) (S A1 A2:Nat) (b:Bk) (N:Nat) (lv':Nat→Bool) (P Q:List (Nat × Nat)) (tl:Nat→List Nat) (q:List (List Nat)) (B D:Nat→Option (Nat × Nat)) (ky:Nat→Int):Prop where
 r:Row w.heap S 52 [.pointer (some ⟨A1,0,none⟩),.pointer (some ⟨A2,0,none⟩),.pointer (some ⟨b.M,0,none⟩)]
 a1:∃S1 L1 W1 b1 c1,AQ w A1 S1 L1 W1 N P b1 c1
 a2:∃S2 L2 W2 b2 c2,AQ w A2 S2 L2 W2 N Q b2 c2
 g:GM w.heap b N lv' tl q B D ky
 v:∀v,v<N→(lv' v=true↔v∈liv P)
 e:∀e,Laid tl N e↔e∈liv Q
def itP (P:List (Nat × Nat)):List (Int × Int):=P.map fun p=>((p.1:Int),(p.2:Int))
def stM (N:Nat) (P Q:List (Nat × Nat)) (tl:Nat→List Nat) (ky:Nat→Int) (vb:Option Addr) (vc:Nat) (eb:Option Addr) (ec:Nat) (lb:Option Addr) (lc:Nat):Mdl:=
 ⟨N,itP P,itP Q,Q.length,fun d=>if d∈dl tl N then og tl N d else 0,fun d=>if d∈dl tl N then sg tl N d else 0,fun e=>if Laid tl N e then ky e/1048576 else 0,vb,vc,eb,ec,lb,lc⟩
theorem Qsz {P:List (Nat × Nat)}:(itP P).length=P.length:=List.length_map ..
theorem Zbn {P:List (Nat × Nat)}:(itP P).flatMap pz=P.flatMap pcl:=by unfold itP;rw [List.flatMap_map];rfl
section
variable {w w':World} {S A1 A2 N:Nat} {b:Bk} {lv':Nat→Bool} {P Q:List (Nat × Nat)} {tl:Nat→List Nat} {q:List (List Nat)} {B D:Nat→Option (Nat × Nat)} {ky:Nat→Int}
theorem LT.nob (h:LT w S A1 A2 b N lv' P Q tl q B D ky) (c:Chg Qaa w w'):LT w' S A1 A2 b N lv' P Q tl q B D ky:=by
 obtain ⟨r,⟨S1,L1,W1,b1,c1,a1⟩,⟨S2,L2,W2,b2,c2,a2⟩,g,v,e⟩:=h
 exact ⟨c.row (fun h=>h) r,⟨S1,L1,W1,b1,c1,a1.nob c⟩,⟨S2,L2,W2,b2,c2,a2.nob c⟩,g.keep c (fun _ h=>h.elim),v,e⟩
theorem LT.cv (h:LT w S A1 A2 b N lv' P Q tl q B D ky):cV lv' N=(lvn P:Nat):=by
 obtain ⟨S1,L1,W1,b1,c1,a1⟩:=h.a1
 rw [Zgh a1.len]
 unfold cV
 refine Qfi fun i hi=>?_
 have:=h.v i hi
 by_cases k:i∈liv P
 ·rw [if_pos k,if_pos (this.2 k)]
 ·rw [if_neg k,if_neg fun j=>k (this.1 j)]
theorem LT.ce (h:LT w S A1 A2 b N lv' P Q tl q B D ky):cE tl N=(lvn Q:Nat):=by
 obtain ⟨S2,L2,W2,b2,c2,a2⟩:=h.a2
 rw [Zgh a2.len]
 unfold cE
 refine Qfi fun i hi=>?_
 have:=h.e i
 by_cases k:i∈liv Q
 ·rw [if_pos k,if_pos (this.2 k)]
 ·rw [if_neg k,if_neg fun j=>k (this.1 j)]
theorem Zh0 (h:LT w S A1 A2 b N lv' P Q tl q B D ky):Calls Pg 48 #[.pointer (some ⟨S,0,none⟩)] w fun r w'=>r=.returned (.bool true)∧w'=w:=by
 refine (Qr7 _).go ?_
 unfold Qls nr
 rw [show (⟨S,0,none⟩:Addr)=⟨S,0,none⟩ from rfl]
 exact Qac (fun _=>pt_i (Qav h.r rfl (Qac (fun _=>pt_i (Qav (o:=1) h.r rfl (Qac (fun _=>pt_i (Qav (o:=2) h.r rfl ⟨rfl,rfl⟩)) (fun h=>by cases h)))) (fun h=>by cases h)))) (fun h=>by cases h)
theorem Zhv (h:LT w S A1 A2 b N lv' P Q tl q B D ky) {e:Nat} {vb eb lb:Option Addr} {vc ec lc:Nat} :
  mcl (stM N P Q tl ky vb vc eb ec lb lc).fr (stM N P Q tl ky vb vc eb ec lb lc).nx (stM N P Q tl ky vb vc eb ec lb lc).W e=if e∈liv Q then [.int .u32 (og tl N (2*e):Nat),.int .u32 (og tl N (2*e+1):Nat),.int .u32 (sg tl N (2*e):Nat),.int .u32 (sg tl N (2*e+1):Nat),.int .i32 (ky e/1048576)] else [.int .u32 0,.int .u32 0,.int .u32 0,.int .u32 0,.int .i32 0]:=by
 have hM:=h.g.cb.mp
 unfold mcl stM
 dsimp only
 by_cases k:e∈liv Q
 ·have hl:=(h.e e).2 k
  have h1:2*e+1∈dl tl N:=hM.odd hl
  rw [if_pos k,if_pos (show 2*e∈dl tl N from hl),if_pos h1,if_pos (show 2*e∈dl tl N from hl),if_pos h1,if_pos hl]
 ·have hl:¬Laid tl N e:=fun j=>k ((h.e e).1 j)
  have h1:2*e+1∉dl tl N:=fun j=>hl (by have:=hM.laid j;rwa [show (2*e+1)/2=e by omega] at this)
  rw [if_neg k,if_neg (show 2*e∉dl tl N from hl),if_neg h1,if_neg (show 2*e∉dl tl N from hl),if_neg h1,if_neg hl]
  rfl
set_option maxRecDepth 4000 in
theorem Q59 (h:LT w S A1 A2 b N lv' P Q tl q B D ky) (hg:∀vb vc eb ec lb lc,(stM N P Q tl ky vb vc eb ec lb lc).good):Calls Pg 13 #[.pointer (some ⟨S,0,none⟩)] w fun r w'=>Chg Qaa w w'∧
  ∃vb vc eb ec lb lc,r=.returned (.tuple #[(stM N P Q tl ky vb vc eb ec lb lc).val,errV 0])∧MV w' (stM N P Q tl ky vb vc eb ec lb lc):=by
 refine (Qr8 _).go ?_
 have hN:N≤1048576:=by
  have h2:((N:Nat):Int)≤1048576:=(hg none 0 none 0 none 0).1.1.1.2
  omega
 unfold Qlt nr
 have hcv:=h.cv
 have hce:=h.ce
 obtain ⟨S1,L1,W1,b1,c1,ar1⟩:=h.a1
 obtain ⟨S2,L2,W2,b2,c2,ar2⟩:=h.a2
 have lP:=ar1.len
 have lQ:=ar2.len
 have hM:=h.g.cb.mp
 refine Qak fun X w2 hX c2' r2=>?_
 simp only [Qad]
 have s2:=c2'.size
 have lX:=r2.lt
 have h2:=h.nob c2'
 refine (Zh0 h2).mono ?_
 rintro r w4 ⟨rfl,rfl⟩
 refine ⟨_,rfl,Qac (fun h=>by cases h) (fun _=>pt_i (Qav h2.r rfl ((Zhc h2.g.toMR).mono ?_)))⟩
 rintro r w17 ⟨rfl,rfl⟩
 have hd:LT w17.drew S A1 A2 b N lv' P Q tl q B D ky:=h2.nob (Chg.refl _ _).drew
 have r2d:Row w17.drew.heap X 36 _:=r2
 have ar1d:=ar1.nob c2'.drew
 have ar2d:=ar2.nob c2'.drew
 have c02d:Chg Qaa w w17.drew:=c2'.drew
 have sd:w17.drew.heap.size=w17.heap.size:=rfl
 refine ⟨_,rfl,fun vs w'=>∃Y vb vc eb ec,vs=[.pointer (some ⟨Y,0,none⟩)]∧Chg Qaa w17.drew w'∧Row w'.heap Y 36 [.int .i64 N,.slice vb P.length vc,.slice eb Q.length ec,.slice none 0 0]∧VA w' vb P.length 2 (P.flatMap pcl)∧VA w' eb Q.length 2 (Q.flatMap pcl)∧w17.heap.size≤Y∧(∀g,bk vb=some g→g≠Y∧w17.heap.size≤g)∧∀g,bk eb=some g→g≠Y∧w17.heap.size≤g,?_,?_⟩
 ·refine pt_i (Qav hd.r rfl (pt_i (Qav hd.r rfl ⟨(Qqd ar1d).mono ?_,Qak fun Y w37 hY c37 r37=>?_⟩)))
  ·rintro r w22 ⟨vb,vc,rfl,o22,c22⟩
   have r22:=c22.row (fun h=>h) hd.r
   have s22:=c22.size
   refine ⟨_,_,_,rfl,by first | (rw [Qad,r22.cell];rfl) | (rw [r22.cell];rfl),(Qqd (ar2d.nob c22)).mono ?_,Qak fun Y w31 hY c31 r31=>?_⟩
   ·rintro r w25 ⟨eb,ec,rfl,o25,c25⟩
    have s25:=c25.size
    refine ⟨_,_,_,rfl,Qak fun Y w28 hY c28 r28=>Qd3 r28 rfl (by intro v hv;simp at hv;rcases hv with rfl | rfl | rfl | rfl<;>rfl) fun w29 c29 r29=>?_⟩
    refine ⟨Y,vb,vc,eb,ec,rfl,((c22.trans c25).trans c28).trans' c29 fun k e=>.inr (by omega),r29,?_,?_,by omega,fun g hg=>?_,fun g hg=>?_⟩
    ·exact VA.Qa6 (((o22.keep c25 fun _ _ h=>h).keep c28 fun _ _ h=>h).keep c29 fun g hg e=>by have:=(o22.Qar hg).2;omega)
    ·exact VA.Qa6 ((o25.keep c28 fun _ _ h=>h).keep c29 fun g hg e=>by have:=(o25.Qar hg).2;omega)
    ·have:=o22.Qar hg;omega
    ·have:=o25.Qar hg;omega
   ·have s31:=c31.size
    have l31:=r31.lt
    have r31':=c31.row (fun h=>h) r22
    refine ⟨by first | (rw [Qad,r31'.cell];rfl) | (rw [r31'.cell];rfl),(Qqd ((ar2d.nob c22).nob c31)).mono ?_⟩
    rintro r w33 ⟨eb,ec,rfl,o33,c33⟩
    have s33:=c33.size
    refine ⟨_,_,_,rfl,Qd3 (c33.row (fun h=>h) r31) rfl (by intro v hv;simp at hv;rcases hv with rfl | rfl | rfl | rfl<;>rfl) fun w35 c35 r35=>?_⟩
    refine ⟨Y,vb,vc,eb,ec,rfl,((c22.trans c31).trans c33).trans' c35 fun k e=>.inr (by omega),r35,?_,?_,by omega,fun g hg=>?_,fun g hg=>?_⟩
    ·exact VA.Qa6 (((o22.keep c31 fun _ _ h=>h).keep c33 fun _ _ h=>h).keep c35 fun g hg e=>by have:=(o22.Qar hg).2;omega)
    ·exact VA.Qa6 (o33.keep c35 fun g hg e=>by have:=(o33.Qar hg).1;omega)
    ·have:=o22.Qar hg;omega
    ·have:=o33.Qar hg;omega
  ·have s37:=c37.size
   have l37:=r37.lt
   have rS37:=c37.row (fun h=>h) hd.r
   refine ⟨by first | (rw [Qad,rS37.cell];rfl) | (rw [rS37.cell];rfl),by first | (rw [Qad,rS37.cell];rfl) | (rw [rS37.cell];rfl),(Qqd (ar1d.nob c37)).mono ?_⟩
   rintro r w39 ⟨vb,vc,rfl,o39,c39⟩
   have s39:=c39.size
   have rS39:=c39.row (fun h=>h) rS37
   refine ⟨_,_,_,rfl,by first | (rw [Qad,rS39.cell];rfl) | (rw [rS39.cell];rfl),(Qqd ((ar2d.nob c37).nob c39)).mono ?_⟩
   rintro r w42 ⟨eb,ec,rfl,o42,c42⟩
   have s42:=c42.size
   refine ⟨_,_,_,rfl,Qd3 ((c39.trans c42).row (fun h=>h) r37) rfl (by intro v hv;simp at hv;rcases hv with rfl | rfl | rfl | rfl<;>rfl) fun w44 c44 r44=>?_⟩
   refine ⟨Y,vb,vc,eb,ec,rfl,((c37.trans c39).trans c42).trans' c44 fun k e=>.inr (by omega),r44,?_,?_,by omega,fun g hg=>?_,fun g hg=>?_⟩
   ·exact VA.Qa6 ((o39.keep c42 fun _ _ h=>h).keep c44 fun g hg e=>by have:=(o39.Qar hg).1;omega)
   ·exact VA.Qa6 (o42.keep c44 fun g hg e=>by have:=(o42.Qar hg).1;omega)
   ·have:=o39.Qar hg;omega
   ·have:=o42.Qar hg;omega
 rintro _ p w46 ⟨Y,vb,vc,eb,ec,hp,c46,rY,vP,vQ,hYs,hvY,heY⟩
 simp only [List.cons.injEq,Value.pointer.injEq,and_true] at hp
 subst hp
 have c046:=c02d.trans c46
 have s46:=c46.size
 have lY:=rY.lt
 have lvb:∀g,0<P.length→bk vb=some g→g<w46.heap.size:=fun g hl hg=>by obtain ⟨g',e,k⟩:=vP.blk hl;rw [e] at hg;cases hg;exact k
 have leb:∀g,0<Q.length→bk eb=some g→g<w46.heap.size:=fun g hl hg=>by obtain ⟨g',e,k⟩:=vQ.blk hl;rw [e] at hg;cases hg;exact k
 let fr:=(stM N P Q tl ky none 0 none 0 none 0).fr
 let nx:=(stM N P Q tl ky none 0 none 0 none 0).nx
 let W:=(stM N P Q tl ky none 0 none 0 none 0).W
 have hmc:∀e,mcl fr nx W e=if e∈liv Q then [.int .u32 (og tl N (2*e):Nat),.int .u32 (og tl N (2*e+1):Nat),.int .u32 (sg tl N (2*e):Nat),.int .u32 (sg tl N (2*e+1):Nat),.int .i32 (ky e/1048576)] else [.int .u32 0,.int .u32 0,.int .u32 0,.int .u32 0,.int .i32 0]:=fun e=>Zhv h
 have cw:∀{w'},Chg (fun k=>k=Y∨w46.heap.size≤k) w46 w'→Chg Qaa w w':=fun {w'} k=>c046.trans' k fun i e=>.inr (by have:=c2'.size;omega)
 have rXk:∀{w'},Chg (fun k=>k=Y∨w46.heap.size≤k) w46 w'→Row w'.heap X 36 [.int .i64 0,.slice none 0 0,.slice none 0 0,.slice none 0 0]:=fun {w'} k=>k.row (fun e=>by omega) (c46.row (fun h=>h) r2d)
 have vPk:∀{w'},Chg (fun k=>k=Y∨w46.heap.size≤k) w46 w'→VA w' vb P.length 2 (P.flatMap pcl):=fun {w'} k=>vP.keep k fun g hl hg e=>by have:=lvb g hl hg;have:=hvY g hg;omega
 have vQk:∀{w'},Chg (fun k=>k=Y∨w46.heap.size≤k) w46 w'→VA w' eb Q.length 2 (Q.flatMap pcl):=fun {w'} k=>vQ.keep k fun g hl hg e=>by have:=leb g hl hg;have:=heY g hg;omega
 refine pt_i (Qai rY rfl ?_)
 let J:Nat→List Value→World→Prop:=fun jj us w'=>∃(e:Nat) (lb:Option Addr) (lc:Nat),us=[.int .i64 e]∧e≤Q.length∧Row w'.heap Y 36 [.int .i64 N,.slice vb P.length vc,.slice eb Q.length ec,.slice lb e lc]∧Own w' w46.heap.size 107 5 lb e lc (recs (mcl fr nx W) e)∧Chg (fun k=>k=Y∨w46.heap.size≤k) w46 w'∧jj=Q.length-e
 refine ⟨LI J,LM J,⟨_,0,none,0,rfl,Nat.zero_le _,rY,Own.nil,Chg.refl _ _,rfl⟩,?_⟩
 intro _ n51 w52 hJ
 obtain ⟨e,lb,lc,hus,he,rY52,ol,ck,hj⟩:=hJ.at
 simp only [vj] at hus
 subst hus
 have s52:=ck.size
 refine Qac (fun hlt=>?_) (fun hlt=>?_)<;>simp only [b1s] at hlt
 ·have heQ:e<Q.length:=by omega
  obtain ⟨p,hp⟩:∃p,Q[e]?=some p:=⟨_,List.getElem?_eq_getElem heQ⟩
  rw [wrap64_in (x:=(e:Int)+1) (by omega) (by omega),show ((e:Int)+1)=((e+1:Nat):Int) by omega]
  have hpi:(itP Q)[e]?=some ((p.1:Int),(p.2:Int)):=by unfold itP;rw [List.getElem?_map,hp];rfl
  have vQz:VA w52 eb (itP Q).length 2 ((itP Q).flatMap pz):=by rw [Qsz,Zbn];exact vQk ck
  have rdp:=fun {K:Int→Int→Prop} (k:K (p.1:Nat) (p.2:Nat))=>ldz vQz hpi (K:=K) k
  rw [Qsz] at rdp
  refine rdp (Qak fun A56 w57 hA56 c57 r57=>Qao r57 (by simp) rfl fun w58 c58 r58=>Qao r58 (by simp) rfl fun w59 c59 r59=>Qak fun A60 w61 hA60 c61 r61=>?_)
  have s57:=c57.size
  have s58:=c58.size
  have s59:=c59.size
  have s61:=c61.size
  have l57:=r57.lt
  have ck59:Chg (fun k=>k=Y∨w46.heap.size≤k) w46 w59:=(ck.trans c57.weak).trans ((c58.trans c59).mono fun k _ e=>.inr (by omega))
  have ck61:=ck59.trans c61.weak
  have c5261:Chg Qaa w52 w61:=(c57.trans' (c58.trans c59) fun k e=>.inr (by omega)).trans c61
  have r61p:=c61.row (fun h=>h) r59
  have rY61:=c5261.row (fun h=>h) rY52
  have ol61:=ol.keep c5261 fun _ _ h=>h
  have hin:e∈liv Q↔p.2=1:=by
   rw [Qxm,hp]
   simp
  have push:∀{u:World} {z0 z1 z2 z3 z4:Int},Chg (fun k=>k=Y∨w46.heap.size≤k) w46 u→Row u.heap Y 36 [.int .i64 N,.slice vb P.length vc,.slice eb Q.length ec,.slice lb e lc]→Own u w46.heap.size 107 5 lb e lc (recs (mcl fr nx W) e)→Row u.heap A60 107 [.int .u32 z0,.int .u32 z1,.int .u32 z2,.int .u32 z3,.int .i32 z4]→mcl fr nx W e=[.int .u32 z0,.int .u32 z1,.int .u32 z2,.int .u32 z3,.int .i32 z4]→
    ldS ⟨Y,0+3,none⟩ u fun s86b s86l s86c=>Qef ⟨A60,0,none⟩ u fun n87 n88 n89 n90 n91=>alo #[.int .u32 n87,.int .u32 n88,.int .u32 n89,.int .u32 n90,.int .i32 n91] 107 u fun a92 w93=>∃s94b s94l s94c w95,(Builtin.append_ #[34,34] 34 #[.slice s86b s86l s86c,.slice (some a92) 1 1]).run Pg w93=.ok (.slice s94b s94l s94c) w95∧
     pt (some ⟨Y,0,none⟩) fun a96=>sto (a96.add 3) (.slice s94b s94l s94c) w95 fun w97=>(LI J) [.int .i64 ((e+1:Nat):Int)] w97∧(LM J) [.int .i64 ((e+1:Nat):Int)] w97<(LM J) [.int .i64 (e:Nat)] w52:=by
   intro u z0 z1 z2 z3 z4 cu ry ou ra hmz
   have su:=cu.size
   refine Qai ry rfl (ldEr ra (Qak fun C w93 hC c93 r93=>?_))
   have s93:=c93.size
   obtain ⟨b',c',w95,hrun,ho,hc,hbk⟩:=Qaw (ty:=34) Zb9 (ou.keep c93 fun _ _ h=>h) r93 rfl (by intro u hu;simp at hu;rcases hu with rfl | rfl | rfl | rfl | rfl<;>rfl) (by omega) (by omega) (by omega)
   have s95:=hc.size
   refine ⟨b',_,c',w95,hrun,pt_i ?_⟩
   rw [Qad]
   have ry95:=hc.row (fun j=>by have:=(ou.Qar j).1;omega) (c93.row (fun h=>h) ry)
   refine Qao ry95 (by simp) rfl fun w97 c97 r97=>LI.again (k:=Q.length-(e+1)) ⟨e+1,b',c',rfl,by omega,r97,?_,((cu.trans c93.weak).trans (hc.mono fun k _ j=>.inr (ou.Qar j).1)).trans (c97.mono fun k _ j=>.inl j),rfl⟩ (by rw [hj];omega)
   have:=ho.keep c97 fun g hg j=>by have:=(ho.Qar hg).1;omega
   rw [Qd6,hmz]
   exact this
  refine Qaf (n:=(p.2:Nat)) r61p rfl (Qac (fun k=>?_) (fun k=>?_))<;>simp only [b1s] at k
  ·have hlive:e∈liv Q:=hin.2 (by omega)
   have hl:=(h.e e).2 hlive
   have g61:=h.g.keep (cw ck61) (fun _ h=>h.elim)
   refine (Zku g61 ((cw ck61).row (fun h=>h) h.r) hl).mono ?_
   rintro r w69 ⟨rfl,c69⟩
   have s69:=c69.size
   refine ⟨_,_,_,_,_,_,rfl,Qak fun A71 w72 hA71 c72 r72=>Qd3 r72 rfl (by intro v hv;simp at hv;rcases hv with rfl | rfl | rfl | rfl | rfl<;>rfl) fun w73 c73 r73=>Qaj (fun k=>absurd rfl k) (fun _=>ldEr r73 ?_)⟩
   have s72:=c72.size
   have s73:=c73.size
   have l72:=r72.lt
   have l61:=r61.lt
   have c6173:Chg Qaa w61 w73:=(c69.trans c72).trans' c73 fun k e=>.inr (by omega)
   refine Qd3 (c6173.row (fun h=>h) r61) rfl (by intro v hv;simp at hv;rcases hv with rfl | rfl | rfl | rfl | rfl<;>rfl) fun w84 c84 r84=>pt_i ?_
   rw [Qad]
   refine push ((ck61.trans c6173.weak).trans (c84.mono fun k _ e=>.inr (by omega))) (c84.row (by omega) (c6173.row (fun h=>h) rY61)) ((ol61.keep c6173 fun _ _ h=>h).keep c84 fun g hg e=>by have:=(ol.Qar hg).2;omega) r84 ?_
   rw [hmc,if_pos hlive]
  ·have hnl:e∉liv Q:=fun j=>k (by have:=hin.1 j;omega)
   refine pt_i ?_
   rw [Qad]
   refine push ck61 rY61 ol61 r61 ?_
   rw [hmc,if_neg hnl]
 ·have heQ:e=Q.length:=by omega
  subst heQ
  have rS52:=(cw ck).row (fun h=>h) h.r
  have g52:=h.g.keep (cw ck) (fun _ h=>h.elim)
  refine pt_i (Qav rS52 rfl ((Q8v g52.toMR).mono ?_))
  rintro r w117 ⟨rfl,c117⟩
  refine ⟨_,_,_,_,rfl,Qak fun Z w120 hZ c120 r120=>Qao r120 (by simp) rfl fun w121 c121 r121=>Qao r121 (by simp) rfl fun w122 c122 r122=>Qao r122 (by simp) rfl fun w123 c123 r123=>Qao r123 (by simp) rfl fun w124 c124 r124=>?_⟩
  have s117:=c117.size
  have s120:=c120.size
  have c52_124:Chg Qaa w52 w124:=(c117.trans c120).trans' (((c121.trans c122).trans c123).trans c124) fun k e=>.inr (by omega)
  have ckd:Chg (fun k=>k=Y∨w46.heap.size≤k) w46 w124.drew:=(ck.trans c52_124.weak).drew
  have rZ:Row w124.drew.heap Z 92 [.int .i64 (cV lv' N),.int .i64 (cE tl N),.int .i64 (2*(cV lv' N-cB B N)-cV lv' N+cE tl N),.int .i64 (cV lv' N-cB B N)]:=r124
  have rYd:Row w124.drew.heap Y 36 _:=c52_124.row (fun h=>h) rY52
  have old:Own w124.drew w46.heap.size 107 5 lb Q.length lc (recs (mcl fr nx W) Q.length):=ol.keep c52_124.drew fun _ _ h=>h
  have rSd:=(cw ckd).row (fun h=>h) h.r
  have a1d:=ar1.nob (cw ckd)
  have a2d:=ar2.nob (cw ckd)
  generalize w124.drew=w125 at *
  refine Qaf (n:=cV lv' N) rZ rfl (pt_i (Qav rSd rfl ((Zcz a1d).mono ?_)))
  rintro r w129 ⟨rfl,e129⟩
  rw [e129]
  refine ⟨_,rfl,by rw [rZ.cell];rfl,Qac (fun k=>by simp only [b1s] at k;exact absurd hcv k) (fun _=>?_)⟩
  refine Qaf (n:=cE tl N) rZ rfl (pt_i (Qav rSd rfl ((Zcz a2d).mono ?_)))
  rintro r w140 ⟨rfl,e140⟩
  rw [e140]
  refine ⟨_,rfl,by rw [Qad,rZ.cell];rfl,Qac (fun k=>by simp only [b1s] at k;exact absurd hce k) (fun _=>pt_i ?_)⟩
  let M:=stM N P Q tl ky vb vc eb ec lb lc
  have hMX:M.X.length=P.length:=Qsz
  have hMY:M.Y.length=Q.length:=Qsz
  have rYM:Row w125.heap Y 36 M.cl.toList:=by
   show Row w125.heap Y 36 [.int .i64 (N:Nat),.slice vb (itP P).length vc,.slice eb (itP Q).length ec,.slice lb Q.length lc]
   rw [Qsz,Qsz];exact rYd
  have mvs:∀{u:World},Chg (fun k=>k=Y∨w46.heap.size≤k) w46 u→Own u w46.heap.size 107 5 lb Q.length lc (recs (mcl fr nx W) Q.length)→MV u M:=fun {u} cu ou=>by
   refine ⟨?_,?_,VA.Qa6 ou,fun p hp=>?_,fun p hp=>?_,fun d hd=>?_,by rw [hMX];omega,by rw [hMY];omega,by show Q.length≤_;omega⟩
   ·show VA u vb (itP P).length 2 ((itP P).flatMap pz)
    rw [Qsz,Zbn];exact vPk cu
   ·show VA u eb (itP Q).length 2 ((itP Q).flatMap pz)
    rw [Qsz,Zbn];exact vQk cu
   ·obtain ⟨x,hx,rfl⟩:=List.mem_map.1 hp
    have:=(ar1.age x hx).1
    exact ⟨by show (0:Int)≤(x.1:Nat);omega,by show ((x.1:Nat):Int)<_;omega⟩
   ·obtain ⟨x,hx,rfl⟩:=List.mem_map.1 hp
    have:=(ar2.age x hx).1
    exact ⟨by show (0:Int)≤(x.1:Nat);omega,by show ((x.1:Nat):Int)<_;omega⟩
   ·show (if d∈dl tl N then og tl N d else 0)<_∧(if d∈dl tl N then sg tl N d else 0)<_
    by_cases k:d∈dl tl N
    ·rw [if_pos k,if_pos k]
     have:=(Qbm k).1
     have:=hM.lt _ (hM.Qcs k).1
     omega
    ·rw [if_neg k,if_neg k];omega
  refine ldM rYM ((Q6k (mvs ckd old)).mono ?_)
  rintro r w153 ⟨c153,hyes,_⟩
  rw [hyes (hg _ _ _ _ _ _)]
  have s153:=c153.size
  refine ⟨_,rfl,Qaj (fun k=>absurd rfl k) (fun _=>pt_i (ldM (c153.row (fun h=>h) rYM) ?_))⟩
  have ck153:=ckd.trans c153.weak
  refine Qd3 (rXk ck153) rfl (by intro v hv;simp at hv;rcases hv with rfl | rfl | rfl | rfl<;>rfl) fun w165 c165 r165=>ldM r165 ⟨?_,vb,vc,eb,ec,lb,lc,rfl,?_⟩
  ·exact (cw ck153).trans' c165 fun k e=>.inr (by omega)
  ·have mv:=mvs ck153 (old.keep c153 fun _ _ h=>h)
   refine ⟨mv.v.keep c165 fun g hl hg e=>?_,mv.e.keep c165 fun g hl hg e=>?_,mv.l.keep c165 fun g hl hg e=>?_,mv.x,mv.y,mv.d,mv.lx,mv.ly,mv.lm⟩
   ·have:=(hvY g hg).2;omega
   ·have:=(heY g hg).2;omega
   ·have:=(old.Qar hg).1;omega
end
section
variable {w w':World} {base:Nat} {M:Mdl}
theorem Q9h {xs ys:List Nat} {A:Nat} {ob:Option Addr} {oc sc:Nat} (h32:∀x∈xs,x<4294967296) (r:Row w.heap A 104 (xs.map fun (x:Nat)=>Value.int .u32 (x:Int))) (ho:Own w base 5 1 ob ys.length oc (bys ys)) (hA:bk ob≠some A) (hb:base≤w.heap.size) (hl:ys.length+4*xs.length≤100000000) :
  Calls Pg 193 #[.slice ob ys.length oc,.slice (some ⟨A,0,none⟩) xs.length sc] w fun r w'=>∃b' c',r=.returned (.slice b' (ys++xs.flatMap fun x=>pbs x 4).length c')∧Own w' base 5 1 b' (ys++xs.flatMap fun x=>pbs x 4).length c' (bys (ys++xs.flatMap fun x=>pbs x 4))∧Chg (fun i=>bk ob=some i) w w'∧(bk b'=bk ob∨∀g,bk b'=some g→w.heap.size≤g):=by
 refine (Qx7 _ _ _ _ _ _).go ?_
 unfold Qsi nr
 have lA:=r.lt
 have hlen:∀i,i≤xs.length→(ys++(xs.take i).flatMap fun x=>pbs x 4).length=ys.length+4*i:=fun i hi=>by
  rw [List.length_append,List.length_flatMap]
  have:∀l:List Nat,(l.map fun x=>(pbs x 4).length).sum=4*l.length:=fun l=>by
   induction l with
   | nil=>rfl
   | cons a l ih=>rw [List.map_cons,List.sum_cons,ih,Qbc,List.length_cons];omega
  rw [this,List.length_take];omega
 let J:Nat→List Value→World→Prop:=fun j vs w'=>∃(i:Nat) (b':Option Addr) (c':Nat),vs=[.slice b' (ys++(xs.take i).flatMap fun x=>pbs x 4).length c',.int .i64 i]∧i≤xs.length∧Own w' base 5 1 b' (ys++(xs.take i).flatMap fun x=>pbs x 4).length c' (bys (ys++(xs.take i).flatMap fun x=>pbs x 4))∧Chg (fun i=>bk ob=some i) w w'∧(bk b'=bk ob∨∀g,bk b'=some g→w.heap.size≤g)∧j=xs.length-i
 refine ⟨LI J,LM J,⟨_,0,ob,oc,by simp,by omega,by simpa using ho,Chg.refl _ _,.inl rfl,rfl⟩,?_⟩
 intro _ sb4 l4 c4 i w6 hJ
 obtain ⟨i,b',c',hvs,hin,ho2,hc2,hbk,hj⟩:=hJ.at
 simp only [vk] at hvs
 obtain ⟨⟨rfl,rfl,rfl⟩,rfl⟩:=hvs
 refine Qac (fun hlt=>?_) (fun hlt=>?_)<;>simp only [b1s] at hlt
 ·have hi:i<xs.length:=by omega
  obtain ⟨x,hx⟩:∃x,xs[i]?=some x:=⟨_,List.getElem?_eq_getElem hi⟩
  have hx32:=h32 x (List.mem_of_getElem? hx)
  have r6:=hc2.row hA r
  have li:=hlen i (by omega)
  refine Qat hi (Qaf (n:=(x:Int)) r6 (by rw [Nat.zero_add,Nat.mul_one,List.getElem?_map,hx];rfl) ⟨by decide,by decide,by decide,Qak fun C w8 hC c8 r8=>?_⟩)
  have s8:=c8.size
  have s6:=hc2.size
  have r8':Row w8.heap C 5 (bys (pbs x 4)):=by
   rw [←Zjm hx32];exact r8
  obtain ⟨b2,c2,w12,hrun,ho3,hc3,hbk3⟩:=Qb0 (sc:=4) (ty:=44) Q9j (ho2.keep c8 fun _ _ h=>h) (VA.Qgm (sz:=1) (l:=4) r8' (by rw [Q4v,Qbc])) Q4u (by omega) (by omega) (by omega) (by omega)
  have e1:ys++(xs.take (i+1)).flatMap (fun x=>pbs x 4)=(ys++(xs.take i).flatMap fun x=>pbs x 4)++pbs x 4:=by
   rw [List.take_add_one,hx,List.flatMap_append,List.append_assoc];simp
  have e2:(ys++(xs.take i).flatMap fun x=>pbs x 4).length+4=(ys++(xs.take (i+1)).flatMap fun x=>pbs x 4).length:=by rw [hlen i (by omega),hlen (i+1) (by omega)];omega
  rw [←Q61,←e1,e2] at ho3
  refine ⟨b2,_,c2,w12,hrun,?_⟩
  rw [wrap64_in (by omega) (by omega)]
  refine LI.again (k:=xs.length-(i+1)) ⟨i+1,b2,c2,by rw [e2];rfl,by omega,ho3,?_,?_,rfl⟩ (by rw [hj];omega)
  ·refine (hc2.trans c8.weak).trans' hc3 fun g hg=>?_
   rcases hbk with h | h
   ·exact .inl (h ▸ hg)
   ·exact .inr (h g hg)
  ·rcases hbk3 with h | h
   ·rw [h];exact hbk
   ·right;intro g hg;rw [h] at hg;cases hg;omega
 ·have hi:i=xs.length:=by omega
  subst hi
  rw [List.take_length] at ho2 ⊢
  exact ⟨_,_,rfl,ho2,hc2,hbk⟩
theorem pbs1 {x:Nat}:bys (pbs x 1)=[.int .u8 (IntKind.wrap .u8 (x:Int))]:=by
 have:pbs x 1=[x % 256]:=by simp [pbs]
 rw [this,IntKind.wrap_u8]
 unfold bys
 simp
theorem Zgg {ys:List Nat} {a s:Nat} {ob:Option Addr} {oc:Nat} (ha:a<4294967296) (ho:Own w base 5 1 ob ys.length oc (bys ys)) (hb:base≤w.heap.size) (hl:ys.length+5≤100000000) :
  Calls Pg 194 #[.slice ob ys.length oc,.agg #[.int .u32 (a:Nat),.int .i64 (s:Nat)]] w fun r w'=>∃b' c',r=.returned (.slice b' (ys++npy (a,s)).length c')∧Own w' base 5 1 b' (ys++npy (a,s)).length c' (bys (ys++npy (a,s)))∧Chg (fun i=>bk ob=some i) w w'∧(bk b'=bk ob∨∀g,bk b'=some g→w.heap.size≤g):=by
 refine (Q0g _ _ _ _ _ _ (fun v' w'=>∃b' c',v'=.slice b' (ys++npy (a,s)).length c'∧Own w' base 5 1 b' (ys++npy (a,s)).length c' (bys (ys++npy (a,s)))∧Chg (fun i=>bk ob=some i) w w'∧(bk b'=bk ob∨∀g,bk b'=some g→w.heap.size≤g)) ?_).mono (by rintro e w' ⟨v,rfl,x,y,rfl,k⟩;exact ⟨x,y,rfl,k⟩)
 unfold Qxe nr
 refine Qak fun A w4 hA c4 r4=>?_
 have s4:=c4.size
 have l4:=r4.lt
 have hob:∀g,bk ob=some g→g<w.heap.size:=fun g hg=>(ho.Qar hg).2
 have r4d:Row w4.drew.heap A 120 [.int .u32 (a:Nat),.int .i64 (s:Nat)]:=r4
 have c4d:Chg Qaa w w4.drew:=c4.drew
 have sd:w4.drew.heap.size=w4.heap.size:=rfl
 generalize w4.drew=w5 at *
 simp only [Qad]
 have x32:∀x∈[a],x<4294967296:=fun x hx=>by rw [List.mem_singleton] at hx;rw [hx];exact ha
 have e1:(ys++[a].flatMap fun x=>pbs x 4)++pbs s 1=ys++npy (a,s):=by simp [npy]
 have e0:(ys++[a].flatMap fun x=>pbs x 4).length=ys.length+4:=by rw [List.length_append];simp [Qbc]
 have e2:(ys++[a].flatMap fun x=>pbs x 4).length+1=(ys++npy (a,s)).length:=by rw [e0];simp [npy,Qbc]
 have fin:∀{u:World} {b1:Option Addr} {c1 C:Nat},Own u base 5 1 b1 (ys++[a].flatMap fun x=>pbs x 4).length c1 (bys (ys++[a].flatMap fun x=>pbs x 4))→Chg (fun i=>bk ob=some i) w u→(bk b1=bk ob∨∀g,bk b1=some g→w.heap.size≤g)→Row u.heap C 5 [.int .u8 (IntKind.wrap .u8 (s:Int))]→
   ∃s14b s14l s14c w15,(Builtin.append_ #[44,44] 44 #[.slice b1 (ys++[a].flatMap fun x=>pbs x 4).length c1,.slice (some ⟨C,0,none⟩) 1 1]).run Pg u=.ok (.slice s14b s14l s14c) w15∧
    (fun v' w'=>∃b' c',v'=Value.slice b' (ys++npy (a,s)).length c'∧Own w' base 5 1 b' (ys++npy (a,s)).length c' (bys (ys++npy (a,s)))∧Chg (fun i=>bk ob=some i) w w'∧(bk b'=bk ob∨∀g,bk b'=some g→w.heap.size≤g)) (.slice s14b s14l s14c) w15:=by
  intro u b1 c1 C ou cu hbk ru
  have su:=cu.size
  obtain ⟨b2,c2,w12,hrun,ho3,hc3,hb3⟩:=Qaw (ty:=44) Q9j ou ru rfl (by intro u hu;simp at hu;subst hu;rfl) (by omega) (by omega) (by omega)
  rw [e2,←pbs1,←Q61,e1] at ho3
  refine ⟨b2,_,c2,w12,hrun,b2,c2,by rw [e2],ho3,cu.trans' hc3 fun g hg=>?_,?_⟩
  ·rcases hbk with h | h
   ·exact .inl (h ▸ hg)
   ·exact .inr (h g hg)
  ·rcases hb3 with h | h
   ·rw [h];exact hbk
   ·right;intro g hg;rw [h] at hg;cases hg;omega
 refine Qaf (n:=(a:Nat)) r4d rfl (Qaf (n:=(s:Nat)) r4d rfl ⟨Qak fun C w8 hC c8 r8=>⟨by rw [(c8.row (fun h=>h) r4d).cell];rfl,?_,Qak fun D w17 hD c17 r17=>?_⟩,Qak fun D w24 hD c24 r24=>⟨by rw [(c24.row (fun h=>h) r4d).cell];rfl,Qak fun C w26 hC c26 r26=>?_⟩⟩)
 ·have s8:=c8.size
  refine (Q9h (xs:=[a]) x32 r8 ((ho.keep c4d fun _ _ h=>h).keep c8 fun _ _ h=>h) (fun e=>by have:=hob _ e;omega) (by omega) (by simp;omega)).mono ?_
  rintro r w10 ⟨b1,c1,rfl,ho1,hc1,hk1⟩
  have s10:=hc1.size
  refine ⟨_,_,_,rfl,by rw [(hc1.row (fun e=>by have:=hob _ e;omega) (c8.row (fun h=>h) r4d)).cell];rfl,Qak fun D w13 hD c13 r13=>fin (ho1.keep c13 fun _ _ h=>h) ((((c4d.trans c8).weak).trans hc1).trans c13.weak) (hk1.imp id fun h g hg=>by have:=h g hg;omega) r13⟩
 ·have s8:=c8.size
  have s17:=c17.size
  refine (Q9h (xs:=[a]) x32 (c17.row (fun h=>h) r8) (((ho.keep c4d fun _ _ h=>h).keep c8 fun _ _ h=>h).keep c17 fun _ _ h=>h) (fun e=>by have:=hob _ e;omega) (by omega) (by simp;omega)).mono ?_
  rintro r w19 ⟨b1,c1,rfl,ho1,hc1,hk1⟩
  exact ⟨_,_,_,rfl,fin ho1 ((((c4d.trans c8).trans c17).weak).trans hc1) (hk1.imp id fun h g hg=>by have:=h g hg;omega) (hc1.row (fun e=>by have:=hob _ e;omega) r17)⟩
 ·have s24:=c24.size
  have s26:=c26.size
  refine (Q9h (xs:=[a]) x32 r26 (((ho.keep c4d fun _ _ h=>h).keep c24 fun _ _ h=>h).keep c26 fun _ _ h=>h) (fun e=>by have:=hob _ e;omega) (by omega) (by simp;omega)).mono ?_
  rintro r w28 ⟨b1,c1,rfl,ho1,hc1,hk1⟩
  exact ⟨_,_,_,rfl,fin ho1 ((((c4d.trans c24).trans c26).weak).trans hc1) (hk1.imp id fun h g hg=>by have:=h g hg;omega) (hc1.row (fun e=>by have:=hob _ e;omega) (c26.row (fun h=>h) r24))⟩
def Mdl.ebk (M:Mdl) (k:Nat):List Nat:=((List.range k).map M.er).flatMap ER.by_
theorem Mdl.Q0u {k:Nat}:M.ebk (k+1)=M.ebk k++(M.er k).by_:=by
 unfold Mdl.ebk
 rw [List.range_succ,List.map_append,List.flatMap_append]
 simp
theorem Q74 {X:List (Int × Int)} {k:Nat} {p:Int × Int} (hp:X[k]?=some p):((toP X).take (k+1)).flatMap npy=((toP X).take k).flatMap npy++npy (p.1.toNat,p.2.toNat):=by
 rw [List.take_add_one,Q7c hp,List.flatMap_append]
 simp
theorem Zat {X:List (Int × Int)} {k:Nat} (hk:k≤X.length):(((toP X).take k).flatMap npy).length=5*k:=by
 have k1:∀l:List (Nat × Nat),(l.flatMap npy).length=5*l.length:=fun l=>by
  induction l with
  | nil=>rfl
  | cons a l ih=>rw [List.flatMap_cons,List.length_append,ih];simp [npy,Qbc];omega
 rw [k1,List.length_take,Qf1];omega
theorem Zcc {k:Nat}:(M.ebk k).length≤25*k:=by
 have k2:∀l:List ER,(l.flatMap ER.by_).length≤25*l.length:=fun l=>by
  induction l with
  | nil=>simp
  | cons a l ih=>
   rw [List.flatMap_cons,List.length_append,List.length_cons]
   have:a.by_.length≤25:=by
    unfold ER.by_
    simp only [List.length_append,Qbc]
    split
    ·simp only [List.length_append,Qbc];omega
    ·simp
   omega
 have h2:=k2 ((List.range k).map M.er)
 rwa [List.length_map,List.length_range] at h2
set_option maxRecDepth 4000 in
theorem Za5 (h:MV w M) (ok:M.ok):Calls Pg 120 #[M.val] w fun r w'=>∃b' c',r=.returned (.slice b' M.bts.length c')∧Own w' w.heap.size 5 1 b' M.bts.length c' (bys M.bts)∧Chg Qaa w w':=by
 refine (Qwv _ _ _ _ _ _ _ _ _ _).go ?_
 unfold Qrg nr
 obtain ⟨lX,lm⟩:=Mdl.Q9e ok
 obtain ⟨⟨a1,a2,a3,_⟩,⟨d1,d2,d3,_⟩,eY,hz,_⟩:=ok
 refine Qak fun A w5 hA c5 r5=>?_
 simp only [Qad]
 have s5:=c5.size
 have l5:=r5.lt
 refine Qaf (n:=M.N) r5 rfl (Qai r5 rfl (Qak fun B w9 hB c9 r9=>?_))
 have s9:=c9.size
 obtain ⟨n,hn⟩:∃n:Nat,M.N=n:=⟨M.N.toNat,by omega⟩
 rw [hn,Qgx (x:=(n:Int)) (by omega) (by omega),Qgx (x:=(M.X.length:Int)) (by omega) (by omega)] at r9
 refine (Q9h (base:=w9.heap.size) (xs:=[n,M.X.length]) (ys:=[]) (ob:=none) (oc:=0) (by intro x hx;simp at hx;omega) r9 Own.nil (fun e=>by cases e) (Nat.le_refl _) (by simp)).mono ?_
 rintro r w11 ⟨b1,c1,rfl,o11,c11,_⟩
 have c11n:Chg Qaa w9 w11:=c11.mono fun k _ e=>by cases e
 have s11:=c11.size
 have e11:([]++[n,M.X.length].flatMap fun x=>pbs x 4)=pbs n 4++pbs M.X.length 4:=by simp
 rw [e11] at o11 ⊢
 have c011:Chg Qaa w w11:=(c5.trans c9).trans c11n
 have r11:=(c9.trans c11n).row (fun h=>h) r5
 let HD:=pbs n 4++pbs M.X.length 4
 have hHD:HD.length=8:=by show (pbs n 4++pbs M.X.length 4).length=8;rw [List.length_append,Qbc,Qbc]
 have base9:w.heap.size≤w9.heap.size:=by omega
 refine ⟨_,_,_,rfl,Qai r11 rfl ?_⟩
 let T1:Nat→List Nat:=fun k=>HD++((toP M.X).take k).flatMap npy
 have T1l:∀k,k≤M.X.length→(T1 k).length=8+5*k:=fun k hk=>by show (HD++_).length=_;rw [List.length_append,Zat hk,hHD]
 let J:Nat→List Value→World→Prop:=fun jj us w'=>∃(k:Nat) (b':Option Addr) (c':Nat),us=[.slice b' (T1 k).length c',.int .i64 k]∧k≤M.X.length∧Own w' w9.heap.size 5 1 b' (T1 k).length c' (bys (T1 k))∧Chg (fun g=>w9.heap.size≤g) w9 w'∧jj=M.X.length-k
 have T10:T1 0=HD:=by show HD++((toP M.X).take 0).flatMap npy=HD;simp
 refine ⟨LI J,LM J,⟨_,0,b1,c1,by rw [T10];rfl,Nat.zero_le _,by rw [T10];exact o11,c11n.weak,rfl⟩,?_⟩
 intro _ sb sl sc n17 w18 hJ
 obtain ⟨k,b',c',hus,hk,ob,ck,hj⟩:=hJ.at
 simp only [vk] at hus
 obtain ⟨⟨rfl,rfl,rfl⟩,rfl⟩:=hus
 have s18:=ck.size
 have cw:∀{w'},Chg (fun g=>w9.heap.size≤g) w9 w'→Chg Qaa w w':=fun {w'} k=>(c5.trans c9).trans' k fun i e=>.inr (by omega)
 have r18:∀{w'},Chg (fun g=>w9.heap.size≤g) w9 w'→Row w'.heap A 36 M.cl.toList:=fun {w'} k=>k.row (fun e=>by omega) (c9.row (fun h=>h) r5)
 refine Qac (fun hlt=>?_) (fun hlt=>?_)<;>simp only [b1s] at hlt
 ·obtain ⟨p,hp⟩:∃p,M.X[k]?=some p:=⟨_,List.getElem?_eq_getElem (by omega)⟩
  have hx:=h.x p (List.mem_of_getElem? hp)
  have hs:=is_lt (Qmf a3 hp)
  refine ldz (h.nob (cw ck)).v hp (Qak fun C w23 hC c23 r23=>Qao r23 (by simp) rfl fun w24 c24 r24=>Qao r24 (by simp) rfl fun w25 c25 r25=>?_)
  have s23:=c23.size
  have s24:=c24.size
  have s25:=c25.size
  refine Qaf (n:=p.1) r25 rfl (Qaf (n:=p.2) r25 rfl ?_)
  have ck25:Chg (fun g=>w9.heap.size≤g) w9 w25:=(ck.trans c23.weak).trans ((c24.trans c25).mono fun k _ e=>by omega)
  have ob25:=(ob.keep c23 fun _ _ h=>h).keep (c24.trans c25) fun g hg e=>by have:=(ob.Qar hg).2;omega
  have q1:p.1=((p.1.toNat:Nat):Int):=by omega
  have q2:p.2=((p.2.toNat:Nat):Int):=by omega
  have hT:=T1l k hk
  rw [q1,q2]
  refine (Zgg (a:=p.1.toNat) (s:=p.2.toNat) (by omega) ob25 (by omega) (by omega)).mono ?_
  rintro r w29 ⟨b2,c2,rfl,o29,c29,_⟩
  have e1:T1 k++npy (p.1.toNat,p.2.toNat)=T1 (k+1):=by show HD++_++_=HD++_;rw [Q74 hp,List.append_assoc]
  rw [e1] at o29 ⊢
  rw [wrap64_in (x:=(k:Int)+1) (by omega) (by omega),show ((k:Int)+1)=((k+1:Nat):Int) by omega]
  exact ⟨_,_,_,rfl,LI.again (k:=M.X.length-(k+1)) ⟨k+1,b2,c2,rfl,by omega,o29,ck25.trans (c29.mono fun g _ e=>(ob.Qar e).1),rfl⟩ (by rw [hj];omega)⟩
 have hkX:k=M.X.length:=by omega
 refine Qai (r18 ck) rfl (Qak fun C w33 hC c33 r33=>?_)
 have s33:=c33.size
 rw [Qgx (x:=(M.Y.length:Int)) (by omega) (by omega)] at r33
 have hT:=T1l k hk
 refine (Q9h (xs:=[M.Y.length]) (by intro x hx;simp at hx;omega) r33 (ob.keep c33 fun _ _ h=>h) (fun e=>by have:=(ob.Qar e).2;omega) (by omega) (by simp;omega)).mono ?_
 rintro r w35 ⟨b3,c3,rfl,o35,c35,_⟩
 have ck35:Chg (fun g=>w9.heap.size≤g) w9 w35:=(ck.trans c33.weak).trans (c35.mono fun g _ e=>(ob.Qar e).1)
 have s35:=ck35.size
 let T2:Nat→List Nat:=fun j=>T1 k++pbs M.Y.length 4++M.ebk j
 have T20:T1 k++[M.Y.length].flatMap (fun x=>pbs x 4)=T2 0:=by show _=T1 k++pbs M.Y.length 4++M.ebk 0;simp [Mdl.ebk]
 have T2l:∀j,(T2 j).length≤8+5*k+4+25*j:=fun j=>by
  show (T1 k++pbs M.Y.length 4++M.ebk j).length≤_
  have:=Zcc (M:=M) (k:=j)
  rw [List.length_append,List.length_append,hT,Qbc];omega
 have T2f:T2 M.Y.length=M.bts:=by
  show T1 k++pbs M.Y.length 4++M.ebk M.Y.length=M.rm.by_
  have e1:(toP M.X).take k=toP M.X:=by rw [List.take_of_length_le (by rw [Qf1];omega)]
  show (pbs n 4++pbs M.X.length 4)++((toP M.X).take k).flatMap npy++pbs M.Y.length 4++_=_
  unfold Mdl.rm RM.by_ Mdl.ebk
  dsimp only
  rw [e1,hn,Int.toNat_natCast,Qf1,List.length_map,List.length_range]
 rw [T20] at o35 ⊢
 refine ⟨_,_,_,rfl,Qai (r18 ck35) rfl ?_⟩
 let J2:Nat→List Value→World→Prop:=fun jj us w'=>∃(j:Nat) (b':Option Addr) (c':Nat),us=[.slice b' (T2 j).length c',.int .i64 j]∧j≤M.Y.length∧Own w' w9.heap.size 5 1 b' (T2 j).length c' (bys (T2 j))∧Chg (fun g=>w9.heap.size≤g) w9 w'∧jj=M.Y.length-j
 refine ⟨LI J2,LM J2,⟨_,0,b3,c3,rfl,Nat.zero_le _,o35,ck35,rfl⟩,?_⟩
 intro _ sb2 sl2 sc2 n41 w42 hJ2
 obtain ⟨j,b',c',hus,hjl,ob2,ck2,hj2⟩:=hJ2.at
 simp only [vk] at hus
 obtain ⟨⟨rfl,rfl,rfl⟩,rfl⟩:=hus
 have s42:=ck2.size
 refine Qac (fun hlt2=>?_) (fun hlt2=>?_)<;>simp only [b1s] at hlt2
 ·have hjY:j<M.Y.length:=by omega
  obtain ⟨p,hp⟩:∃p,M.Y[j]?=some p:=⟨_,List.getElem?_eq_getElem hjY⟩
  have hx:=h.y p (List.mem_of_getElem? hp)
  have hs:=is_lt (Qmf d3 hp)
  have hlv:lv M.Y j=(p.2==1):=by unfold lv;rw [hp]
  refine ldz (h.nob (cw ck2)).e hp (Qak fun D w47 hD c47 r47=>Qao r47 (by simp) rfl fun w48 c48 r48=>Qao r48 (by simp) rfl fun w49 c49 r49=>?_)
  have s47:=c47.size
  have s48:=c48.size
  have s49:=c49.size
  have l47:=r47.lt
  refine Qaf (n:=p.1) r49 rfl (Qaf (n:=p.2) r49 rfl ?_)
  have ck49:Chg (fun g=>w9.heap.size≤g) w9 w49:=(ck2.trans c47.weak).trans ((c48.trans c49).mono fun k _ e=>by omega)
  have ob49:=(ob2.keep c47 fun _ _ h=>h).keep (c48.trans c49) fun g hg e=>by have:=(ob2.Qar hg).2;omega
  have q1:p.1=((p.1.toNat:Nat):Int):=by omega
  have q2:p.2=((p.2.toNat:Nat):Int):=by omega
  have hT2:=T2l j
  rw [q1,q2]
  refine (Zgg (a:=p.1.toNat) (s:=p.2.toNat) (by omega) ob49 (by omega) (by omega)).mono ?_
  rintro r w53 ⟨b4,c4,rfl,o53,c53,hk53⟩
  have s53:=c53.size
  have ck53:=ck49.trans (c53.mono fun g _ e=>(ob2.Qar e).1)
  have r53:=c53.row (b:=D) (fun e=>by have:=(ob2.Qar e).2;omega) r49
  refine ⟨_,_,_,rfl,Qai (r18 ck53) rfl (ldE (h.nob (cw ck53)).l (by omega) (Qak fun E w63 hE c63 r63=>Qd3 r63 rfl (by intro v hv;simp at hv;rcases hv with rfl | rfl | rfl | rfl | rfl<;>rfl) fun w64 c64 r64=>?_))⟩
  have s63:=c63.size
  have s64:=c64.size
  have ck64:=(ck53.trans c63.weak).trans (c64.mono fun g _ e=>by omega)
  have r64p:=c64.row (by omega) (c63.row (fun h=>h) r53)
  have o64:=(o53.keep c63 fun _ _ h=>h).keep c64 fun g hg e=>by have:=(o53.Qar hg).2;omega
  rw [wrap64_in (x:=(j:Int)+1) (by omega) (by omega),show ((j:Int)+1)=((j+1:Nat):Int) by omega]
  have her:M.er j=⟨p.1.toNat,p.2.toNat,M.fr (2*j),M.nx (2*j),M.fr (2*j+1),M.nx (2*j+1),(M.W j % 4294967296).toNat⟩:=Mdl.Q9k hp
  have e53:(T2 j++npy (p.1.toNat,p.2.toNat)).length=(T2 j).length+5:=by rw [List.length_append];simp [npy,Qbc]
  refine Qaf (n:=p.2) r64p rfl (Qac (fun k1=>?_) (fun k1=>?_))<;>simp only [b1s] at k1
  ·refine Qcb (i:=0) (by omega) (Qaf (n:=(M.fr (2*j):Nat)) r64 rfl (Qcb (i:=0) (by omega) (Qaf (n:=(M.nx (2*j):Nat)) r64 rfl (Qcb (i:=1) (by omega) (Qaf (n:=(M.fr (2*j+1):Nat)) r64 rfl (Qcb (i:=1) (by omega) (Qaf (n:=(M.nx (2*j+1):Nat)) r64 rfl (Qaf (n:=M.W j) r64 rfl (Qak fun F w76 hF c76 r76=>?_)))))))))
   have s76:=c76.size
   have dd0:=h.d (2*j) (by omega)
   have dd1:=h.d (2*j+1) (by omega)
   have ew:IntKind.wrap .u32 (M.W j)=(((M.W j % 4294967296).toNat:Nat):Int):=by
    simp [IntKind.wrap,IntKind.bits,IntKind.signed];omega
   rw [ew] at r76
   refine (Q9h (xs:=[M.fr (2*j),M.nx (2*j),M.fr (2*j+1),M.nx (2*j+1),(M.W j % 4294967296).toNat]) (by intro x hx;simp at hx;omega) r76 (o64.keep c76 fun _ _ h=>h) (fun e=>by have:=(o64.Qar e).2;omega) (by omega) (by rw [e53];simp;omega)).mono ?_
   rintro r w78 ⟨b5,c5',rfl,o78,c78,_⟩
   have e2:(T2 j++npy (p.1.toNat,p.2.toNat))++[M.fr (2*j),M.nx (2*j),M.fr (2*j+1),M.nx (2*j+1),(M.W j % 4294967296).toNat].flatMap (fun x=>pbs x 4)=T2 (j+1):=by
    show _=T1 k++pbs M.Y.length 4++M.ebk (j+1)
    rw [Mdl.Q0u,her]
    unfold ER.by_
    rw [if_pos (by show p.2.toNat=1;omega)]
    show (T1 k++pbs M.Y.length 4++M.ebk j)++_++_=_
    simp [npy]
   rw [e2] at o78 ⊢
   exact ⟨_,_,_,rfl,LI.again (k:=M.Y.length-(j+1)) ⟨j+1,b5,c5',rfl,by omega,o78,(ck64.trans c76.weak).trans (c78.mono fun g _ e=>(o64.Qar e).1),rfl⟩ (by rw [hj2];omega)⟩
  ·have e2:T2 j++npy (p.1.toNat,p.2.toNat)=T2 (j+1):=by
    show _=T1 k++pbs M.Y.length 4++M.ebk (j+1)
    rw [Mdl.Q0u,her]
    unfold ER.by_
    rw [if_neg (by show ¬p.2.toNat=1;omega)]
    show (T1 k++pbs M.Y.length 4++M.ebk j)++_=_
    simp [npy]
   rw [e2] at o64 ⊢
   exact LI.again (k:=M.Y.length-(j+1)) ⟨j+1,b4,c4,rfl,by omega,o64,ck64,rfl⟩ (by rw [hj2];omega)
 ·have hjY:j=M.Y.length:=by omega
  rw [hjY,T2f] at ob2 ⊢
  exact ⟨_,_,rfl,ob2.mono base9,cw ck2⟩
theorem Zit (h:MV w M) (hg:M.good):Calls Pg 53 #[M.val] w fun r w'=>∃b' c',r=.returned (.tuple #[.slice b' M.bts.length c',errV 0])∧Own w' w.heap.size 5 1 b' M.bts.length c' (bys M.bts)∧Chg Qaa w w':=by
 refine (Qx8 _ _ _ _ _ _ _ _ _ _).go ?_
 unfold Qsj nr
 refine Qak fun A w5 hA c5 r5=>ldM r5 ((Q6k (h.nob c5)).mono ?_)
 rintro r w11 ⟨c11,hyes,_⟩
 rw [hyes hg]
 have s5:=c5.size
 have s11:=c11.size
 refine ⟨_,rfl,Qaj (fun e=>absurd rfl e) (fun _=>ldM (c11.row (fun h=>h) r5) ((Za5 (h.nob (c5.trans c11)) hg.1).mono ?_))⟩
 rintro r w18 ⟨b1,c1,rfl,ho,hc3⟩
 exact ⟨_,_,_,rfl,_,_,rfl,ho.mono (by omega),(c5.trans c11).trans hc3⟩
end
section
variable {w w':World} {S A1 A2 N:Nat} {b:Bk} {lv':Nat→Bool} {P Q:List (Nat × Nat)} {tl:Nat→List Nat} {q:List (List Nat)} {B D:Nat→Option (Nat × Nat)} {ky:Nat→Int}
theorem Zft (h:LT w S A1 A2 b N lv' P Q tl q B D ky) (hg:∀vb vc eb ec lb lc,(stM N P Q tl ky vb vc eb ec lb lc).good):Calls Pg 14 #[.pointer (some ⟨S,0,none⟩)] w fun r w'=>
  ∃b' c',r=.returned (.tuple #[.slice b' (stM N P Q tl ky none 0 none 0 none 0).bts.length c',errV 0])∧Own w' w.heap.size 5 1 b' (stM N P Q tl ky none 0 none 0 none 0).bts.length c' (bys (stM N P Q tl ky none 0 none 0 none 0).bts)∧Chg Qaa w w':=by
 refine (Qt1 _).go ?_
 unfold Qnh nr
 refine (Q59 h hg).mono ?_
 rintro r w6 ⟨c6,vb,vc,eb,ec,lb,lc,rfl,mv⟩
 have s6:=c6.size
 refine ⟨_,_,_,_,_,_,_,_,_,_,_,rfl,Qak fun A w9 hA c9 r9=>Qd3 r9 rfl (by intro v hv;simp at hv;rcases hv with rfl | rfl | rfl | rfl<;>rfl) fun w10 c10 r10=>Qaj (fun e=>absurd rfl e) (fun _=>?_)⟩
 have s9:=c9.size
 have s10:=c10.size
 have c6_10:Chg Qaa w6 w10:=c9.trans' c10 fun k e=>.inr (by omega)
 refine ldM (M:=stM N P Q tl ky vb vc eb ec lb lc) r10 ((Zit (mv.nob c6_10) (hg _ _ _ _ _ _)).mono ?_)
 rintro r w20 ⟨b1,c1,rfl,ho,hc3⟩
 exact ⟨_,_,_,_,rfl,_,_,rfl,ho.mono (by omega),(c6.trans c6_10).trans hc3⟩
end
theorem Qwr {w:World} {b:Option Addr} {c:Nat} {xs:List Nat} (h:VA w b xs.length 1 (bys xs)) (hp:0<xs.length):(convert 44 9 (.slice b xs.length c)).run Pg w=.ok (.string (strOfNums (xs.map fun (x:Nat)=>(x:Int)))) w:=by
 rcases h.2 with h0 | ⟨g,o,e,cs,rfl,r,hc⟩
 ·omega
 refine run_convert_bytes_arg (P:=Pg) w 44 5 (by kernel_rfl) (by kernel_rfl) g o xs.length c (xs.map fun (x:Nat)=>(x:Int)) (by simp) (fun i hi=>?_) 9 (by kernel_rfl)
 rw [r.cell]
 have h1:(bys xs)[i]?=some (.int .u8 (xs[i]:Int)):=Q4w hi
 rw [←hc,List.getElem?_take,if_pos (by omega),List.getElem?_drop] at h1
 rw [h1]
 simp [List.getD_eq_getElem?_getD,hi]
section
variable {w w':World} {n:Nat}
theorem Zmv (h0:1≤n) (h1:n≤64):Calls Pg 32 #[.int .i64 n] w fun r w'=>∃S A1 A2 b,r=.returned (.tuple #[.pointer (some ⟨S,0,none⟩),errV 0])∧Chg Qaa w w'∧LT w' S A1 A2 b n (fun _=>false) [] [] (fun _=>[]) (ones (3*n)) (fun _=>none) (fun _=>none) (fun _=>0):=by
 refine (Q2m _).go ?_
 unfold Q06 nr
 have nw:∀{u:World} {A S:Nat},Row u.heap A 188 [.int .i64 n,.slice none 0 0,.pointer (some ⟨S,0,none⟩),.int .i64 0]→S<A→AQ u A S S S n [] none 0:=fun r hS=>
  ⟨r,Own.nil,Nat.zero_le _,fun p hp=>(by cases hp),fun g hg=>(by cases hg),by omega,by have:=r.lt;omega⟩
 refine (Q62 h0 (by omega)).mono ?_
 rintro r w3 ⟨A1,S1,e1,rfl,hc1,a1,_,b1,_,b2⟩
 refine ⟨_,_,rfl,Qaj (fun e=>absurd rfl e) (fun _=>(Q62 h0 (by omega)).mono ?_)⟩
 rintro r w7 ⟨A2,S2,e2,rfl,hc2,a2,_,b3,_,b4⟩
 refine ⟨_,_,rfl,Qaj (fun e=>absurd rfl e) (fun _=>(Q4n h0 (by omega)).mono ?_)⟩
 rintro r w11 ⟨b,rfl,hc3,hb,hm⟩
 refine ⟨_,_,rfl,Qaj (fun e=>absurd rfl e) (fun _=>Qak fun S w12 hS c12 r12=>?_)⟩
 refine ⟨_,A1,A2,b,rfl,((hc1.trans hc2).trans hc3).trans c12,r12,⟨_,_,_,_,_,(nw a1 (by omega)).nob ((hc2.trans hc3).trans c12)⟩,⟨_,_,_,_,_,(nw a2 (by omega)).nob (hc3.trans c12)⟩,(GM.new hm).keep c12 (fun _ h=>h.elim),fun v _=>⟨fun h=>(by cases h),fun h=>by cases h⟩,fun e=>⟨fun h=>?_,fun h=>by cases h⟩⟩
 unfold Laid at h
 rw [Qwn] at h;cases h
theorem Zef (h0:1≤n) (h1:n≤1048576) {vb eb lb:Option Addr} {vc ec lc:Nat}:(stM n [] [] (fun _=>[]) (fun _=>0) vb vc eb ec lb lc).good:=by
 refine ⟨⟨?_,?_,rfl,fun e he=>absurd he (Nat.not_lt_zero _),fun d hd=>?_⟩,fun _=>[],⟨fun _=>List.nodup_nil,fun v d=>⟨fun h=>(by cases h),fun h=>?_⟩,fun v d h=>by cases h⟩,fun x hx=>?_⟩
 ·exact ⟨⟨by show (1:Int)≤(n:Nat);omega,by show ((n:Nat):Int)≤_;omega⟩,by show (0:Int)≤(n:Nat);omega,rfl,fun p hp=>by cases hp⟩
 ·exact ⟨⟨by show (1:Int)≤(n:Nat);omega,by show ((n:Nat):Int)≤_;omega⟩,by show (0:Int)≤(n:Nat);omega,rfl,fun p hp=>by cases hp⟩
 ·cases Qit hd
 ·cases Qit h.1
 ·rw [Qwn] at hx;cases hx
theorem Q4s {w:World}:Calls Pg 8 #[] w fun e w'=>e=.returned (.bool true)∧Chg Qaa w w':=by
 refine Qtz.go ?_
 unfold Qnf nr
 refine (Zmv (n:=1) (by omega) (by omega)).mono ?_
 rintro r w2 ⟨S,A1,A2,b,rfl,hc,hs⟩
 refine ⟨_,_,rfl,Qaj (fun e=>absurd rfl e) (fun _=>Qac (fun h=>by cases h) (fun _=>(Zft hs fun _ _ _ _ _ _=>Zef (by omega) (by omega)).mono ?_))⟩
 rintro r w6 ⟨b',c',rfl,ho,hc2⟩
 refine ⟨_,_,_,_,rfl,Qbu _,?_⟩
 rw [Qb4]
 refine Qac (fun _=>?_) (fun h=>by cases h)
 have e0:(stM 1 [] [] (fun _=>[]) (fun _=>0) none 0 none 0 none 0).bts=[0,0,0,1,0,0,0,0,0,0,0,0]:=by decide
 have hv:=VA.Qa6 ho
 rw [e0] at hv ⊢
 refine ⟨_,_,Qwr hv (by decide),?_,hc.trans hc2⟩
 rw [show strOfNums (([0,0,0,1,0,0,0,0,0,0,0,0]:List Nat).map fun (x:Nat)=>(x:Int))=ByteArray.mk #[0,0,0,1,0,0,0,0,0,0,0,0] from rfl,beq_self_eq_true]
end
section
variable {w w':World} {b:Option Addr} {c v k:Nat} {xs:List Nat} {M:Mdl}
end
end Core
end Go.Proofs.YtfeekmmfdkfgmaaGreatDoor
