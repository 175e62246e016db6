/-
The law LoadBytes (layer 18): the state of any bytes, or the error.
Conditions: those that each theorem states.
-/
import Derived.Test.YtfeekmmfdkfgmaaGreatDoorHdec
import Derived.Test.YtfeekmmfdkfgmaaGreatDoorLawLoadOf
import Derived.Test.YtfeekmmfdkfgmaaGreatDoorHsh
set_option linter.unusedVariables false
set_option linter.unusedSimpArgs false
namespace Go.Proofs.YtfeekmmfdkfgmaaGreatDoor
open Go Go.RowKit
set_option linter.unnecessarySimpa false
namespace Core
set_option linter.ambiguousOpen false
open Seq Cut Web
section
variable {w w':World} {c:Nat} {b:Option Addr} {xs:List Nat} {m:RM} {vb eb lb:Option Addr} {vc ec lc:Nat}
theorem RM.wb (he:∀x∈m.E,x.ok):∀e,e<(m.mdl vb vc eb ec lb lc).m→-2147483648≤(m.mdl vb vc eb ec lb lc).W e∧(m.mdl vb vc eb ec lb lc).W e≤2147483647:=by
 intro e' he'
 have he2:e' < m.E.length:=he'
 show -2147483648≤sgn (m.at e').w∧sgn (m.at e').w≤2147483647
 rw [RM.Q19 (List.getElem?_eq_getElem he2)]
 obtain ⟨_,_,_,_,_,_,k7,_⟩:=he _ (List.getElem_mem he2)
 unfold sgn
 split<;>omega
theorem Zgn {n:Int} (h:CV w b xs.length 1 (bys xs)) (hb:Bt xs) (hl:xs.length≤1500) (hc:xs.length≤c):Calls Pg 19 #[.slice b xs.length c,.int .i64 n] w fun r w'=>Chg Qaa w w'∧
  ((∃(m:RM) (vb:Option Addr) (vc:Nat) (eb:Option Addr) (ec:Nat) (lb:Option Addr) (lc:Nat) (s S:Nat) (tl:Nat→List Nat) (A1 A2:Nat) (b:Bk) (q:List (List Nat)) (B D:Nat→Option (Nat × Nat)) (ky:Nat→Int),rdM xs=some m∧m.good∧(m.N:Int)=n∧r=.returned (.tuple #[.pointer (some ⟨S,0,none⟩),errV 0])∧LO w' s (m.mdl vb vc eb ec lb lc) S tl A1 A2 b q B D ky)∨
   ((∀m,rdM xs=some m→m.good→(m.N:Int)≠n)∧r=.returned (.tuple #[.pointer none,errV 17]))):=by
 refine (Q12 _ _ _ _).go ?_
 unfold Qzp nr
 refine (Zel h hb (by omega) hc).mono ?_
 rintro r w7 ⟨v',rfl,c7,⟨m,vb,vc,eb,ec,lb,lc,hm,hg,rfl,mv⟩ | ⟨hno,rfl⟩⟩
 ·obtain ⟨hxs,hmok⟩:=Q35 hb hm
  refine ⟨_,_,_,_,_,_,_,_,_,_,_,rfl,Qak fun A w10 hA c10 r10=>Qd3 r10 rfl (by intro v hv;simp at hv;rcases hv with rfl | rfl | rfl | rfl<;>rfl) fun w11 c11 r11=>⟨Qbu _,?_⟩⟩
  rw [Qb4]
  have s10:=c10.size
  have c711:Chg Qaa w7 w11:=c10.trans' c11 fun k e=>.inr (by omega)
  refine Qac (fun k=>by cases k) (fun _=>Qaf (n:=(m.N:Int)) r11 rfl (Qac (fun k=>?_) (fun k=>?_)))
  ·refine ⟨c7.trans c711,.inr ⟨fun m' hm' _ e=>?_,rfl⟩⟩
   rw [hm] at hm'
   cases hm'
   rw [e] at k
   simp at k
  ·have hn:(m.N:Int)=n:=by simpa using k
   refine ldM (M:=m.mdl vb vc eb ec lb lc) r11 ((l_Of (mv.nob c711) (RM.wb hmok.2.2.2.2)).mono ?_)
   rintro r w19 ⟨c19,⟨S,tl,A1,A2,b',q,B,D,ky,rfl,lo⟩ | ⟨rfl,hno⟩⟩
   ·exact ⟨_,_,rfl,(c7.trans c711).trans c19,.inl ⟨m,vb,vc,eb,ec,lb,lc,_,S,tl,A1,A2,b',q,B,D,ky,hm,hg,hn,rfl,lo⟩⟩
   ·exact absurd (RM.Qyw.2 hg) (Mdl.Q4b hno)
 ·refine ⟨_,_,_,_,_,_,_,_,_,_,_,rfl,Qak fun A w10 hA c10 r10=>Qd3 r10 rfl (by intro v hv;simp at hv;rcases hv with rfl | rfl<;>rfl) fun w11 c11 r11=>⟨Qbu _,?_⟩⟩
  rw [Qb4]
  have s10:=c10.size
  have c711:Chg Qaa w7 w11:=c10.trans' c11 fun k e=>.inr (by omega)
  exact Qac (fun _=>⟨c7.trans c711,.inr ⟨fun m hm hg=>absurd hg (hno m hm),rfl⟩⟩) (fun k=>by cases k)
set_option maxRecDepth 4000 in
theorem c_LoadBytes {n:Int} (hg:LaidG w) (h:CV w b xs.length 1 (bys xs)) (hb:Bt xs) (hc:xs.length≤c):Calls Pg 4 #[.slice b xs.length c,.int .i64 n] w fun e w'=>e=.returned (.bool true)∧Chg Qaa w w':=by
 refine (Qms _ _ _ _ _ (fun v' w'=>v'=.bool true∧Chg Qaa w w') ?_).mono rti
 unfold Qhr nr
 have sure:∀{w1:World},Chg Qaa w w1→Calls Pg 8 #[] w1 fun e w2=>∃b:Bool,e=.returned (.bool b)∧(Value.bool b=.bool true∧Chg Qaa w w2):=fun hc=>
  Q4s.mono fun e w2 ⟨he,hc2⟩=>⟨true,he,rfl,hc.trans hc2⟩
 refine Qac (fun _=>sure (Chg.refl _ _)) (fun hl=>?_)
 simp only [b1s] at hl
 have hl':xs.length≤1500:=by omega
 refine (Zea h hb hl' hc).mono ?_
 rintro r w10 ⟨v',rfl,c10,⟨m,vb,vc,eb,ec,lb,lc,hm,hgd,rfl,mv0⟩ | ⟨hno,rfl⟩⟩
 ·obtain ⟨hxs,hmok⟩:=Q35 hb hm
  refine ⟨_,_,_,_,_,_,_,_,_,_,_,rfl,Qak fun A w13 hA c13 r13=>Qd3 r13 rfl (by intro v hv;simp at hv;rcases hv with rfl | rfl | rfl | rfl<;>rfl) fun w14 c14 r14=>?_⟩
  have s13:=c13.size
  have c1014:Chg Qaa w10 w14:=c13.trans' c14 fun k e=>.inr (by omega)
  have c014:=c10.trans c1014
  refine ⟨fun us w'=>us=[]∧w'=w14∧m.N≤100,Qac (fun _=>Qaf (n:=(m.N:Int)) r14 rfl (Qac (fun k=>sure c014) (fun k=>?_))) (fun k=>by cases k),?_⟩
  ·simp only [b1s] at k
   exact ⟨rfl,rfl,by omega⟩
  rintro _ w20 ⟨_,rfl,hN⟩
  refine (Zgn (h.nob c014) hb hl' hc).mono ?_
  rintro r w23 ⟨c23,⟨m',vb',vc',eb',ec',lb',lc',s,S,tl,A1,A2,bb,q,B,D,ky,hm',hgd',hn,rfl,lo⟩ | ⟨hne,rfl⟩⟩
  ·rw [hm] at hm'
   cases hm'
   have c023:=c014.trans c23
   have r23:=c23.row (fun h=>h) r14
   let Mg:Mdl:=m.mdl vb' vc' eb' ec' lb' lc'
   have lt23:=LO.lt lo
   have hx0:∀p∈Mg.X,0≤p.1:=fun p hp=>by
    obtain ⟨q',_,rfl⟩:=List.mem_map.1 hp
    show (0:Int)≤(q'.1:Nat);omega
   have hy0:∀p∈Mg.Y,0≤p.1:=fun p hp=>by
    obtain ⟨q',_,rfl⟩:=List.mem_map.1 hp
    show (0:Int)≤(q'.a:Nat);omega
   have eqv:∀{vb eb lb:Option Addr} {vc ec lc:Nat},Mg.Eqv (stM Mg.N.toNat (toP Mg.X) (toP Mg.Y) tl ky vb vc eb ec lb lc):=fun {_ _ _ _ _ _}=>LO.eqv (M:=Mg) lo hx0 hy0
   have hst:∀vb vc eb ec lb lc,(stM Mg.N.toNat (toP Mg.X) (toP Mg.Y) tl ky vb vc eb ec lb lc).good:=fun _ _ _ _ _ _=>eqv.good (RM.Qyw.2 hgd')
   refine ⟨_,_,rfl,fun us w'=>us=[]∧w'=w23,Qac (fun k=>by cases k) (fun _=>Qaf (n:=(m.N:Int)) r23 rfl (Qac (fun k=>?_) (fun _=>⟨rfl,rfl⟩))),?_⟩
   ·rw [hn] at k;simp at k
   rintro _ w39 ⟨_,rfl⟩
   refine ⟨Qbu _,?_⟩
   rw [Qb4]
   refine Qac (fun k=>by cases k) (fun _=>Qac (fun k=>by cases k) (fun _=>(Q59 lt23 hst).mono ?_))
   rintro r w45 ⟨c45,vb2,vc2,eb2,ec2,lb2,lc2,rfl,mv2⟩
   refine ⟨_,_,_,_,_,_,_,_,_,_,_,rfl,Qak fun C w48 hC c48 r48=>Qd3 r48 rfl (by intro v hv;simp at hv;rcases hv with rfl | rfl | rfl | rfl<;>rfl) fun w49 c49 r49=>?_⟩
   have s48:=c48.size
   have c4549:Chg Qaa w45 w49:=c48.trans' c49 fun k e=>.inr (by omega)
   have c3949:=c45.trans c4549
   have c049:=c023.trans c3949
   refine ⟨Qbu _,?_⟩
   rw [Qb4]
   have eqv':(m.mdl vb vc eb ec lb lc).Eqv (stM Mg.N.toNat (toP Mg.X) (toP Mg.Y) tl ky vb2 vc2 eb2 ec2 lb2 lc2):=⟨eqv.n,eqv.x,eqv.y,eqv.m,eqv.d,eqv.w⟩
   have m49:=mv0.nob ((c1014.trans c23).trans c3949)
   have lP:m.P.length≤1000000:=by
    have:=congrArg List.length hxs
    unfold RM.by_ at this
    have k1:∀l:List (Nat × Nat),(l.flatMap npy).length=5*l.length:=fun l=>by
     induction l with
     | nil=>rfl
     | cons a l ih=>rw [List.flatMap_cons,List.length_append,ih];simp [npy,Qbc];omega
    simp only [List.length_append,Qbc,k1] at this
    omega
   have lE:m.E.length≤1000000:=by
    have:=congrArg List.length hxs
    unfold RM.by_ at this
    have k1:∀l:List ER,l.length≤(l.flatMap ER.by_).length:=fun l=>by
     induction l with
     | nil=>simp
     | cons a l ih=>
      rw [List.flatMap_cons,List.length_append,List.length_cons]
      have:1≤a.by_.length:=by unfold ER.by_;simp only [List.length_append,Qbc];omega
      omega
    have:=k1 m.E
    simp only [List.length_append,Qbc] at *
    omega
   refine Qac (fun _=>ldM (M:=stM Mg.N.toNat (toP Mg.X) (toP Mg.Y) tl ky vb2 vc2 eb2 ec2 lb2 lc2) r49 (ldM17 (M:=m.mdl vb vc eb ec lb lc) (c3949.row (fun h=>h) r23) ((Q15 (mv2.nob c4549) m49 eqv' (by rw [RM.lX];exact lP) (by rw [RM.lY];exact lE) lE).mono ?_))) (fun k=>by cases k)
   rintro r w59 ⟨rfl,c59⟩
   exact ⟨_,rfl,Qac (fun _=>sure (c049.trans c59)) (fun k=>by cases k)⟩
  ·have hn:=hne m hm hgd
   have c023:=c014.trans c23
   have r23:=c23.row (fun h=>h) r14
   refine ⟨_,_,rfl,fun us w'=>False,Qac (fun k=>by cases k) (fun _=>Qaf (n:=(m.N:Int)) r23 rfl (Qac (fun k=>(Q6y (hg.chg c023 (fun h=>h))).mono ?_) (fun k=>absurd (by simpa using k) hn))),fun _ _ h=>h.elim⟩
   rintro r w34 ⟨rfl,c34⟩
   exact ⟨_,rfl,Qac (fun _=>Qac (fun _=>sure (c023.trans c34)) (fun k=>by cases k)) (fun k=>by cases k)⟩
 ·refine ⟨_,_,_,_,_,_,_,_,_,_,_,rfl,Qak fun A w13 hA c13 r13=>Qd3 r13 rfl (by intro v hv;simp at hv;rcases hv with rfl | rfl<;>rfl) fun w14 c14 r14=>?_⟩
  have s13:=c13.size
  have c1014:Chg Qaa w10 w14:=c13.trans' c14 fun k e=>.inr (by omega)
  have c014:=c10.trans c1014
  refine ⟨fun us w'=>us=[]∧w'=w14,Qac (fun k=>by cases k) (fun _=>⟨rfl,rfl⟩),?_⟩
  rintro _ w20 ⟨_,rfl⟩
  refine (Zgn (h.nob c014) hb hl' hc).mono ?_
  rintro r w23 ⟨c23,⟨m',vb',vc',eb',ec',lb',lc',s,S,tl,A1,A2,bb,q,B,D,ky,hm',hgd',hn,rfl,lo⟩ | ⟨hne,rfl⟩⟩
  ·exact absurd hgd' (hno m' hm')
  have c023:=c014.trans c23
  refine ⟨_,_,rfl,fun us w'=>False,Qac (fun _=>(Q6y (hg.chg c023 (fun h=>h))).mono ?_) (fun k=>by cases k),fun _ _ h=>h.elim⟩
  rintro r w27 ⟨rfl,c27⟩
  exact ⟨_,rfl,Qac (fun _=>Qac (fun _=>sure (c023.trans c27)) (fun k=>by cases k)) (fun k=>by cases k)⟩
end
end Core
end Go.Proofs.YtfeekmmfdkfgmaaGreatDoor
