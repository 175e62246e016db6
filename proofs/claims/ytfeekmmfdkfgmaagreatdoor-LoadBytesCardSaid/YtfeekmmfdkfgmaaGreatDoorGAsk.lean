/-
Layer 4: going down a tree to what is looked for.
Conditions: those that each theorem states.
-/
import Derived.Test.YtfeekmmfdkfgmaaGreatDoorGFor
import Derived.Test.YtfeekmmfdkfgmaaGreatDoorHsh
set_option linter.unusedVariables false
set_option linter.unusedSimpArgs false
namespace Go.Proofs.YtfeekmmfdkfgmaaGreatDoor
open Go
namespace Seq
def recV (s:S) (y:Nat):Value:=.agg #[.int .i32 (s.up y),.int .i32 (s.left y),.int .i32 (s.right y),.bool (s.turned y),.int .i32 (s.size y),.int .i64 (s.value y),.int .i64 (s.sum y),.int .i64 (s.least y),.int .i64 (s.most y)]
theorem Ze4 {P:Program} {E:List FuncId} {f:Value} {args:List Value} {w:World} {X Y:Ending→World→Prop} (h:dcv P E f args w X) (hXY:∀e w',X e w'→Y e w'):dcv P E f args w Y:=by
 unfold dcv at *
 split at h
 ·rename_i g a b
  cases hg:E.contains g<;>simp only [hg,cond_true,cond_false] at h ⊢
  exact Calls.mono h hXY
 ·exact h.elim
theorem Zme {w:World} {F L n base:Nat} {s:S} {v:Nat→Int} {t:T} {ts:List T} {to:Value} {x z:Nat} {I:List Nat→World→Prop}
  (h:IsF w.heap F L n s) (k:Fo n s v (t::ts)) (hx:t.rt=x) (hz:z∈t.ls) (hI:I t.seq w) (hF:F<base) (hL:L<base)
  (stab:∀q w' w'',I q w'→Chg (·=L) w' w''→I q w'')
  (hto:∀c l y r s' w',IsF w'.heap F L n s'→Fo n s' v (plug c (.node l y false r)::ts)→base≤w'.heap.size→(plug c (.node l y false r)).seq=t.seq→z∈(T.node l y false r).ls→I (T.node l y false r).seq w'→
   dcv Pg Eall to [recV s' y] w' fun e w''=>∃d:Int,e=.returned (.int .i64 d)∧Chg (base≤·) w' w''∧
    ((z∈l.ls∧d<0∧I l.seq w'')∨(z=y∧d=0)∨(z∈r.ls∧0<d∧I r.seq w'')))
  (hb:base≤w.heap.size) :
  Calls Pg 308 #[.pointer (some ⟨F,0,none⟩),.int .i32 x,to] w fun e w'=>e=.returned (.int .i64 z)∧∃s' t',IsF w'.heap F L n s'∧Chg (fun k=>k=L∨base≤k) w w'∧Fo n s' v (t'::ts)∧t'.seq=t.seq:=by
 refine (Qti _ _ _).go ?_
 unfold Qmy nr
 let J:Nat→List Value→World→Prop:=fun j vs w'=>∃c l b r s',∃y:Nat,vs=[.int .i32 y]∧IsF w'.heap F L n s'∧Chg (fun k=>k=L∨base≤k) w w'∧Fo n s' v (plug c (.node l y b r)::ts)∧(plug c (.node l y b r)).seq=t.seq∧
  z∈(T.node l y b r).ls∧I (T.node l y b r).seq w'∧j=(T.node l y b r).ls.length
 obtain ⟨l0,b0,r0,rfl⟩:∃l b r,t=.node l x b r:=by
  cases t with
  | nil=>cases hz
  | node l y b r => simp only [T.rt] at hx; have : y = x := by omega
                    subst this;exact ⟨l,b,r,rfl⟩
 refine ⟨LI J,LM J,⟨_,[],l0,b0,r0,s,x,rfl,h,Chg.refl _ _,k,rfl,hz,hI,rfl⟩,?_⟩
 intro _ y w6 hJ
 obtain ⟨c,l,b,r,s6,y,hvs,hi6,hc6,k6,hs6,hz6,hI6,hj⟩:=hJ.at
 simp only [vj] at hvs
 subst hvs
 have hyn:y<n:=k6.tr.bd y (by rw [(Qcv c _).mem_iff];simp [T.ls])
 have hyy:(y:Int).toNat=y:=by omega
 obtain ⟨_,⟨a1,a2⟩,a3,a4⟩:=k6.wf y hyn
 refine (Qyd hi6 (by omega) (by omega) (by rw [hyy];exact a1) (by rw [hyy];exact a2) (by rw [hyy];exact a3) (by rw [hyy];exact a4)).mono ?_
 rintro e w7 ⟨rfl,hst7⟩
 refine ⟨rfl,?_⟩
 have hg:=Q4h k6.tr
 have k7:=k6.gd hg
 have hs7:=hg.seq.trans hs6
 obtain ⟨l',r',hsh⟩:=Qi1 l y b r
 have hperm:=Qqq l y b r
 have hseq:=Q1e l y b r
 rw [hsh] at k7 hs7 hperm hseq
 have hz7:z∈(T.node l' y false r').ls:=hperm.mem_iff.1 hz6
 have hI7:I (T.node l' y false r').seq w7:=by rw [hseq];exact stab _ _ _ hI6 hst7.c
 have hlen:=hperm.length_eq
 have hst:=St.start hst7.i
 have hbw:base≤w7.heap.size:=Nat.le_trans hb (Nat.le_trans hc6.size hst7.c.size)
 repeat (first | (with_reducible first | refine pt_i ?_ | refine gF ?_ | refine Qa1 (by omega) (by omega) ?_ | refine g0 ?_ | refine g1 ?_ | refine g2 ?_ | refine g3 ?_ | refine g4 ?_ | refine g5 ?_ | refine g6 ?_ | refine g7 ?_ | refine g8 ?_ | refine s0 fun _ hst=>?_ | refine s1 fun _ hst=>?_ | refine s2 fun _ hst=>?_ | refine s3 fun _ hst=>?_ | refine s4 fun _ hst=>?_ | refine s5 fun _ hst=>?_ | refine s6 fun _ hst=>?_ | refine s7 fun _ hst=>?_ | refine s8 fun _ hst=>?_) | simp only [projS,Qab])
 rw [hyy]
 have hcall:=hto c l' y r' _ w7 hst7.i k7 hbw hs7 hz7 hI7
 refine Ze4 hcall ?_
 rintro e w22 ⟨d,rfl,hc22,hd⟩
 refine ⟨d,rfl,?_⟩
 have hi22:=hst7.i.chg hc22 (by omega) (by omega)
 have hc22':Chg (fun k=>k=L∨base≤k) w w22:=(hc6.trans (hst7.c.mono (fun _ _ h=>.inl h))).trans (hc22.mono (fun _ _ h=>.inr h))
 have hst:=St.start hi22
 obtain ⟨⟨hN,hRl,hRr⟩,_⟩:=(Qda c _).1 k7.tr.rep
 have next:∀(d':Bool) (u:T),u=(if d' then l' else r')→z∈u.ls→I u.seq w22→u.ls.length<(T.node l y b r).ls.length→∃y':Nat,u.rt=y'∧J u.ls.length [.int .i32 y'] w22:=by
  intro d' u hu hzu hIu hlt
  cases u with
  | nil=>cases hzu
  | node l6 y6 b6 r6=>
   refine ⟨y6,rfl,(if d' then ⟨true,y,false,r'⟩ else ⟨false,y,false,l'⟩)::c,l6,b6,r6,_,y6,rfl,hi22,hc22',?_,?_,hzu,hIu,rfl⟩
   ·cases d'<;>simp only [Bool.false_eq_true,if_false,if_true] at hu ⊢<;>rw [hu]<;>exact k7
   ·cases d'<;>simp only [Bool.false_eq_true,if_false,if_true] at hu ⊢<;>rw [hu]<;>exact hs7
 have hlt:∀u:T,u=l'∨u=r'→u.ls.length<(T.node l y b r).ls.length:=by
  intro u hu
  rw [hlen]
  simp only [T.ls,List.length_append,List.length_cons]
  rcases hu with rfl | rfl<;>omega
 refine Qac (fun h1=>?_) (fun h1=>?_)<;>simp only [b1s] at h1
 ·obtain ⟨hzl,hIl⟩:z∈l'.ls∧I l'.seq w22:=by
   rcases hd with ⟨a,_,b⟩ | ⟨_,e⟩ | ⟨_,e,_⟩
   ·exact ⟨a,b⟩
   ·omega
   ·omega
  obtain ⟨y',hy',hJ'⟩:=next true l' rfl hzl hIl (hlt _ (.inl rfl))
  have hleft:(pushS s6 y).left y=y':=by rw [hN.left];exact hy'
  repeat (first | (with_reducible first | refine pt_i ?_ | refine gF ?_ | refine Qa1 (by omega) (by omega) ?_ | refine g0 ?_ | refine g1 ?_ | refine g2 ?_ | refine g3 ?_ | refine g4 ?_ | refine g5 ?_ | refine g6 ?_ | refine g7 ?_ | refine g8 ?_ | refine s0 fun _ hst=>?_ | refine s1 fun _ hst=>?_ | refine s2 fun _ hst=>?_ | refine s3 fun _ hst=>?_ | refine s4 fun _ hst=>?_ | refine s5 fun _ hst=>?_ | refine s6 fun _ hst=>?_ | refine s7 fun _ hst=>?_ | refine s8 fun _ hst=>?_) | simp only [projS,Qab])
  rw [hyy,hleft]
  exact LI.again hJ' (by rw [hj];exact hlt _ (.inl rfl))
 ·refine Qac (fun h2=>?_) (fun h2=>?_)<;>simp only [b1s] at h2
  ·obtain ⟨hzr,hIr⟩:z∈r'.ls∧I r'.seq w22:=by
    rcases hd with ⟨_,e,_⟩ | ⟨_,e⟩ | ⟨a,_,b⟩
    ·omega
    ·omega
    ·exact ⟨a,b⟩
   obtain ⟨y',hy',hJ'⟩:=next false r' rfl hzr hIr (hlt _ (.inr rfl))
   have hright:(pushS s6 y).right y=y':=by rw [hN.right];exact hy'
   repeat (first | (with_reducible first | refine pt_i ?_ | refine gF ?_ | refine Qa1 (by omega) (by omega) ?_ | refine g0 ?_ | refine g1 ?_ | refine g2 ?_ | refine g3 ?_ | refine g4 ?_ | refine g5 ?_ | refine g6 ?_ | refine g7 ?_ | refine g8 ?_ | refine s0 fun _ hst=>?_ | refine s1 fun _ hst=>?_ | refine s2 fun _ hst=>?_ | refine s3 fun _ hst=>?_ | refine s4 fun _ hst=>?_ | refine s5 fun _ hst=>?_ | refine s6 fun _ hst=>?_ | refine s7 fun _ hst=>?_ | refine s8 fun _ hst=>?_) | simp only [projS,Qab])
   rw [hyy,hright]
   exact LI.again hJ' (by rw [hj];exact hlt _ (.inr rfl))
  ·have hzy:z=y:=by
    rcases hd with ⟨_,e,_⟩ | ⟨e,_⟩ | ⟨_,e,_⟩
    ·omega
    ·exact e
    ·omega
   subst hzy
   refine (Qzg hi22 k7 (by rw [(Qcv c _).mem_iff];simp [T.ls])).mono ?_
   rintro e w32 ⟨rfl,s32,l32,r32,hst32,k32,hs32⟩
   refine ⟨rfl,?_,s32,_,hst32.i,hc22'.trans (hst32.c.mono (fun _ _ h=>.inl h)),k32,hs32.trans hs7⟩
   have:=k6.small
   rw [wrap64_in (by omega) (by omega)]
section
variable {w:World} {F L n:Nat} {v:Nat→Int} {q:List (List Nat)} {A B:List Nat} {a b x:Nat}
theorem Zcu (h:AF w.heap F L n v (A::B::q)) (ha:a∈A) (hb:b∈B) :
  Calls Pg 246 #[.pointer (some ⟨F,0,none⟩),.int .i64 a,.int .i64 b] w fun e w'=>e=.returned (.tuple #[.bool false,errV 0])∧AS w w' F L n v (A::B::q):=by
 obtain ⟨hnd,hlt,_,_,hn,_⟩:=h.nodup
 have han:=hlt A (by simp) a ha
 have hbn:=hlt B (by simp) b hb
 refine (Qdr _ _ _).go ?_
 unfold Qdg nr
 refine Qal fun hrow=>?_
 refine (Qoo h).mono ?_
 rintro e w5 ⟨rfl,rfl⟩
 refine ⟨_,rfl,Qaj (fun e=>by rw [Qtb han hbn] at e;exact absurd rfl e) (fun _=>?_)⟩
 rw [wrap32_in (by omega) (by omega),wrap32_in (by omega) (by omega)]
 refine (Q5n (h.alloc _) ha hb).mono ?_
 rintro e w7 ⟨rfl,has⟩
 exact ⟨_,rfl,rfl,(h.Qsb _).trans has⟩
theorem Q4r {x:Nat} (h:AF w.heap F L n v (A::q)) (hx:x∈A) :
  Calls Pg 280 #[.pointer (some ⟨F,0,none⟩),.int .i64 x] w fun e w'=>e=.returned (.tuple #[.pointer (some ⟨L,(x:Int).toNat*9,none⟩),errV 0])∧
   ∃s l r ts,St w w' F L n s∧Fo n s v (.node l x false r::ts)∧l.seq++x::r.seq=A∧q.Perm (ts.map T.seq):=by
 obtain ⟨hnd,hlt,_,_,hn,_⟩:=h.nodup
 have hxn:=hlt A (by simp) x hx
 refine (Qgf _ _).go ?_
 unfold Qfk nr
 refine Qal fun hrow=>?_
 refine (Qrc h).mono ?_
 rintro e w5 ⟨rfl,rfl⟩
 refine ⟨_,rfl,Qaj (fun e=>by rw [Q8r hxn] at e;exact absurd rfl e) (fun _=>?_)⟩
 rw [wrap32_in (by omega) (by omega)]
 refine (Qw2 (h.alloc _) hx).mono ?_
 rintro e w7 ⟨rfl,s,l,r,ts,hst,k,hs,hp⟩
 refine ⟨rfl,?_⟩
 have hxx:(x:Int).toNat=x:=by omega
 have hst:=(h.Qsb _).st hst
 obtain ⟨_,⟨a1,a2⟩,a3,a4⟩:=k.wf x hxn
 refine (Qyd hst.i (by omega) (by omega) (by rw [hxx];exact a1) (by rw [hxx];exact a2) (by rw [hxx];exact a3) (by rw [hxx];exact a4)).mono ?_
 rintro e w9 ⟨rfl,hst9⟩
 have e9:pushS s x=s:=by unfold pushS;rw [hxx,k.tr.rep.1.turned];simp
 rw [e9] at hst9
 refine ⟨rfl,?_⟩
 have hst:=hst.trans hst9
 repeat (first | (with_reducible first | refine pt_i ?_ | refine gF ?_ | refine Qa1 (by omega) (by omega) ?_ | refine g0 ?_ | refine g1 ?_ | refine g2 ?_ | refine g3 ?_ | refine g4 ?_ | refine g5 ?_ | refine g6 ?_ | refine g7 ?_ | refine g8 ?_ | refine s0 fun _ hst=>?_ | refine s1 fun _ hst=>?_ | refine s2 fun _ hst=>?_ | refine s3 fun _ hst=>?_ | refine s4 fun _ hst=>?_ | refine s5 fun _ hst=>?_ | refine s6 fun _ hst=>?_ | refine s7 fun _ hst=>?_ | refine s8 fun _ hst=>?_) | simp only [projS,Qab])
 exact ⟨rfl,s,l,r,ts,hst,k,by simpa [T.seq] using hs,hp⟩
theorem AS.of {s:S} {l r:T} {ts:List T} {w':World} (hst:St w w' F L n s) (k:Fo n s v (.node l x false r::ts)) (hs:l.seq++x::r.seq=A) (hp:q.Perm (ts.map T.seq)):AS w w' F L n v (A::q):=by
 refine ⟨s,_,hst,k,?_⟩
 rw [List.map_cons]
 have:(T.node l x false r).seq=A:=by simpa [T.seq] using hs
 rw [this];exact hp.cons _
theorem Zmf {x:Nat} (h:AF w.heap F L n v (A::q)) (hx:x∈A) :
  Calls Pg 241 #[.pointer (some ⟨F,0,none⟩),.int .i64 x] w fun e w'=>e=.returned (.tuple #[.int .i64 A.length,errV 0])∧AS w w' F L n v (A::q):=by
 obtain ⟨hnd,hlt,_,_,hn,_⟩:=h.nodup
 have hxn:=hlt A (by simp) x hx
 refine (Qfd _ _).go ?_
 unfold Qet nr
 refine (Q4r h hx).mono ?_
 rintro e w4 ⟨rfl,s,l,r,ts,hst,k,hs,hp⟩
 refine ⟨_,_,rfl,Qaj (fun e=>absurd rfl e) (fun _=>?_)⟩
 have hxx:(x:Int).toNat=x:=by omega
 have hsz:s.size x=A.length:=by
  rw [k.tr.rep.1.agg.size,←hs]
  have h1:=l.Qb9.length_eq
  have h2:=r.Qb9.length_eq
  simp [h1,h2]
 have hl:=k.tr.len
 have:A.length≤8388608:=by
  rw [←hs]
  have h1:=l.Qb9.length_eq
  have h2:=r.Qb9.length_eq
  simp [T.ls] at hl
  simp [h1,h2];omega
 repeat (first | (with_reducible first | refine pt_i ?_ | refine gF ?_ | refine Qa1 (by omega) (by omega) ?_ | refine g0 ?_ | refine g1 ?_ | refine g2 ?_ | refine g3 ?_ | refine g4 ?_ | refine g5 ?_ | refine g6 ?_ | refine g7 ?_ | refine g8 ?_ | refine s0 fun _ hst=>?_ | refine s1 fun _ hst=>?_ | refine s2 fun _ hst=>?_ | refine s3 fun _ hst=>?_ | refine s4 fun _ hst=>?_ | refine s5 fun _ hst=>?_ | refine s6 fun _ hst=>?_ | refine s7 fun _ hst=>?_ | refine s8 fun _ hst=>?_) | simp only [projS,Qab])
 rw [hxx,hsz,wrap64_in (by omega) (by omega)]
 exact ⟨rfl,AS.of hst k hs hp⟩
theorem Zmg {x:Nat} {pre post:List Nat} (h:AF w.heap F L n v ((pre++x::post)::q)) :
  Calls Pg 294 #[.pointer (some ⟨F,0,none⟩),.int .i64 x] w fun e w'=>e=.returned (.tuple #[.int .i64 pre.length,errV 0])∧AS w w' F L n v ((pre++x::post)::q):=by
 obtain ⟨hnd,hlt,_,_,hn,_⟩:=h.nodup
 have hxn:=hlt (pre++x::post) (by simp) x (by simp)
 refine (Qjv _ _).go ?_
 unfold Qhn nr
 refine (Q4r h (by simp)).mono ?_
 rintro e w4 ⟨rfl,s,l,r,ts,hst,k,hs,hp⟩
 refine ⟨_,_,rfl,Qaj (fun e=>absurd rfl e) (fun _=>?_)⟩
 have hxx:(x:Int).toNat=x:=by omega
 have hnd1:(pre++x::post).Nodup:=by simp only [List.flatten_cons,List.nodup_append] at hnd;simp only [List.nodup_append];exact hnd.1
 obtain ⟨e1,e2⟩:=Qsd hnd1 hs.symm rfl
 obtain ⟨hN,hRl,_⟩:=k.tr.rep
 have hlp:=l.Qb9.length_eq
 have hN':s.left (x:Int).toNat=l.rt:=by rw [hxx];exact hN.left
 repeat (first | (with_reducible first | refine pt_i ?_ | refine gF ?_ | refine Qa1 (by omega) (by omega) ?_ | refine g0 ?_ | refine g1 ?_ | refine g2 ?_ | refine g3 ?_ | refine g4 ?_ | refine g5 ?_ | refine g6 ?_ | refine g7 ?_ | refine g8 ?_ | refine s0 fun _ hst=>?_ | refine s1 fun _ hst=>?_ | refine s2 fun _ hst=>?_ | refine s3 fun _ hst=>?_ | refine s4 fun _ hst=>?_ | refine s5 fun _ hst=>?_ | refine s6 fun _ hst=>?_ | refine s7 fun _ hst=>?_ | refine s8 fun _ hst=>?_) | simp only [projS,Qab])
 rw [hN']
 refine Qac (fun hc=>?_) (fun hc=>?_)<;>simp only [b1s] at hc
 ·have hl:l=.nil:=by
   cases l with
   | nil=>rfl
   | node=>simp [T.rt] at hc
  subst hl
  have:pre=[]:=by rw [←e1];rfl
  subst this
  exact ⟨rfl,AS.of hst k hs hp⟩
 ·obtain ⟨y,hy⟩:∃y:Nat,l.rt=y:=by
   rcases Qcl l with e | ⟨y,e,_⟩
   ·exact absurd e hc
   ·exact ⟨y,e⟩
  have hyn:y<n:=k.tr.bd y (by have:=Qaq hy.symm;simp [T.ls,this])
  have hag:=(hRl.root hy.symm).2.1
  have hleft:s.left x=y:=by rw [hN.left,hy]
  have hyy:(y:Int).toNat=y:=by omega
  have hst:=hst.drew
  have hl:=k.tr.len
  simp [T.ls] at hl
  have hleft':s.left (x:Int).toNat=y:=by rw [hxx];exact hleft
  repeat (first | (with_reducible first | refine pt_i ?_ | refine gF ?_ | refine Qa1 (by omega) (by omega) ?_ | refine g0 ?_ | refine g1 ?_ | refine g2 ?_ | refine g3 ?_ | refine g4 ?_ | refine g5 ?_ | refine g6 ?_ | refine g7 ?_ | refine g8 ?_ | refine s0 fun _ hst=>?_ | refine s1 fun _ hst=>?_ | refine s2 fun _ hst=>?_ | refine s3 fun _ hst=>?_ | refine s4 fun _ hst=>?_ | refine s5 fun _ hst=>?_ | refine s6 fun _ hst=>?_ | refine s7 fun _ hst=>?_ | refine s8 fun _ hst=>?_) | simp only [projS,Qab])
  rw [hleft']
  repeat (first | (with_reducible first | refine pt_i ?_ | refine gF ?_ | refine Qa1 (by omega) (by omega) ?_ | refine g0 ?_ | refine g1 ?_ | refine g2 ?_ | refine g3 ?_ | refine g4 ?_ | refine g5 ?_ | refine g6 ?_ | refine g7 ?_ | refine g8 ?_ | refine s0 fun _ hst=>?_ | refine s1 fun _ hst=>?_ | refine s2 fun _ hst=>?_ | refine s3 fun _ hst=>?_ | refine s4 fun _ hst=>?_ | refine s5 fun _ hst=>?_ | refine s6 fun _ hst=>?_ | refine s7 fun _ hst=>?_ | refine s8 fun _ hst=>?_) | simp only [projS,Qab])
  rw [hyy,hag.size,←hlp,e1,wrap64_in (by rw [←e1,hlp];omega) (by rw [←e1,hlp];omega)]
  exact ⟨rfl,AS.of hst k hs hp⟩
end
end Seq
end Go.Proofs.YtfeekmmfdkfgmaaGreatDoor
namespace Go.Proofs.YtfeekmmfdkfgmaaGreatDoor
open Go
theorem Zlm {w:World} {k:IntKind} {b o:Nat} {e:TypeId} {cs:List Value} {n:Int} {K:Int→Prop} (r:Row w.heap b e cs) (h:cs[o]?=some (.int k n)) (kk:K n):ldI k ((Addr.mk b 0 none).add o) w K:=by
 rw [Qad,Nat.zero_add];exact Qaf r h kk
theorem Row.drew {w:World} {b:Nat} {e:TypeId} {cs:List Value} (r:Row w.heap b e cs):Row w.drew.heap b e cs:=r
namespace Seq
section
variable {w:World} {F L n:Nat} {v:Nat→Int} {q:List (List Nat)} {A B:List Nat} {a b x:Nat}
def Say (z:Nat) (I:List Nat→World→Prop) (l:List Nat) (y:Nat) (r:List Nat) (d:Int) (w:World):Prop:=
 (z∈l∧d<0∧I l w)∨(z=y∧d=0)∨(z∈r∧0<d∧I r w)
def IAt (F p a:Nat) (z:Nat) (q:List Nat) (w:World):Prop:=Row w.heap p 341 [.pointer (some ⟨F,0,none⟩)]∧∃k:Nat,Row w.heap a 3 [.int .i64 k]∧q[k]?=some z
theorem Zmh {s:S} {c:List Fr} {l r:T} {y z p:Nat} {ts:List T} (h:IsF w.heap F L n s) (k:Fo n s v (plug c (.node l y false r)::ts)) (hI:IAt F p a z (l.seq++y::r.seq) w) :
  Calls Pg 309 #[recV s y,.pointer (some ⟨p,0,none⟩),.pointer (some ⟨a,0,none⟩)] w fun e w'=>∃d:Int,e=.returned (.int .i64 d)∧Chg (·=a) w w'∧(a≠p→Say z (IAt F p a z) l.seq y r.seq d w'):=by
 obtain ⟨hp,i,ha,hi⟩:=hI
 refine (Qtj _ _ _ _ _ _ _ _ _ _ _).go ?_
 unfold Qmz nr
 refine Qal fun hrow=>?_
 have hst:=(St.start h).alloc (.cells #[.int .i32 (s.up y),.int .i32 (s.left y),.int .i32 (s.right y),.bool (s.turned y),.int .i32 (s.size y),.int .i64 (s.value y),.int .i64 (s.sum y),.int .i64 (s.least y),.int .i64 (s.most y)] 377)
 have hp:=hp.alloc (.cells #[.int .i32 (s.up y),.int .i32 (s.left y),.int .i32 (s.right y),.bool (s.turned y),.int .i32 (s.size y),.int .i64 (s.value y),.int .i64 (s.sum y),.int .i64 (s.least y),.int .i64 (s.most y)] 377)
 have ha:=ha.alloc (.cells #[.int .i32 (s.up y),.int .i32 (s.left y),.int .i32 (s.right y),.bool (s.turned y),.int .i32 (s.size y),.int .i64 (s.value y),.int .i64 (s.sum y),.int .i64 (s.least y),.int .i64 (s.most y)] 377)
 have hch:Chg (·=a) w (w.alloc (.cells #[.int .i32 (s.up y),.int .i32 (s.left y),.int .i32 (s.right y),.bool (s.turned y),.int .i32 (s.size y),.int .i64 (s.value y),.int .i64 (s.sum y),.int .i64 (s.least y),.int .i64 (s.most y)] 377)):=(Chg.refl _ _).alloc _
 generalize hw1:w.alloc (.cells #[.int .i32 (s.up y),.int .i32 (s.left y),.int .i32 (s.right y),.bool (s.turned y),.int .i32 (s.size y),.int .i64 (s.value y),.int .i64 (s.sum y),.int .i64 (s.least y),.int .i64 (s.most y)] 377)=w1 at *
 obtain ⟨⟨hN,hRl,hRr⟩,_⟩:=(Qda c _).1 k.tr.rep
 have hlen:=k.tr.len
 rw [(Qcv c _).length_eq] at hlen
 simp only [T.ls,List.length_append,List.length_cons] at hlen
 have hll:=l.Qb9.length_eq
 have hrl:=r.Qb9.length_eq
 have hil:i<l.seq.length+(r.seq.length+1):=by
  have:=(List.getElem?_eq_some_iff.1 hi).1
  simpa using this
 have fin1:∀w2,Chg (·=a) w w2→Row w2.heap p 341 [.pointer (some ⟨F,0,none⟩)]→Row w2.heap a 3 [.int .i64 i]→i≤l.seq.length→(a≠p→Say z (IAt F p a z) l.seq y r.seq ((i:Int)-l.seq.length) w2):=by
  intro w2 _ hp2 ha2 hle _
  by_cases e:i=l.seq.length
  ·refine .inr (.inl ⟨?_,by omega⟩)
   rw [List.getElem?_append_right (by omega)] at hi
   simp [e] at hi;exact hi.symm
  ·rw [List.getElem?_append_left (by omega)] at hi
   exact .inl ⟨List.mem_of_getElem? hi,by omega,hp2,i,ha2,hi⟩
 have fin2:∀w2,Row w2.heap p 341 [.pointer (some ⟨F,0,none⟩)]→Row w2.heap a 3 [.int .i64 ((i:Int)-(l.seq.length+1))]→¬i≤l.seq.length→Say z (IAt F p a z) l.seq y r.seq 1 w2:=by
  intro w2 hp2 ha2 hle
  rw [List.getElem?_append_right (by omega)] at hi
  have e:i-l.seq.length=(i-(l.seq.length+1))+1:=by omega
  rw [e,List.getElem?_cons_succ] at hi
  refine .inr (.inr ⟨List.mem_of_getElem? hi,by omega,hp2,i-(l.seq.length+1),?_,hi⟩)
  have:((i-(l.seq.length+1):Nat):Int)=(i:Int)-(l.seq.length+1):=by omega
  rw [this];exact ha2
 refine Zlm hrow rfl ?_
 refine Qac (fun hc=>?_) (fun hc=>?_)<;>simp only [b1s] at hc
 ·have hl':l.rt≠-1:=by rw [←hN.left];exact hc
  obtain ⟨yl,hyl⟩:∃u:Nat,l.rt=u:=by
   rcases Qcl l with e | ⟨u,e,_⟩
   ·exact absurd e hl'
   ·exact ⟨u,e⟩
  have hyn:yl<n:=k.tr.bd yl (by rw [(Qcv c _).mem_iff];have:=Qaq hyl.symm;simp [T.ls,this])
  have hag:=(hRl.root hyl.symm).2.1
  have hleft:s.left y=yl:=by rw [hN.left,hyl]
  have hyy:(yl:Int).toNat=yl:=by omega
  have hsz:s.size (yl:Int).toNat=l.seq.length:=by rw [hyy,hag.size,hll]
  refine pt_i (Qav hp.drew rfl (pt_i (Qdx hst.drew ?_)))
  refine Zlm hrow.drew rfl ?_
  rw [hleft]
  repeat (first | (with_reducible first | refine pt_i ?_ | refine gF ?_ | refine Qa1 (by omega) (by omega) ?_ | refine g0 ?_ | refine g1 ?_ | refine g2 ?_ | refine g3 ?_ | refine g4 ?_ | refine g5 ?_ | refine g6 ?_ | refine g7 ?_ | refine g8 ?_ | refine s0 fun _ hst=>?_ | refine s1 fun _ hst=>?_ | refine s2 fun _ hst=>?_ | refine s3 fun _ hst=>?_ | refine s4 fun _ hst=>?_ | refine s5 fun _ hst=>?_ | refine s6 fun _ hst=>?_ | refine s7 fun _ hst=>?_ | refine s8 fun _ hst=>?_) | simp only [projS,Qab])
  rw [hsz,wrap64_in (by omega) (by omega)]
  refine Qaf ha.drew rfl ?_
  refine Qac (fun h1=>?_) (fun h1=>?_)<;>simp only [b1s] at h1
  ·refine pt_i ?_
   refine Qaf ha.drew rfl ?_
   rw [wrap64_in (by omega) (by omega)]
   exact ⟨_,rfl,hch.drew,fin1 _ hch.drew hp.drew ha.drew (by omega)⟩
  ·refine pt_i ?_
   refine Qaf ha.drew rfl ?_
   refine pt_i ?_
   rw [wrap64_in (x:=(l.seq.length:Int)+1) (by omega) (by omega),wrap64_in (by omega) (by omega)]
   refine Qbg ha.drew (by simp) rfl fun hr2=>?_
   exact ⟨1,rfl,hch.drew.setCell _ _ (.inl rfl),fun hne=>fin2 _ (hp.drew.Qdk _ _ hne) hr2 (by omega)⟩
 ·have hl:l=.nil:=by
   cases l with
   | nil=>rfl
   | node=>rw [hN.left] at hc;simp [T.rt] at hc
  have hl0:l.seq.length=0:=by rw [hl];rfl
  refine pt_i ?_
  refine Qaf ha rfl ?_
  refine Qac (fun h1=>?_) (fun h1=>?_)<;>simp only [b1s] at h1
  ·refine pt_i ?_
   refine Qaf ha rfl ?_
   rw [wrap64_in (by omega) (by omega)]
   have:=fin1 _ hch hp ha (by omega)
   rw [hl0] at this
   exact ⟨_,rfl,hch,this⟩
  ·refine pt_i ?_
   refine Qaf ha rfl ?_
   refine pt_i ?_
   rw [wrap64_in (by omega) (by omega)]
   refine Qbg ha (by simp) rfl fun hr2=>?_
   have:=fun hne=>fin2 _ (hp.Qdk ⟨a,0,none⟩ (.int .i64 ((i:Int)-1)) hne) (by rw [hl0];exact hr2) (by omega)
   exact ⟨1,rfl,hch.setCell _ _ (.inl rfl),this⟩
theorem Zcg {P:Program} {E:List FuncId} {g:FuncId} {first cap:Array Value} {args:List Value} {w:World} {X:Ending→World→Prop} (h:E.contains g=true) (k:Calls P g ((first.toList++args)++cap.toList).toArray w X) :
  dcv P E (.func (.func g) first cap) args w X:=by unfold dcv;simp only [h,cond_true];exact k
theorem Zjt {w₀ w:World} {s:S} {t:T} {ts:List T} {f:FuncId} {c1 c2:Nat} {x z:Nat} {I:List Nat→World→Prop} (hE:Eall.contains f=true)
  (hst:St w₀ w F L n s) (k:Fo n s v (t::ts)) (hx:t.rt=x) (hz:z∈t.ls) (hI:I t.seq w) (h1:w₀.heap.size≤c2)
  (stab:∀q w' w'',I q w'→Chg (·=L) w' w''→I q w'')
  (hto:∀c l y r s' w',IsF w'.heap F L n s'→Fo n s' v (plug c (.node l y false r)::ts)→z∈(T.node l y false r).ls→I (T.node l y false r).seq w'→
   Calls Pg f #[recV s' y,.pointer (some ⟨c1,0,none⟩),.pointer (some ⟨c2,0,none⟩)] w' fun e w''=>∃d:Int,e=.returned (.int .i64 d)∧Chg (·=c2) w' w''∧Say z I l.seq y r.seq d w'') :
  Calls Pg 308 #[.pointer (some ⟨F,0,none⟩),.int .i32 x,.func (.func f) #[] #[.pointer (some ⟨c1,0,none⟩),.pointer (some ⟨c2,0,none⟩)]] w fun e w'=>e=.returned (.int .i64 z)∧AS w₀ w' F L n v (t.seq::ts.map T.seq):=by
 refine (Zme (base:=w₀.heap.size) (I:=I) hst.i k hx hz hI hst.lt.1 hst.lt.2 stab ?_ hst.c.size).mono ?_
 ·intro c l y r s' w' hi' k' hb' hs' hz' hI'
  refine Zcg hE ?_
  refine (hto c l y r s' w' hi' k' hz' hI').mono ?_
  rintro e w'' ⟨d,rfl,hc,hs⟩
  refine ⟨d,rfl,hc.mono (fun j _ e=>by subst e;exact h1),?_⟩
  rcases hs with ⟨a,b,c⟩ | ⟨a,b⟩ | ⟨a,b,c⟩
  ·exact .inl ⟨Qb2.1 a,b,c⟩
  ·exact .inr (.inl ⟨a,b⟩)
  ·exact .inr (.inr ⟨Qb2.1 a,b,c⟩)
 ·rintro e w' ⟨rfl,s',t',hi',hc',k',hs'⟩
  refine ⟨rfl,s',t'::ts,⟨hi',hst.c.trans' hc' (fun i h=>h),hst.lt⟩,k',?_⟩
  rw [List.map_cons,hs']
theorem c_At {x:Nat} {i:Int} (h:AF w.heap F L n v (A::q)) (hx:x∈A) (hi:-9223372036854775808≤i∧i≤9223372036854775807) :
  Calls Pg 293 #[.pointer (some ⟨F,0,none⟩),.int .i64 x,.int .i64 i] w fun e w'=>
   (∃z:Nat,0≤i∧A[i.toNat]?=some z∧e=.returned (.tuple #[.int .i64 z,errV 0])∨¬(0≤i∧i<A.length)∧e=.returned (.tuple #[.int .i64 0,errV 1]))∧AS w w' F L n v (A::q):=by
 obtain ⟨hnd,hlt,_,_,hn,_⟩:=h.nodup
 have hxn:=hlt A (by simp) x hx
 have hlts:=h.lt
 refine (Qg6 _ _ _).go ?_
 unfold Qgr nr
 refine Qal fun hp=>Qal fun ha=>?_
 refine Qav (hp.alloc _) rfl ?_
 refine (Q4r ((h.alloc _).alloc _) hx).mono ?_
 rintro e w4 ⟨rfl,s,l,r,ts,hst,k,hs,hpm⟩
 refine ⟨_,_,rfl,Qaj (fun e=>absurd rfl e) (fun _=>?_)⟩
 have hs0:w.heap.size+1=(w.alloc (.cells #[.pointer (some ⟨F,0,none⟩)] 341)).heap.size:=by show _=(w.heap.push _).size;simp
 have hp4:=hst.c.row (show ¬w.heap.size=L by omega) (hp.alloc _)
 have ha4:=hst.c.row (show ¬_=L by rw [←hs0];omega) ha
 rw [←hs0] at ha4 ⊢
 have hst0:St w w4 F L n s:=⟨hst.i,(((Chg.refl _ w).alloc _).alloc _).trans hst.c,hlts⟩
 have has:=AS.of hst0 k hs hpm
 have hxx:(x:Int).toNat=x:=by omega
 have hlen:s.size x=A.length:=by
  rw [k.tr.rep.1.agg.size,←hs]
  have h1:=l.Qb9.length_eq
  have h2:=r.Qb9.length_eq
  simp [h1,h2]
 have hA:A.length≤8388608:=by
  have hl:=k.tr.len
  rw [←hs]
  have h1:=l.Qb9.length_eq
  have h2:=r.Qb9.length_eq
  simp [T.ls] at hl
  simp [h1,h2];omega
 refine Qaf ha4.drew rfl ?_
 refine Qac (fun h1=>?_) (fun h1=>?_)<;>simp only [b1s] at h1
 ·exact ⟨⟨0,.inr ⟨by omega,rfl⟩⟩,has.drew⟩
 ·refine Qaf ha4.drew rfl ?_
  have hst:=hst0.drew
  have hp4:=hp4.drew
  have ha4:=ha4.drew
  have has:=has.drew
  generalize w4.drew=w5 at *
  repeat (first | (with_reducible first | refine pt_i ?_ | refine gF ?_ | refine Qa1 (by omega) (by omega) ?_ | refine g0 ?_ | refine g1 ?_ | refine g2 ?_ | refine g3 ?_ | refine g4 ?_ | refine g5 ?_ | refine g6 ?_ | refine g7 ?_ | refine g8 ?_ | refine s0 fun _ hst=>?_ | refine s1 fun _ hst=>?_ | refine s2 fun _ hst=>?_ | refine s3 fun _ hst=>?_ | refine s4 fun _ hst=>?_ | refine s5 fun _ hst=>?_ | refine s6 fun _ hst=>?_ | refine s7 fun _ hst=>?_ | refine s8 fun _ hst=>?_) | simp only [projS,Qab])
  rw [hxx,hlen,wrap64_in (by omega) (by omega)]
  refine Qac (fun h2=>?_) (fun h2=>?_)<;>simp only [b1s] at h2
  ·exact ⟨⟨0,.inr ⟨by omega,rfl⟩⟩,has⟩
  ·refine Qav hp4 rfl ?_
   rw [wrap32_in (by omega) (by omega)]
   have hiA:i.toNat<A.length:=by omega
   obtain ⟨z,hz⟩:∃z,A[i.toNat]?=some z:=⟨_,List.getElem?_eq_getElem hiA⟩
   have hzA:=List.mem_of_getElem? hz
   have hseq:(T.node l x false r).seq=A:=by simpa [T.seq] using hs
   refine (Zjt (by kernel_rfl) (I:=IAt F w.heap.size (w.heap.size+1) z) hst k rfl (Qb2.1 (by rw [hseq];exact hzA)) ?_ (by omega) ?_ ?_).mono ?_
   ·rw [hseq]
    refine ⟨hp4,i.toNat,?_,hz⟩
    have:(i.toNat:Int)=i:=by omega
    rw [this];exact ha4
   ·rintro q w' w'' ⟨h1,i,h2,h3⟩ hc
    exact ⟨hc.row (show ¬_=L by omega) h1,i,hc.row (show ¬_=L by omega) h2,h3⟩
   ·intro c l y r s' w' hi' k' hz' hI'
    refine (Zmh hi' k' (by simpa [T.seq] using hI')).mono ?_
    rintro e w'' ⟨d,rfl,hc,hs⟩
    exact ⟨d,rfl,hc,hs (by omega)⟩
   ·rintro e w' ⟨rfl,hA'⟩
    refine ⟨_,rfl,⟨z,.inl ⟨by omega,hz,rfl⟩⟩,?_⟩
    rw [hseq] at hA'
    exact hA'.perm (hpm.symm.cons _)
end
end Seq
end Go.Proofs.YtfeekmmfdkfgmaaGreatDoor
namespace Go.Proofs.YtfeekmmfdkfgmaaGreatDoor
open Go
namespace Seq
section
variable {w:World} {F L n:Nat} {v:Nat→Int} {q:List (List Nat)} {A B:List Nat} {a b x:Nat}
end
end Seq
end Go.Proofs.YtfeekmmfdkfgmaaGreatDoor
