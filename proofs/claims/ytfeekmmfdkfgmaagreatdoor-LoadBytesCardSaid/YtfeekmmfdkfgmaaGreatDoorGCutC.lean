/-
The trees of layer 6: 'lift' walked.
Conditions: a tree that stands in the records.
-/
import Derived.Test.YtfeekmmfdkfgmaaGreatDoorGCutB
import Derived.Test.YtfeekmmfdkfgmaaGreatDoorCutB
import Derived.Test.YtfeekmmfdkfgmaaGreatDoorGLift
import Derived.Test.YtfeekmmfdkfgmaaGreatDoorHsh
import Derived.RangeFuncFrom
import Derived.RangeFuncLeaves
set_option linter.unusedVariables false
set_option linter.unusedSimpArgs false
namespace Go.Proofs.YtfeekmmfdkfgmaaGreatDoor
open Go
namespace Cut
open Go.Proofs.YtfeekmmfdkfgmaaGreatDoor.Seq
section
variable {w₀ w:World} {F L n:Nat} {s:S} {v:Nat→Int} {t l r:T} {x:Nat} {b:Bool} {q:Int} {f:Fr} {c:List Fr} {ρ:List Nat}
theorem Zk1 (k:Tq n s v q (.node l x b r)):tp s x=true:=by
 have hu:s.up x=q:=k.rep.1.up
 have ex:(x:Int).toNat=x:=rfl
 unfold tp
 rw [ex,hu]
 rcases k.qc with h | h
 ·simp [h]
 ·have:=h x (by simp [T.ls])
  simp [this.1,this.2]
theorem Q38 {y:Nat} (h:Pth t x (y::ρ)):t.rt=y∧∃l b r,t=.node l y b r:=by
 cases h<;>exact ⟨rfl,_,_,_,rfl⟩
theorem Zk5 (h:Pth t x ρ):∀{p:Int},Rep s v p t→∀ρ1 z y ρ2,ρ=ρ1++z::y::ρ2→s.left z=y∨s.right z=y:=by
 induction h with
 | here=>
  intro p _ ρ1 z y ρ2 e
  have:=congrArg List.length e
  simp at this;omega
 | lf h ih=>
  intro p hR ρ1 z y ρ2 e
  cases ρ1 with
  | nil=>
   simp only [List.nil_append,List.cons.injEq] at e
   obtain ⟨rfl,rfl⟩:=e
   exact .inl (by rw [hR.1.left];exact (Q38 h).1)
  | cons a ρ1=>
   simp only [List.cons_append,List.cons.injEq] at e
   exact ih hR.2.1 ρ1 z y ρ2 e.2
 | rg h ih=>
  intro p hR ρ1 z y ρ2 e
  cases ρ1 with
  | nil=>
   simp only [List.nil_append,List.cons.injEq] at e
   obtain ⟨rfl,rfl⟩:=e
   exact .inr (by rw [hR.1.right];exact (Q38 h).1)
  | cons a ρ1=>
   simp only [List.cons_append,List.cons.injEq] at e
   exact ih hR.2.2 ρ1 z y ρ2 e.2
theorem Zia {y:Nat} {ρ1 ρ2:List Nat} (k:Tq n s v q t) (h:Pth t x ρ) (e:ρ=ρ1++y::ρ2):(ρ1=[]→tp s y=true)∧∀(ρ':List Nat) (z:Nat),ρ1=ρ'++[z]→tp s y=false∧s.up y=z:=by
 have ey:(y:Int).toNat=y:=rfl
 refine ⟨fun h0=>?_,fun ρ' z hz=>?_⟩
 ·subst h0
  rw [List.nil_append] at e
  subst e
  obtain ⟨_,l,b,r,rfl⟩:=Q38 h
  exact Zk1 k
 ·have hu:s.up y=z:=by rw [h.up k.rep ρ1 y ρ2 e,hz,Q4y]
  have hd:=Zk5 h k.rep ρ' z y ρ2 (by rw [e,hz];simp)
  refine ⟨?_,hu⟩
  have ez:(z:Int).toNat=z:=rfl
  have hz1:((z:Int)==-1)=false:=by simp
  unfold tp
  rw [ey,hu,ez,hz1]
  rcases hd with h | h<;>simp [h]
theorem Q0s (k:Tq n s v q (plug (f::c) (.node l x false r))) :
  s.up x=f.p∧s.up f.p=par q c∧s.left x=l.rt∧s.right x=r.rt∧x<n∧f.p<n∧x≠f.p∧(s.right f.p=x↔f.d=false)∧tp s x=false∧
  ((par (-1) c=-1∧tp s f.p=true)∨(par (-1) c=par q c∧par (-1) c≠-1∧tp s f.p=false))∧par (-1) c≠x∧par (-1) c≠f.p∧(par (-1) c≠-1→(s.right (par (-1) c).toNat=f.p↔¬s.left (par (-1) c).toNat=f.p))∧
  (s.left x≠x∧s.right x≠x∧s.left x≠f.p∧s.right x≠f.p)∧(if f.d then s.right f.p else s.left f.p)≠f.p∧(if f.d then s.right f.p else s.left f.p)≠x:=by
 have hnd:=(Qcv (f::c) (.node l x false r)).nodup_iff.1 k.nd
 have hmem:∀y,y∈(T.node l x false r).ls++cls (f::c)→y∈(plug (f::c) (.node l x false r)).ls:=fun y hy=>(Qcv (f::c) _).mem_iff.2 hy
 have hxn:x<n:=k.bd x (hmem x (by simp [T.ls]))
 have hpn:f.p<n:=k.bd f.p (hmem f.p (by simp [cls]))
 simp only [T.ls,cls,List.append_assoc,List.cons_append,List.nodup_append,List.nodup_cons,List.mem_append,List.mem_cons,not_or] at hnd
 obtain ⟨⟨hX,hl,hr⟩,hNF,hsib,hC⟩:=(Qda (f::c) _).1 k.rep
 simp only [par] at hX hl hr
 obtain ⟨ndl,⟨⟨hxr,hxp,hxs,hxc⟩,ndr,⟨⟨hps,hpc⟩,nds,ndc',dsc⟩,drest⟩,dlrest⟩:=hnd
 have hlx:l.rt≠(x:Int):=fun e=>dlrest x (Qaq e.symm) x (.inl rfl) rfl
 have hlp:l.rt≠(f.p:Int):=fun e=>dlrest f.p (Qaq e.symm) f.p (.inr (.inr (.inl rfl))) rfl
 have hrx:r.rt≠(x:Int):=fun e=>hxr (Qaq e.symm)
 have hrp:r.rt≠(f.p:Int):=fun e=>drest f.p (Qaq e.symm) f.p (.inl rfl) rfl
 have hsx:f.sib.rt≠(x:Int):=fun e=>hxs (Qaq e.symm)
 have hsp:f.sib.rt≠(f.p:Int):=fun e=>hps (Qaq e.symm)
 have ex:(x:Int).toNat=x:=rfl
 have ep:(f.p:Int).toNat=f.p:=rfl
 have hp1:((f.p:Int)==-1)=false:=by simp
 have hF:s.up f.p=par q c∧(f.d=true→s.left f.p=x∧s.right f.p=f.sib.rt)∧(f.d=false→s.left f.p=f.sib.rt∧s.right f.p=x):=by
  unfold NdF at hNF
  cases hd:f.d<;>simp only [hd,if_true,Bool.false_eq_true,if_false] at hNF
  ·exact ⟨hNF.up,fun h=>(by cases h),fun _=>⟨hNF.left,by rw [hNF.right];rfl⟩⟩
  ·exact ⟨hNF.up,fun _=>⟨by rw [hNF.left];rfl,hNF.right⟩,fun h=>(by cases h)⟩
 obtain ⟨hFu,hFt,hFf⟩:=hF
 have htx:tp s x=false:=by
  unfold tp
  rw [ex,hX.up,ep,hp1]
  cases hd:f.d
  ·simp [(hFf hd).2]
  ·simp [(hFt hd).1]
 have hgx:par (-1) c≠x:=by
  rcases Qdd (-1) c with h | ⟨y,h,hy⟩
  ·omega
  ·rw [h];intro e;have:y=x:=by omega
   subst this;exact hxc hy
 have hgp:par (-1) c≠f.p:=by
  rcases Qdd (-1) c with h | ⟨y,h,hy⟩
  ·omega
  ·rw [h];intro e;have:y=f.p:=by omega
   subst this;exact hpc hy
 refine ⟨hX.up,hFu,hX.left,hX.right,hxn,hpn,hxp,?_,htx,?_,hgx,hgp,?_,⟨by rw [hX.left];exact hlx,by rw [hX.right];exact hrx,by rw [hX.left];exact hlp,by rw [hX.right];exact hrp⟩,?_,?_⟩
 ·cases hd:f.d
  ·simp [(hFf hd).2]
  ·rw [(hFt hd).2];simp [hsx]
 ·cases c with
  | nil=>
   refine .inl ⟨rfl,?_⟩
   unfold tp
   rw [ep,hFu]
   rcases k.qc with h | h
   ·simp [par,h]
   ·have:=h f.p (hmem f.p (by simp [cls]))
    simp [par,this.1,this.2]
  | cons g c=>
   refine .inr ⟨rfl,by simp [par],?_⟩
   have eg:(g.p:Int).toNat=g.p:=rfl
   have hg1:((g.p:Int)==-1)=false:=by simp
   unfold tp
   rw [ep,hFu]
   simp only [par]
   rw [eg,hg1]
   have hG:=hC.1
   unfold NdF at hG
   cases hd:g.d<;>simp only [hd,if_true,Bool.false_eq_true,if_false] at hG
   ·simp [hG.right,Qep]
   ·simp [hG.left,Qep]
 ·intro hne
  cases c with
  | nil=>exact absurd rfl hne
  | cons g c=>
   have eg:(g.p:Int).toNat=g.p:=rfl
   simp only [par]
   rw [eg]
   have hgs:g.sib.rt≠(f.p:Int):=fun e=>hpc (by simp [cls,Qaq e.symm])
   have hG:=hC.1
   unfold NdF at hG
   cases hd:g.d<;>simp only [hd,if_true,Bool.false_eq_true,if_false] at hG
   ·rw [hG.right,hG.left,Qep];simp [hgs]
   ·rw [hG.right,hG.left,Qep];simp [hgs]
 ·cases hd:f.d
  ·simp [(hFf hd).1,hsp]
  ·simp [(hFt hd).2,hsp]
 ·cases hd:f.d
  ·simp [(hFf hd).1,hsx]
  ·simp [(hFt hd).2,hsx]
theorem Q27 (h:IsF w.heap F L n s) (k:Tq n s v q (plug (f::c) (.node l x false r))) (hb:f.b=false) :
  Calls Pg 285 #[.pointer (some ⟨F,0,none⟩),.int .i32 x] w fun e w'=>e=.returned (.tuple #[])∧∃s',St w w' F L n s'∧Gq q s v (plug (f::c) (.node l x false r)) s' (plug c (rotT f l x r)):=by
 obtain ⟨h1,h2,h3,h4,h5,h6,h7,h8,_,h10,h11,h12,h13,h14,h15,h16⟩:=Q0s k
 refine (Qrb (g:=par q c) (gg:=par (-1) c) (d:=f.d) h h5 h6 h7 h1 h2 k.wf h8 h10 h11 h12 h13 h14 h15 h16).mono ?_
 rintro e w' ⟨rfl,s4,RL,hst⟩
 rw [h3,h4] at RL
 exact ⟨rfl,_,hst,Zlx k hb RL⟩
theorem Zaf {g:Fr} (h:IsF w.heap F L n s) (k:Tq n s v q (plug (f::g::c) (.node l x false r))) (hf:f.b=false) (hg:g.b=false) (hd:g.d=f.d) :
  Calls Pg 285 #[.pointer (some ⟨F,0,none⟩),.int .i32 f.p] w fun e w'=>e=.returned (.tuple #[])∧∃s',St w w' F L n s'∧∃f':Fr,f'.b=false∧Gq q s v (plug (f::g::c) (.node l x false r)) s' (plug (f'::c) (.node l x false r)):=by
 have e:plug (f::g::c) (.node l x false r)=plug (g::c) (f.fill (.node l x false r)):=rfl
 rw [e] at k ⊢
 unfold Fr.fill at k ⊢
 rw [hf] at k ⊢
 cases hfd:f.d<;>simp only [hfd,if_true,Bool.false_eq_true,if_false] at k ⊢
 ·refine (Q27 h k hg).mono ?_
  rintro e w' ⟨rfl,s',hst,hq⟩
  unfold rotT at hq
  rw [hd,hfd] at hq
  exact ⟨rfl,s',hst,⟨false,f.p,false,.node g.sib g.p false f.sib⟩,rfl,hq⟩
 ·refine (Q27 h k hg).mono ?_
  rintro e w' ⟨rfl,s',hst,hq⟩
  unfold rotT at hq
  rw [hd,hfd] at hq
  exact ⟨rfl,s',hst,⟨true,f.p,false,.node f.sib g.p false g.sib⟩,rfl,hq⟩
end
end Cut
end Go.Proofs.YtfeekmmfdkfgmaaGreatDoor
namespace Go.Proofs.YtfeekmmfdkfgmaaGreatDoor
open Go Go.RowKit
namespace Cut
open Go.Proofs.YtfeekmmfdkfgmaaGreatDoor.Seq
theorem Q9p {w:World} {b:Option Addr} {l c:Nat} :
  Calls Pg 282 #[.slice b l c] w fun e w'=>e=.returned (.func (.func 307) #[] #[.pointer (some ⟨w.heap.size,0,none⟩)])∧w'=w.alloc (.cells #[.slice b l c] 59):=by
 refine (Qin _ _ _).go ?_
 unfold Qec nr
 exact ⟨rfl,rfl⟩
theorem Q39 {w:World} {base g:Nat} {e:TypeId} {x:Value} (h:Row w.heap g e [x]) (hb:base≤g):Own w base e 1 (some ⟨g,0,none⟩) 1 1 [x]:=by
 refine ⟨rfl,.inr ⟨g,1,#[x],rfl,hb,h,by decide,by decide,rfl,rfl⟩⟩
section
variable {w₀ w:World} {F L n:Nat} {s:S} {v:Nat→Int} {t:T} {x:Nat} {q:Int} {ρ:List Nat}
def rv (ρ:List Nat):List Value:=ρ.reverse.map fun z:Nat=>.int .i32 z
theorem Qw2 (h:IsF w.heap F L n s) (k:Tq n s v q t) (hρ:Pth t x ρ) :
  Qf7 (some ⟨F,0,none⟩) x w fun v' w'=>∃Bs g c,v'=.tuple #[.func (.func 307) #[] #[.pointer (some ⟨Bs,0,none⟩)],.pointer (some ⟨w.heap.size,0,none⟩),.int .i32 x,.pointer (some ⟨F,0,none⟩)]∧
   w.heap.size<Bs∧w.heap.size<g∧Row w'.heap Bs 59 [.slice (some ⟨g,0,none⟩) ρ.length c]∧(∃cs,Row w'.heap g 21 cs∧∀j,j<ρ.length→cs[j]?=(rv ρ)[j]?)∧
   Row w'.heap w.heap.size 130 [.pointer (some ⟨F,0,none⟩)]∧St w w' F L n s:=by
 have hst:=St.start h
 have hlen:=k.len
 have hρl:=hρ.len
 have hρn:∀y∈ρ,y<n:=fun y hy=>k.bd y (hρ.sub y hy)
 unfold Qf7
 refine Qal fun hbx=>?_
 have hst1:=hst.alloc (.cells #[.pointer (some ⟨F,0,none⟩)] 130)
 have hsz1:(w.alloc (.cells #[.pointer (some ⟨F,0,none⟩)] 130)).heap.size=w.heap.size+1:=by show (w.heap.push _).size=_;simp
 generalize w.alloc (.cells #[.pointer (some ⟨F,0,none⟩)] 130)=w3 at *
 refine Qal fun hrow=>?_
 rw [hsz1] at hrow ⊢
 have hst2:=hst1.alloc (.cells #[.int .i32 x] 21)
 replace hbx:=hbx.alloc (.cells #[.int .i32 x] 21)
 have hown:Own (w3.alloc (.cells #[.int .i32 x] 21)) (w.heap.size+1) 21 1 (some ⟨w.heap.size+1,0,none⟩) 1 1 [.int .i32 x]:=Q39 hrow (Nat.le_refl _)
 obtain ⟨ρ0,hρ0⟩:∃ρ0,ρ=ρ0++[x]:=by
  rcases List.eq_nil_or_concat ρ with rfl | ⟨a,z,rfl⟩
  ·exact absurd rfl hρ.ne
  ·have:=hρ.last
   simp at this;subst this;exact ⟨a,by simp⟩
 let J1:Nat→List Value→World→Prop:=fun j vs w'=>∃ρ1 y ρ2 b l c,vs=[.slice b l c,.int .i32 (y:Nat)]∧ρ=ρ1++y::ρ2∧j=ρ1.length∧l=ρ2.length+1∧
  Own w' (w.heap.size+1) 21 1 b l c (rv (y::ρ2))∧Row w'.heap w.heap.size 130 [.pointer (some ⟨F,0,none⟩)]∧St w w' F L n s
 refine ⟨LI J1,LM J1,⟨ρ0.length,ρ0,x,[],_,_,_,rfl,hρ0,rfl,rfl,hown,hbx,hst2⟩,?_⟩
 clear hst2 hown hrow hst1 hbx
 intro _ s8b s8l s8c n9 w10 hI
 obtain ⟨ρ1,y,ρ2,b,l,c,hvs,hρ12,hj,hl,hown,hbx,hst10⟩:=hI.at
 simp only [vk] at hvs
 obtain ⟨⟨rfl,rfl,rfl⟩,rfl⟩:=hvs
 obtain ⟨ht0,ht1⟩:=Zia k hρ hρ12
 have hyn:y<n:=hρn y (by rw [hρ12];simp)
 refine Qav hbx rfl ?_
 refine (Q4r hst10.i (by omega) (by omega) k.wf).mono ?_
 rintro e w13 ⟨rfl,rfl⟩
 refine ⟨_,rfl,Qac (fun hc=>?_) (fun hc=>?_)⟩
 ·simp only [b1s] at hc
  obtain ⟨ρ1',z,rfl⟩:∃ρ1' z,ρ1=ρ1'++[z]:=by
   rcases List.eq_nil_or_concat ρ1 with rfl | ⟨a,z,rfl⟩
   ·rw [ht0 rfl] at hc;cases hc
   ·exact ⟨a,z,by simp⟩
  obtain ⟨_,hup⟩:=ht1 ρ1' z rfl
  have eyy:(y:Int).toNat=y:=rfl
  refine Qav hbx rfl (pt_i (Qdx hst10 (Qa1 (by omega) (by omega) (Qyt hst10 (by omega) ?_))))
  rw [eyy,hup]
  refine Qal fun hrow=>?_
  have hlr:ρ2.length≤8388608:=by
   have:ρ.length=ρ1'.length+1+1+ρ2.length:=by rw [hρ12];simp;omega
   omega
  have hsz10:=hst10.c.size
  have hbl:w.heap.size<w13.heap.size:=hbx.lt
  subst hl
  obtain ⟨b',c',w23,hrun,hown',hchg⟩:=Q20 (ty:=59) Q0x (hown.alloc _) hrow rfl (fun u hu=>by simp at hu;subst hu;rfl)
   (by show w.heap.size+1≤(w13.heap.push _).size;simp;omega) (by omega) (by omega)
  refine ⟨b',ρ2.length+1+1,c',w23,hrun,?_⟩
  have hst23:=(hst10.alloc (.cells #[.int .i32 z] 21)).own (hchg.mono (fun i _ hi=>by omega))
  have hbx23:=hchg.row (by omega) (hbx.alloc (.cells #[.int .i32 z] 21))
  refine Qav hbx23 rfl (pt_i (Qdx hst23 (Qa1 (by omega) (by omega) (Qyt hst23 (by omega) ?_))))
  rw [eyy,hup]
  refine LI.again (k:=ρ1'.length) ⟨ρ1',z,y::ρ2,b',_,c',rfl,by rw [hρ12];simp,rfl,by simp,?_,hbx23,hst23⟩ (by rw [hj];simp)
  have e:rv (z::y::ρ2)=rv (y::ρ2)++[.int .i32 z]:=by simp [rv]
  rw [e]
  exact hown'
 ·simp only [b1s] at hc
  obtain rfl:ρ1=[]:=by
   rcases List.eq_nil_or_concat ρ1 with rfl | ⟨a,z,rfl⟩
   ·rfl
   ·rw [(ht1 a z (by simp)).1] at hc;cases hc
  rw [List.nil_append] at hρ12
  rw [←hρ12] at hown
  have hll:s8l=ρ.length:=by rw [hl,hρ12];simp
  subst hll
  obtain ⟨g,cs,rfl,hgb,hgr,hgx,_,_⟩:=hown.get (by rw [hρ12];simp)
  refine Q9p.mono ?_
  rintro e w30 ⟨rfl,rfl⟩
  have hbl:w.heap.size<w13.heap.size:=hbx.lt
  refine ⟨_,rfl,w13.heap.size,g,s8c,rfl,hbl,by omega,Row.new _ _ _,⟨cs,hgr.alloc _,fun j hj=>Qi9 hgx (by omega)⟩,hbx.alloc _,hst10.alloc _⟩
theorem Zjs {w₁:World} {s2:S} {c2:List Fr} {l2 r2:T} {Bx:Nat} {R:World→Prop} {p0:Option Addr} (k:Tq n s v q t) (hst:St w w₁ F L n s2) (hgd:Gq q s v t s2 (plug c2 (.node l2 x false r2))) (hcl:Seq.Clean c2) (hx:x<n) (hbx:Row w₁.heap Bx 130 [.pointer (some ⟨F,0,none⟩)]) (hBL:Bx≠L)
  (hR:∀w' s' l r,St w w' F L n s'→Chg (·=L) w₁ w'→Gq q s v t s' (.node l x false r)→R w') :
  Qf6 p0 x (some ⟨Bx,0,none⟩) w₁ fun _ w'=>R w':=by
 unfold Qf6
 have hLb:=hst.i.l.lt
 let J3:Nat→List Value→World→Prop:=fun j vs w'=>vs=[]∧∃s' c l r,Seq.Clean c∧j=c.length∧St w w' F L n s'∧Chg (·=L) w₁ w'∧Gq q s v t s' (plug c (.node l x false r))
 refine ⟨LI J3,LM J3,⟨_,rfl,s2,c2,l2,r2,hcl,rfl,hst,Chg.refl _ _,hgd⟩,?_⟩
 intro _ w5 hI3
 obtain ⟨_,s3,c3,l3,r3,hcl3,hj3,hst5,hc5,hgd3⟩:=hI3.at
 have hbx5:=hc5.row hBL hbx
 have htr:=hgd3.tq k
 have ex:(x:Int).toNat=x:=rfl
 refine pt_i (Qav hbx5 rfl ?_)
 refine (Q4r hst5.i (by omega) (by omega) htr.wf).mono ?_
 rintro e w9 ⟨rfl,rfl⟩
 refine ⟨_,rfl,?_⟩
 cases c3 with
 | nil=>
  rw [Zk1 htr]
  exact Qac (fun h=>by cases h) (fun _=>hR _ _ _ _ hst5 hc5 hgd3)
 | cons f c3=>
  obtain ⟨hup,hupp,_,_,_,hfp,_,hside,htx,htp,_⟩:=Q0s htr
  rw [htx]
  have hfb:f.b=false:=hcl3 f (by simp)
  refine Qac (fun _=>?_) (fun h=>by cases h)
  refine pt_i (Qav hbx5 rfl (pt_i (Qdx hst5 (Qa1 (by omega) (by omega) (Qyt hst5 hx ?_)))))
  rw [ex,hup]
  refine pt_i (Qav hbx5 rfl ?_)
  refine (Q4r hst5.i (by omega) (by omega) htr.wf).mono ?_
  rintro e w20 ⟨rfl,rfl⟩
  refine ⟨_,rfl,?_⟩
  cases c3 with
  | nil=>
   rcases htp with ⟨_,h⟩ | ⟨_,h,_⟩
   case inr=>simp [par] at h
   rw [h]
   refine Qac (fun h=>by cases h) (fun _=>?_)
   refine pt_i (Qav hbx5 rfl ?_)
   refine (Q27 hst5.i htr hfb).mono ?_
   rintro e w50 ⟨rfl,s',hst',hg⟩
   refine ⟨rfl,?_⟩
   obtain ⟨l',r',hsh⟩:=Qha f l3 r3 x
   rw [hsh] at hg
   exact LI.again (k:=0) ⟨rfl,_,[],l',r',(fun f hf=>by cases hf),rfl,hst5.trans hst',hc5.trans hst'.c,hgd3.trans hg⟩ (by rw [hj3];simp only [List.length_cons];omega)
  | cons g c3=>
   have hgb:g.b=false:=hcl3 g (by simp)
   rcases htp with ⟨h,_⟩ | ⟨_,_,h⟩
   ·simp [par] at h
   rw [h]
   refine Qac (fun _=>?_) (fun h=>by cases h)
   simp only [par] at hupp
   have hst5':=hst5.drew
   have hbx':Row w20.drew.heap Bx 130 [.pointer (some ⟨F,0,none⟩)]:=hbx5
   refine pt_i (Qav hbx' rfl (pt_i (Qav hbx' rfl ?_)))
   refine (Q8t hst5'.i (by omega) (by omega) (by rw [ex,hup];omega) (by rw [ex,hup];omega)).mono ?_
   rintro e w27 ⟨rfl,rfl⟩
   have hgn:g.p<n:=htr.bd g.p (by rw [(Qcv (f::g::c3) _).mem_iff];simp [cls])
   have ef:(f.p:Int).toNat=f.p:=rfl
   have eg:(g.p:Int).toNat=g.p:=rfl
   have hbx2:Row w20.drew.drew.heap Bx 130 [.pointer (some ⟨F,0,none⟩)]:=hbx5
   refine ⟨_,rfl,by rw [hbx2.cell];rfl,?_⟩
   refine (Q8t hst5'.drew.i (by omega) (by omega) (by rw [ef,hupp];omega) (by rw [ef,hupp];omega)).mono ?_
   rintro e w30 ⟨rfl,rfl⟩
   refine ⟨_,rfl,?_⟩
   rw [ex,hup,ef,hupp,eg]
   have htr':Tq n s3 v q (plug (g::c3) (f.fill (.node l3 x false r3))):=htr
   have hsg:s3.right g.p=f.p↔g.d=false:=by
    unfold Fr.fill at htr'
    rw [hfb] at htr'
    cases hfd:f.d<;>simp only [hfd,if_true,Bool.false_eq_true,if_false] at htr'
    ·exact (Q0s htr').2.2.2.2.2.2.2.1
    ·exact (Q0s htr').2.2.2.2.2.2.2.1
   have hbx3:Row w20.drew.drew.drew.heap Bx 130 [.pointer (some ⟨F,0,none⟩)]:=hbx5
   have hst3:=hst5'.drew.drew
   have hc3:Chg (·=L) w₁ w20.drew.drew.drew:=hc5.drew.drew.drew
   refine Qac (fun hd=>?_) (fun hd=>?_)
   ·have hd':g.d=f.d:=by
     cases hgd':g.d<;>cases hfd:f.d<;>simp [hside,hsg,hgd',hfd] at hd ⊢
    refine pt_i (Qav hbx3 rfl ?_)
    refine (Zaf hst3.i htr hfb hgb hd').mono ?_
    rintro e w34 ⟨rfl,s',hst',f',hfb',hg1⟩
    refine ⟨rfl,pt_i (Qav (hst'.c.row hBL hbx3) rfl ?_)⟩
    have hg2:=hgd3.trans hg1
    refine (Q27 hst'.i (hg2.tq k) hfb').mono ?_
    rintro e w38 ⟨rfl,s'',hst'',hg3⟩
    refine ⟨rfl,?_⟩
    obtain ⟨l',r',hsh⟩:=Qha f' l3 r3 x
    rw [hsh] at hg3
    exact LI.again (k:=c3.length) ⟨rfl,_,c3,l',r',(fun f hf=>hcl3 f (by simp [hf])),rfl,(hst3.trans hst').trans hst'',(hc3.trans hst'.c).trans hst''.c,hg2.trans hg3⟩ (by rw [hj3];simp only [List.length_cons];omega)
   ·refine pt_i (Qav hbx3 rfl ?_)
    refine (Q27 hst3.i htr hfb).mono ?_
    rintro e w42 ⟨rfl,s',hst',hg1⟩
    refine ⟨rfl,pt_i (Qav (hst'.c.row hBL hbx3) rfl ?_)⟩
    obtain ⟨l',r',hsh⟩:=Qha f l3 r3 x
    rw [hsh] at hg1
    have hg2:=hgd3.trans hg1
    refine (Q27 hst'.i (hg2.tq k) hgb).mono ?_
    rintro e w46 ⟨rfl,s'',hst'',hg3⟩
    refine ⟨rfl,?_⟩
    obtain ⟨l'',r'',hsh'⟩:=Qha g l' r' x
    rw [hsh'] at hg3
    exact LI.again (k:=c3.length) ⟨rfl,_,c3,l'',r'',(fun f hf=>hcl3 f (by simp [hf])),rfl,(hst3.trans hst').trans hst'',(hc3.trans hst'.c).trans hst''.c,hg2.trans hg3⟩ (by rw [hj3];simp only [List.length_cons];omega)
end
theorem Q44 (s:S) (y:Int):(tog s y).up=s.up∧(tog s y).left=s.left∧(tog s y).right=s.right:=by unfold tog;split<;>simp
theorem Q7w {n:Nat} {s:S} {x:Nat} (hw:Wf n s) (hx:x<n):Wf n (pushS s x):=by
 have ex:(x:Int).toNat=x:=rfl
 unfold pushS
 rw [ex]
 split
 ·intro i hi
  obtain ⟨h1,h2,h3⟩:=hw i hi
  obtain ⟨k1,k2,k3⟩:=hw x hx
  obtain ⟨a1,a2,a3⟩:=Q44 (tog (swapS s x) (s.right x)) (s.left x)
  obtain ⟨b1,b2,b3⟩:=Q44 (swapS s x) (s.right x)
  rw [a1,a2,a3,b1,b2,b3]
  unfold swapS
  refine ⟨by simpa using h1,?_,?_⟩
  ·simp [upd];split<;>omega
  ·simp [upd];split<;>omega
 ·exact hw
theorem Zmx:leavesT Pg 8 130=some [.ptr]:=by kernel_rfl
theorem Zm6:aggT Pg 130=false:=by kernel_rfl
theorem Zms:(Pg.underlying 130).isSome=true:=by kernel_rfl
theorem Zh4 {P:Program} {t:TypeId} {w:World} {a:Addr} {p:Option Addr} (e:leavesT P 8 t=some [.ptr]) (e2:aggT P t=false) (e3:(P.underlying t).isSome=true) (h:w.cell? a=some (.pointer p)):(Instr.loadAt t (.pointer (some a))).run P w=.ok (.pointer p) w:=by
 have hd:dload P t (.pointer (some a)) w (fun H v=>v=.pointer p):=by
  unfold dload
  simp only [pt,e,e2,e3,cond_false,cond_true]
  exact ⟨p,h,rfl⟩
 obtain ⟨v,H,rfl,hH,hr⟩:=Qqw hd
 exact hr w hH
set_option linter.constructorNameAsVariable false in
set_option maxRecDepth 20000 in
theorem Zd5 {n:Nat} {a:Act} {w:World} {Q:Exit→Act→World→Prop} {Bs Bx F L g len cap:Nat} (zs:Nat→Nn n) (hs:a.tmps.size=74) (hf:ofAct a 36=.func (.func 307) #[] #[.pointer (some ⟨Bs,0,none⟩)])
  (h2:ofAct a 2=.pointer (some ⟨Bx,0,none⟩)) (hBs:Row w.heap Bs 59 [.slice (some ⟨g,0,none⟩) len cap]) {cs:List Value} (hg:Row w.heap g 21 cs) (hcs:∀j,j<len→cs[j]?=some (.int .i32 (zs j).1)) (hlen:len≤8388608)
  (hLs:L≠Bs) (hLg:L≠g) (I:Nat→World→Prop) (Wk:World→Prop) (h0:I 0 w∧Wk w)
  (hI:∀k W W' (T:Nat→Prop),Chg T W W'→(∀i,T i→w.heap.size≤i∧∀e cs,¬Row W.heap i e cs)→(I k W→I k W')∧(Wk W→Wk W'))
  (hstep:∀k W (y:Nn n),Wk W→Row W.heap Bx 130 [.pointer (some ⟨F,0,none⟩)]∧(∃e cs,Row W.heap L e cs)∧
   Calls Pg 283 #[.pointer (some ⟨F,0,none⟩),.int .i32 y.1] W fun e W'=>e=.returned (.tuple #[])∧Chg (·=L) W W'∧Wk W'∧(k<len→y=zs (len-1-k)→I k W→I (k+1) W'))
  (hQ:∀D W,w.heap.size≤D→I len W→W.heap[D]?=some (.deferred (some []))→Q .normal {a with defers:={target:=.collected D,args:=#[]}::a.defers} W) :
  (midOf (Q28 Tryz.f245)).wp Pg Q a w:=by
 have hBl:=hBs.lt
 have hgl:=hg.lt
 obtain ⟨f,hfd⟩:∃f:Nat→Int × Nn n,f=fun j:Nat=>((len:Int)-1-(j:Int),zs (len-1-j)):=⟨_,rfl⟩
 show (Code.block _ (Code.rangeFunc (.tmp 36) #[37,38] _ (Code.block _ _))).wp _ _ _ _
 refine (wpIn_wide (n:=9)).1 (wpIn_block ?_)
 refine wpIn_rangeFunc_ownF (n:=9) rfl (by omega) (gf:=307) (lb:=#[.pointer (some ⟨Bs,0,none⟩)]) hf trivial Tryz.call307
  (Q9q Fence.wide 8 trivial rfl (by omega) Bs g 0 len cap zs (by omega) w hBl hgl (by rw [hBs.cell];rfl) (fun j hj=>by rw [hg.cell,Nat.zero_add];exact hcs j hj))
  (fun h k=>⟨k.1.trans h.1,k.2.trans h.2⟩) (fun W l o o' hl _ _ _=>⟨World.putObj_heap_other (by omega),World.putObj_heap_other (by omega)⟩) (Below.refl _ _) (fun _=>rfl)
  (fun pre W=>(pre=upto f pre.length→I pre.length W)∧Wk W∧w.heap.size≤W.heap.size) (fun _ _ _=>False) ?own (fun _ _ _ _ _ h _ _=>h) ⟨fun _=>h0.1,h0.2,Nat.le_refl _⟩
  (fun x=>({tmps:=(a.tmps.setIfInBounds 37 (.int .i64 x.1)).setIfInBounds 38 (.int .i32 x.2.1),defers:=[]}:Act).put (some 7) (.int .i32 x.2.1)) ?assign ?body ?done ?stop
 case own=>
  rintro s W W' row ⟨hi,hk,hz⟩ hgr hr
  have:=hI s.length W W' (fun k=>some k=row) ⟨hgr.os,hgr.tape,hgr.output,hgr.size,fun k hk hne=>hgr.block k hk hne⟩ (fun i hi=>by
   obtain ⟨hB,o,ho,hc⟩:=hr i hi.symm
   refine ⟨hB,fun e cs hrow=>?_⟩
   unfold Row at hrow
   rw [hrow] at ho;cases ho
   simp [Obj.isCells] at hc)
  exact ⟨fun h=>this.1 (hi h),this.2 hk,Nat.le_trans hz hgr.size⟩
 case assign=>
  intro l x W K hK
  have e0:(#[37,38].zip #[Value.int IntKind.i64 x.1,Value.int IntKind.i32 x.2.1]).foldl (fun t (p,v)=>t.setIfInBounds p v) a.tmps=(a.tmps.setIfInBounds 37 (.int .i64 x.1)).setIfInBounds 38 (.int .i32 x.2.1):=by simp
  rw [e0]
  refine wpIn_region_list (wpListIn_plain rfl fun K' hK'=>?_)
  have e:Act.eval {tmps:=(a.tmps.setIfInBounds 37 (.int .i64 x.1)).setIfInBounds 38 (.int .i32 x.2.1),defers:=[]} (.tmp 38)=.int .i32 x.2.1:=by
   show ((a.tmps.setIfInBounds 37 _).setIfInBounds 38 _).getD 38 undef=_
   simp [Array.getD_eq_getD_getElem?,Array.getElem?_setIfInBounds,hs]
  refine Q3h (fun c h=>by cases h) (v:=.int .i32 x.2.1) (w':=W) ?_ (hK' _ _ hK)
  show (Sem.run Pg (do pure (.value (Act.eval _ (.tmp 38))):Sem Next) W)=_
  rw [e];rfl
 case body=>
  rintro l pre x W ⟨hi,hk,hz⟩ hlt
  refine wpIn_block ?_
  obtain ⟨hbx,⟨eL,csL,hrL⟩,hcall⟩:=hstep pre.length W x.2 hk
  have hLk:∀{W'},Chg (·=L) W W'→KeepsOthers W W'∧Kb Bs g W W':=by
   intro W' hc
   refine ⟨⟨hc.size,fun k o ho hcell=>?_⟩,hc.block Bs (by omega) (fun e=>hLs e.symm),hc.block g (by omega) (fun e=>hLg e.symm)⟩
   have hkl:k<W.heap.size:=by
    rcases Nat.lt_or_ge k W.heap.size with h | h
    ·exact h
    ·rw [Array.getElem?_eq_none h] at ho;cases ho
   by_cases e:k=L
   ·subst e
    unfold Row at hrL
    rw [hrL] at ho;cases ho
    simp [Obj.isCells] at hcell
   ·rw [hc.block k hkl e];exact ho
  have e2:∀(a₁:Act),a₁=(({tmps:=(a.tmps.setIfInBounds 37 (.int .i64 x.1)).setIfInBounds 38 (.int .i32 x.2.1),defers:=[]}:Act).put (some 7) (.int .i32 x.2.1))→a₁.tmps.size=74∧a₁.eval (.tmp 2)=.pointer (some ⟨Bx,0,none⟩)∧a₁.eval (.tmp 7)=.int .i32 x.2.1:=by
   rintro a₁ rfl
   refine ⟨by simp [Act.put,hs],?_,?_⟩
   ·have h2':a.tmps.getD 2 undef=.pointer (some ⟨Bx,0,none⟩):=h2
    show (((a.tmps.setIfInBounds 37 _).setIfInBounds 38 _).setIfInBounds 7 _).getD 2 undef=_
    rw [←h2']
    simp [Array.getD_eq_getD_getElem?,Array.getElem?_setIfInBounds]
   ·show (((a.tmps.setIfInBounds 37 _).setIfInBounds 38 _).setIfInBounds 7 _).getD 7 undef=_
    simp [Array.getD_eq_getD_getElem?,Array.getElem?_setIfInBounds,hs]
  obtain ⟨q1,q2,q3⟩:=e2 _ rfl
  generalize (({tmps:=(a.tmps.setIfInBounds 37 (.int .i64 x.1)).setIfInBounds 38 (.int .i32 x.2.1),defers:=[]}:Act).put (some 7) (.int .i32 x.2.1))=a₁ at *
  refine wpIn_region_list (wpListIn_plain rfl fun K' hK'=>?_)
  refine Q3h (fun c h=>by cases h) (v:=.pointer (some ⟨F,0,none⟩)) (w':=W) ?_ (hK' _ _ ?_)
  ·show (Sem.run Pg (do pure (.value (←Instr.loadAt _ (a₁.eval (.tmp 2)))):Sem Next) W)=_
   rw [q2]
   exact Q0c (Zh4 Zmx Zm6 Zms (by rw [hbx.cell];rfl))
  refine wpListIn_plain rfl fun K' hK'=>?_
  refine Q3h (fun c h=>by cases h) (v:=.int .i32 x.2.1) (w':=W) ?_ (hK' _ _ ?_)
  ·have e:Act.eval (a₁.put (some 39) (.pointer (some ⟨F,0,none⟩))) (.tmp 7)=.int .i32 x.2.1:=by
    rw [←q3]
    show (a₁.tmps.setIfInBounds 39 _).getD 7 undef=a₁.tmps.getD 7 undef
    simp [Array.getD_eq_getD_getElem?,Array.getElem?_setIfInBounds]
   show (Sem.run Pg (do pure (.value (Act.eval (a₁.put (some 39) (.pointer (some ⟨F,0,none⟩))) (.tmp 7))):Sem Next) W)=_
   rw [e];rfl
  refine wpListIn_plain rfl fun K' hK'=>?_
  refine Q82 (fun c h=>by cases h) (g:=283) (args:=#[.pointer (some ⟨F,0,none⟩),.int .i32 x.2.1]) (w':=W) ?_ (R:=fun v W'=>Chg (·=L) W W'∧Wk W'∧(pre.length<len→x.2=zs (len-1-pre.length)→I pre.length W→I (pre.length+1) W')) (hcall.mono ?_) ?_
  ·have e1:Act.eval ((a₁.put (some 39) (.pointer (some ⟨F,0,none⟩))).put (some 40) (.int .i32 x.2.1)) (.tmp 39)=.pointer (some ⟨F,0,none⟩):=by
    show ((a₁.tmps.setIfInBounds 39 _).setIfInBounds 40 _).getD 39 undef=_
    simp [Array.getD_eq_getD_getElem?,Array.getElem?_setIfInBounds,q1]
   have e2:Act.eval ((a₁.put (some 39) (.pointer (some ⟨F,0,none⟩))).put (some 40) (.int .i32 x.2.1)) (.tmp 40)=.int .i32 x.2.1:=by
    show ((a₁.tmps.setIfInBounds 39 _).setIfInBounds 40 _).getD 40 undef=_
    simp [Array.getD_eq_getD_getElem?,Array.getElem?_setIfInBounds,q1]
   show (do let d ←resolve _ _ _;invoke d.target d.args:Sem Next).run Pg W=_
   generalize hρ:Act.eval ((a₁.put (some 39) (.pointer (some ⟨F,0,none⟩))).put (some 40) (.int .i32 x.2.1))=ρ at *
   have hres:resolve ρ {callee:=Callee.value (Operand.func 283),args:=#[Operand.tmp 39,Operand.tmp 40],argTypes:=#[130,21]} 0=pure {target:=.fn (.func 283) #[],args:=#[]++#[Operand.tmp 39,Operand.tmp 40].map ρ}:=by
    have hf:ρ (.func 283)=.func (.func 283) #[] #[]:=by rw [←hρ];rfl
    unfold resolve
    simp only [hf]
    rfl
   rw [hres,pure_bind]
   show (callFunc 283 _).run Pg W=_
   rw [Tryz.call283]
   simp [e1,e2]
  ·rintro e W' ⟨rfl,h⟩
   exact ⟨_,rfl,h⟩
  ·rintro v W' ⟨hc,hw,hn⟩
   refine hK' _ _ ?_
   obtain ⟨k1,k2⟩:=hLk hc
   refine ⟨k1,k2,?_,hw,Nat.le_trans hz hc.size⟩
   intro he
   rw [List.length_append,List.length_singleton,Q42] at he
   obtain ⟨he1,he2⟩:=List.append_inj' he rfl
   have hx:x.2=zs (len-1-pre.length):=by
    simp only [List.cons.injEq,and_true] at he2
    rw [he2,hfd]
   rw [List.length_append,List.length_singleton]
   exact hn hlt hx (hi he1)
 case done=>
  rintro D xs W hD rfl ⟨hi,_,_⟩ hK
  have:=hi (by rw [Qwa,hfd])
  rw [Qwa] at this
  exact hQ D W hD this hK
 case stop=>
  rintro D c pre W _ _ h _
  exact h.elim
theorem Q3s {P:Program} {E:List FuncId} {N:Nat} {Ds:List Deferred} (hE:∀g∈E,enters P g) (hm:P.follows .mixedOrders=true) {an:An} {cx cy:Code} {D:Env→World→Prop} {K:Env→World→Prop} {Q:Exit→Act→World→Prop} {a:Act} {w:World}
  (h:den P E N an cx (thenP D (fun x e w'=>match x with | .normal=>K e w' | _=>False)) (ofAct a) w) (hs:a.tmps.size=N) (hd:a.defers=Ds) (hy:∀a' w',D (ofAct a') w'→a'.tmps.size=N→a'.defers=Ds→cy.wp P Q a' w'):(Code.seq cx cy).wp P Q a w:=by
 refine wp_seq (wp_mono (Qx1 (Ds:=Ds) hE hm an _ _ _ _ h hs hd) ?_)
 intro x a' w' hx
 cases x<;>simp only [PQ,thenP] at hx<;>first | exact hx.elim | exact hx.1.elim | exact hy a' w' hx.1 hx.2.1 hx.2.2.1
theorem Q5k {P:Program} {E:List FuncId} {N:Nat} {Ds:List Deferred} (hE:∀g∈E,enters P g) (hm:P.follows .mixedOrders=true) {an:An} {c:Code} {K:Env→World→Prop} {Q:Exit→Act→World→Prop} {a:Act} {w:World}
  (h:den P E N an c (fun x e w'=>match x with | .normal=>K e w' | _=>False) (ofAct a) w) (hs:a.tmps.size=N) (hd:a.defers=Ds) (hy:∀a' w',K (ofAct a') w'→a'.tmps.size=N→a'.defers=Ds→Q .normal a' w'):c.wp P Q a w:=by
 refine wp_mono (Qx1 (Ds:=Ds) hE hm an _ _ _ _ h hs hd) ?_
 intro x a' w' hx
 cases x<;>simp only [PQ] at hx<;>first | exact hx.elim | exact hx.1.elim | exact hy a' w' hx.1 hx.2.1 hx.2.2.1
theorem Zde {P:Program} {E:List FuncId} {N:Nat} {Ds:List Deferred} (hE:∀g∈E,enters P g) (hm:P.follows .mixedOrders=true) {x y z u:An} {ca cb cc cr m e:Code} {K:Env→World→Prop} {Q:Exit→Act→World→Prop} {a:Act} {w:World}
  (h:den P E N (.seq x (.seq y (.seq z u))) (.seq ca (.seq cb (.seq cc cr))) (fun x e w'=>match x with | .normal=>K e w' | _=>False) (ofAct a) w) (hs:a.tmps.size=N) (hd:a.defers=Ds)
  (hy:∀a' w',K (ofAct a') w'→a'.tmps.size=N→a'.defers=Ds→m.wp P (Exit.then (e.wp P Q) Q) a' w'):(Code.seq ca (.seq cb (.seq cc (.seq (.seq cr m) e)))).wp P Q a w:=by
 refine Q3s hE hm (an:=x) h hs hd fun a1 w1 h1 hs1 hd1=>?_
 refine Q3s hE hm (an:=y) h1 hs1 hd1 fun a2 w2 h2 hs2 hd2=>?_
 refine Q3s hE hm (an:=z) h2 hs2 hd2 fun a3 w3 h3 hs3 hd3=>?_
 exact wp_seq (wp_seq (Q5k hE hm (an:=u) h3 hs3 hd3 fun a4 w4 h4 hs4 hd4=>hy a4 w4 h4 hs4 hd4))
section
variable {w:World} {F L n:Nat} {s:S} {v:Nat→Int} {t:T} {x:Nat} {q:Int}
set_option maxRecDepth 20000 in
theorem Q9i:∃ca cb cc cr,Tryz.f245.body=some (.seq ca (.seq cb (.seq cc (.seq (.seq cr (midOf (Q28 Tryz.f245))) (postOf (Q28 Tryz.f245))))))∧
  preOf (Q28 Tryz.f245)=.seq ca (.seq cb (.seq cc cr)):=⟨_,_,_,_,rfl,rfl⟩
def Pu (w:World) (F L n Bx:Nat) (s:S) (v:Nat→Int) (t:T) (x:Nat) (q:Int) (ρ:List Nat) (k:Nat) (W:World):Prop:=∃ρa ρb s' c u,ρ=ρa++ρb∧ρa.length=k∧Seq.Clean c∧St w W F L n s'∧Gq q s v t s' (plug c u)∧
 ((ρb=[]∧∃l r,u=.node l x false r)∨Pth u x ρb)∧Row W.heap Bx 130 [.pointer (some ⟨F,0,none⟩)]
def PuW (w:World) (F L n Bx:Nat) (W:World):Prop:=∃s',St w W F L n s'∧Wf n s'∧Row W.heap Bx 130 [.pointer (some ⟨F,0,none⟩)]
theorem Q52 {W W':World} {T:Nat→Prop} {B:Nat} {s':S} (h:St w W F L n s') (hc:Chg T W W') (hT:∀i,T i→B≤i∧∀e cs,¬Row W.heap i e cs) (hB:w.heap.size≤B):St w W' F L n s':=
 ⟨h.i.chg hc (fun k=>(hT _ k).2 _ _ h.i.f) (fun k=>(hT _ k).2 _ _ h.i.l),h.c.trans' hc (fun i hi=>.inr (Nat.le_trans hB (hT i hi).1)),h.lt⟩
theorem Q5o (h:IsF w.heap F L n s) (k:Tq n s v q t) (hx:x∈t.ls) :
  Calls Pg 245 #[.pointer (some ⟨F,0,none⟩),.int .i32 x] w fun e w'=>e=.returned (.tuple #[])∧∃s' l r,St w w' F L n s'∧Gq q s v t s' (.node l x false r):=by
 obtain ⟨ρ,hρ⟩:=Pth.ex hx
 have hst:=St.start h
 have hxn:=k.bd x hx
 have hρn:∀y∈ρ,y<n:=fun y hy=>k.bd y (hρ.sub y hy)
 have hρl:ρ.length≤8388608:=Nat.le_trans hρ.len k.len
 have hn0:0<n:=by omega
 refine (callsIn_wide (n:=9)).1 ?_
 obtain ⟨ca,cb,cc,cr,hb,hp⟩:=Q9i
 refine callsIn_of_wp_marks Tryz.func245 hb trivial ?_ rfl
 refine (wpIn_wide (n:=9)).2 ?_
 have hA:=Qw2 h k hρ
 rw [Qu5,←Qwg _ 74 (by simp),hp] at hA
 unfold Qk7 at hA
 refine Zde Qlh Qld hA (by simp) rfl fun a w1 hR hs hd=>?_
 obtain ⟨Bs,g,c,hv,hBs,hgb,hrBs,⟨cs,hrg,hcs⟩,hbx,hst1⟩:=hR
 have hv':#[ofAct a 36,ofAct a 2,ofAct a 1,ofAct a 0]=#[.func (.func 307) #[] #[.pointer (some ⟨Bs,0,none⟩)],.pointer (some ⟨w.heap.size,0,none⟩),.int .i32 x,.pointer (some ⟨F,0,none⟩)]:=Value.tuple.inj hv
 simp only [Array.mk.injEq,List.cons.injEq,and_true] at hv'
 obtain ⟨e36,e2,e1,e0⟩:=hv'
 have hLt:=hst.lt.2
 have hLlt:=h.l.lt
 have hzv:∀j:Nat,(0:Int)≤((ρ.reverse[j]?.getD x:Nat):Int)∧((ρ.reverse[j]?.getD x:Nat):Int)<n:=by
  intro j
  have:ρ.reverse[j]?.getD x<n:=by
   cases hj:ρ.reverse[j]? with
   | none=>exact hxn
   | some y=>exact hρn y (by have:=List.mem_of_getElem? hj;simpa using this)
  omega
 have hw1:=hst1.c.size
 refine Zd5 (F:=F) (L:=L) (len:=ρ.length) (cap:=c) (n:=n) (fun j:Nat=>⟨((ρ.reverse[j]?.getD x:Nat):Int),hzv j⟩) hs e36 e2 hrBs hrg ?hcs hρl (by omega) (by omega) (Pu w F L n w.heap.size s v t x q ρ) (PuW w F L n w.heap.size)
  ⟨⟨[],ρ,s,[],t,rfl,rfl,(fun f hf=>by cases hf),hst1,Gq.refl k.rep,.inr hρ,hbx⟩,s,hst1,k.wf,hbx⟩ ?hI ?hstep ?hQ
 case hcs=>
  intro j hj
  rw [hcs j hj]
  have:ρ.reverse[j]?=some (ρ.reverse[j]'(by simpa using hj)):=List.getElem?_eq_getElem _
  simp only [rv,List.getElem?_map,this,Option.map_some,Option.getD_some]
 case hI=>
  intro k' W W' T hc hT
  refine ⟨?_,?_⟩
  ·rintro ⟨ρa,ρb,s',c',u,h1,h2,h3,h4,h5,h6,h7⟩
   exact ⟨ρa,ρb,s',c',u,h1,h2,h3,Q52 h4 hc hT hw1,h5,h6,hc.row (fun hi=>(hT _ hi).2 _ _ h7) h7⟩
  ·rintro ⟨s',h4,h5,h7⟩
   exact ⟨s',Q52 h4 hc hT hw1,h5,hc.row (fun hi=>(hT _ hi).2 _ _ h7) h7⟩
 case hstep=>
  rintro k' W ⟨y,hy0,hy1⟩ hW
  obtain ⟨yN,rfl⟩:∃yN:Nat,y=yN:=⟨y.toNat,by omega⟩
  have hyn:yN<n:=by omega
  have ey:(yN:Int).toNat=yN:=rfl
  have hbx':Row W.heap w.heap.size 130 [.pointer (some ⟨F,0,none⟩)]:=by obtain ⟨_,_,_,h⟩:=hW;exact h
  have hLr:∃e cs,Row W.heap L e cs:=by obtain ⟨_,h,_,_⟩:=hW;exact ⟨_,_,h.i.l⟩
  have hBL:¬w.heap.size=L:=by omega
  have push:∀s2,St w W F L n s2→Wf n s2→Calls Pg 283 #[.pointer (some ⟨F,0,none⟩),.int .i32 yN] W fun e W'=>e=.returned (.tuple #[])∧St W W' F L n (pushS s2 yN):=fun s2 h2 hw2=>by
   obtain ⟨_,⟨a1,a2⟩,a3,a4⟩:=hw2 yN hyn
   exact Qyd h2.i hy0 hy1 a1 a2 a3 a4
  refine ⟨hbx',hLr,?_⟩
  by_cases hp:k' < ρ.length∧(yN:Int)=((ρ.reverse[ρ.length-1-k']?.getD x:Nat):Int)∧Pu w F L n w.heap.size s v t x q ρ k' W
  ·obtain ⟨hk,hyz,ρa,ρb,s2,c2,u,hab,hla,hcl,hst2,hgd,hu,_⟩:=hp
   have htr:=hgd.tq k
   refine (push s2 hst2 htr.wf).mono ?_
   rintro e W' ⟨rfl,hst'⟩
   refine ⟨rfl,hst'.c,⟨_,hst2.trans hst',Q7w htr.wf hyn,hst'.c.row hBL hbx'⟩,fun _ _ _=>?_⟩
   cases ρb with
   | nil=>simp at hab;rw [hab] at hk;omega
   | cons y0 ρb=>
    have hPth:Pth u x (y0::ρb):=hu.resolve_left (fun h=>by simp at h)
    have hy0':y0=yN:=by
     have hlen:ρ.length=ρa.length+1+ρb.length:=by rw [hab];simp;omega
     have:ρ.reverse[ρ.length-1-k']?=some y0:=by
      rw [List.getElem?_reverse (by omega)]
      have:ρ.length-1-(ρ.length-1-k')=ρa.length:=by omega
      rw [this,hab];simp
     rw [this] at hyz
     simp at hyz;omega
    subst hy0'
    obtain ⟨l2,b2,r2,rfl,hnext⟩:=hPth.step
    have hgd':=hgd.trans (Q6o htr)
    rcases hnext with ⟨rfl,rfl⟩ | ⟨f,u',hfp,hfb,hfill,hP'⟩
    ·obtain ⟨l',r',hsh⟩:=Qi1 l2 x b2 r2
     rw [hsh] at hgd'
     exact ⟨ρa++[x],[],_,c2,_,by rw [hab];simp,by simp [hla],hcl,hst2.trans hst',hgd',.inl ⟨rfl,l',r',rfl⟩,hst'.c.row hBL hbx'⟩
    ·rw [hfill] at hgd'
     exact ⟨ρa++[y0],ρb,_,f::c2,u',by rw [hab];simp,by simp [hla],(fun f' hf'=>by rcases List.mem_cons.1 hf' with rfl | h;exact hfb;exact hcl _ h),hst2.trans hst',hgd',.inr hP',hst'.c.row hBL hbx'⟩
  ·obtain ⟨s2,hst2,hwf2,_⟩:=hW
   refine (push s2 hst2 hwf2).mono ?_
   rintro e W' ⟨rfl,hst'⟩
   exact ⟨rfl,hst'.c,⟨_,hst2.trans hst',Q7w hwf2 hyn,hst'.c.row hBL hbx'⟩,fun h1 h2 h3=>absurd ⟨h1,congrArg Subtype.val h2,h3⟩ hp⟩
 case hQ=>
  rintro D W hD ⟨ρa,ρb,s2,c2,u,hab,hla,hcl,hst2,hgd,hu,hbx2⟩ hK
  have hρb:ρb=[]:=by
   have:=congrArg List.length hab
   simp at this
   exact List.length_eq_zero_iff.1 (by omega)
  obtain ⟨l2,r2,rfl⟩:∃l r,u=.node l x false r:=by
   rcases hu with ⟨_,h⟩ | h
   ·exact h
   ·exact absurd hρb h.ne
  have hDl:D<W.heap.size:=by
   rcases Nat.lt_or_ge D W.heap.size with h | h
   ·exact h
   ·rw [Array.getElem?_eq_none h] at hK;cases hK
  have hB:=Zjs (p0:=some ⟨F,0,none⟩) (R:=fun w'=>w'.heap[D]?=some (.deferred (some []))∧∃s' l r,St w w' F L n s'∧Gq q s v t s' (.node l x false r)) k hst2 hgd hcl hxn hbx2 (by omega)
   (fun w' s' l r h1 hc h2=>⟨by rw [hc.block D hDl (by omega)];exact hK,s',l,r,h1,h2⟩)
  rw [Qu4 (ofAct a),Qjp e0,Qjp e1,Qjp e2] at hB
  show (postOf _).wp _ _ _ _
  refine Q5k (Ds:=[{target:=.collected D,args:=#[]}]) Qlh Qld (a:={a with defers:={target:=.collected D,args:=#[]}::a.defers}) hB hs (by rw [hd]) fun a' w' hR hs' hd'=>?_
  obtain ⟨hK',s',l,r,hst',hgq⟩:=hR
  show LeavesInM _ _ _ _ _ _ a'.defers .returning w'
  rw [hd']
  refine ⟨by simp,.inl ⟨D,_,rfl,run_takeDeferred hK',?_⟩⟩
  have hg:=grownBy_putObj' w' D (.deferred none)
  refine ⟨_,results_none rfl _ _ _,rfl,s',l,r,Q52 (T:=fun i=>i=D) (B:=w.heap.size) hst' ⟨hg.os,hg.tape,hg.output,hg.size,fun i hi hne=>hg.block i hi (fun e=>hne (Option.some.inj e))⟩ (fun i hi=>?_) (Nat.le_refl _),hgq⟩
  subst hi
  refine ⟨by omega,fun e cs hr=>?_⟩
  unfold Row at hr
  rw [hK'] at hr;cases hr
end
end Cut
end Go.Proofs.YtfeekmmfdkfgmaaGreatDoor
