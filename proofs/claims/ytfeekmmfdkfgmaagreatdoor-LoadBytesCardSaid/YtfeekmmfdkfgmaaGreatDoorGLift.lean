/-
Trees that are kept in records with links: what was put off is done; the way down to a node.
Conditions: those that each theorem states.
-/
import Derived.Test.YtfeekmmfdkfgmaaGreatDoorSplay3
import Derived.Test.YtfeekmmfdkfgmaaGreatDoorGMem
set_option linter.unusedVariables false
set_option linter.unusedSimpArgs false
namespace Go.Proofs.YtfeekmmfdkfgmaaGreatDoor
open Go
namespace Seq
theorem Q2v (s:S) (c:Int) (y:Nat):(tog s c).turned y=if c≠-1∧y=c.toNat then !(s.turned y) else s.turned y:=by
 unfold tog
 by_cases h:c=-1
 ·simp [h]
 ·simp only [if_neg h,S.Q03,upd]
  by_cases e:y=c.toNat<;>simp [e,h]
structure EqT (s s':S):Prop where
 up:s'.up=s.up
 left:s'.left=s.left
 right:s'.right=s.right
 size:s'.size=s.size
 value:s'.value=s.value
 sum:s'.sum=s.sum
 least:s'.least=s.least
 most:s'.most=s.most
theorem Q7b (s:S) (c:Int):EqT s (tog s c):=by
 unfold tog;split<;>constructor<;>simp
theorem Rep.flip {s s':S} {v:Nat→Int} {t:T} {p q:Int} (h:Rep s v p t) (he:∀y∈t.ls,(y:Int)≠t.rt→Eqv s s' y)
  (ha:∀y:Nat,(y:Int)=t.rt→s'.turned y=!(s.turned y)∧s'.size y=s.size y∧s'.value y=s.value y∧s'.sum y=s.sum y∧s'.least y=s.least y∧s'.most y=s.most y∧s'.left y=s.left y∧s'.right y=s.right y∧s'.up y=q) (hn:t.ls.Nodup):Rep s' v q t.flip:=by
 cases t with
 | nil=>trivial
 | node l x b r=>
  obtain ⟨hN,hl,hr⟩:=h
  obtain ⟨e1,e2,e3,e4,e5,e6,e7,e8,e9⟩:=ha x rfl
  simp only [T.ls] at hn
  rw [List.nodup_append] at hn
  obtain ⟨hn1,hn2,hn3⟩:=hn
  rw [List.nodup_cons] at hn2
  have hag:=hN.agg
  refine ⟨⟨e9,by rw [e7,hN.left],by rw [e8,hN.right],by rw [e1,hN.turned],by rw [e3,hN.value],⟨by rw [e2];exact hag.size,by rw [e4];exact hag.sum,by rw [e5];exact hag.least,by rw [e6];exact hag.most⟩⟩,?_,?_⟩
  ·refine hl.congr fun y hy=>he y (by simp [T.ls,hy]) ?_
   have:=hn3 y hy x (by simp)
   simp only [T.rt];omega
  ·refine hr.congr fun y hy=>he y (by simp [T.ls,hy]) ?_
   have:y≠x:=fun e=>hn2.1 (e ▸ hy)
   simp only [T.rt];omega
def pushT (l:T) (x:Nat) (b:Bool) (r:T):T:=if b then .node r.flip x false l.flip else .node l x false r
theorem Q1e (l:T) (x:Nat) (b:Bool) (r:T):(pushT l x b r).seq=(T.node l x b r).seq:=by
 unfold pushT;cases b<;>simp [T.seq,T.Zey]
theorem Qqq (l:T) (x:Nat) (b:Bool) (r:T):(T.node l x b r).ls.Perm (pushT l x b r).ls:=by
 unfold pushT;cases b<;>simp only [if_true,Bool.false_eq_true,if_false,T.ls,T.Zjg]
 ·exact List.Perm.refl _
 ·refine (List.perm_append_comm).trans ?_
  rw [List.cons_append]
  exact (List.perm_middle (l₁:=r.ls) (l₂:=l.ls) (a:=x)).symm
theorem Qi1 (l:T) (x:Nat) (b:Bool) (r:T):∃l' r',pushT l x b r=.node l' x false r':=by
 unfold pushT;cases b
 ·exact ⟨_,_,rfl⟩
 ·exact ⟨_,_,rfl⟩
theorem Q7v {s:S} {v:Nat→Int} {top:Int} {c:List Fr} {l r:T} {x:Nat} {b:Bool} (hR:Rep s v top (plug c (.node l x b r))) (hn:(plug c (.node l x b r)).ls.Nodup) :
  Rep (pushS s x) v top (plug c (pushT l x b r))∧∀y,y∉(plug c (.node l x b r)).ls→Eqv s (pushS s x) y:=by
 have hx:(x:Int).toNat=x:=by omega
 obtain ⟨⟨hX,hl,hr⟩,hC⟩:=(Qda c _).1 hR
 cases b with
 | false=>
  have e:pushS s x=s:=by unfold pushS;rw [hx,hX.turned];simp
  rw [e];exact ⟨hR,fun y _=>Eqv.refl s y⟩
 | true=>
  have hnd:=(Qcv c (.node l x true r)).nodup_iff.1 hn
  simp only [T.ls,List.append_assoc,List.cons_append,List.nodup_append,List.nodup_cons,List.mem_append,List.mem_cons,not_or] at hnd
  obtain ⟨ndl,⟨⟨hxr,hxc⟩,ndr,ndc,drc'⟩,dl'⟩:=hnd
  have dlx:∀y∈l.ls,y≠x:=fun y hy=>dl' y hy x (.inl rfl)
  have dlr:∀y∈l.ls,y∈r.ls→False:=fun y hy hy'=>dl' y hy y (.inr (.inl hy')) rfl
  have dlc:∀y∈l.ls,y∈cls c→False:=fun y hy hy'=>dl' y hy y (.inr (.inr hy')) rfl
  have drx:∀y∈r.ls,y≠x:=fun y hy e=>hxr (e ▸ hy)
  have drc:∀y∈r.ls,y∈cls c→False:=fun y hy hy'=>drc' y hy y hy' rfl
  have hlx:∀y:Nat,(y:Int)=l.rt→y≠x:=fun y h=>dlx y (Qaq h)
  have hrx:∀y:Nat,(y:Int)=r.rt→y≠x:=fun y h=>drx y (Qaq h)
  have hl1:-1≤l.rt:=by rcases Qcl l with h | ⟨y,h,_⟩<;>omega
  have hr1:-1≤r.rt:=by rcases Qcl r with h | ⟨y,h,_⟩<;>omega
  have e:pushS s x=tog (tog (swapS s x) r.rt) l.rt:=by
   unfold pushS;rw [hx,hX.turned,hX.left,hX.right];simp
  rw [e]
  have q1:=Q7b (swapS s x) r.rt
  have q2:=Q7b (tog (swapS s x) r.rt) l.rt
  have tt:∀y,(tog (tog (swapS s x) r.rt) l.rt).turned y=if y=x then false else if (y:Int)=l.rt∨(y:Int)=r.rt then !(s.turned y) else s.turned y:=by
   intro y
   rw [Q2v,Q2v]
   have h0:(swapS s x).turned y=if y=x then false else s.turned y:=by simp [swapS,upd]
   rw [h0]
   by_cases h1:y=x
   ·subst h1
    have a1:¬(l.rt≠-1∧y=l.rt.toNat):=fun h=>hlx y (by omega) rfl
    have a2:¬(r.rt≠-1∧y=r.rt.toNat):=fun h=>hrx y (by omega) rfl
    rw [if_neg a1,if_neg a2];simp
   ·simp only [if_neg h1]
    by_cases h2:(y:Int)=l.rt
    ·have a2:¬(r.rt≠-1∧y=r.rt.toNat):=fun h=>dlr y (Qaq h2) (Qaq (by omega))
     rw [if_pos ⟨by omega,by omega⟩,if_neg a2,if_pos (.inl h2)]
    ·rw [if_neg (by omega)]
     by_cases h3:(y:Int)=r.rt
     ·rw [if_pos ⟨by omega,by omega⟩,if_pos (.inr h3)]
     ·rw [if_neg (by omega),if_neg (by simp [h2,h3])]
  have ll:∀y,(tog (tog (swapS s x) r.rt) l.rt).left y=if y=x then r.rt else s.left y:=by
   intro y;rw [q2.left,q1.left];simp [swapS,upd,hX.right]
  have rr:∀y,(tog (tog (swapS s x) r.rt) l.rt).right y=if y=x then l.rt else s.right y:=by
   intro y;rw [q2.right,q1.right];simp [swapS,upd,hX.left]
  have uu:∀y,(tog (tog (swapS s x) r.rt) l.rt).up y=s.up y:=by intro y;rw [q2.up,q1.up];simp [swapS]
  have zz:∀y,(tog (tog (swapS s x) r.rt) l.rt).size y=s.size y:=by intro y;rw [q2.size,q1.size];simp [swapS]
  have vv:∀y,(tog (tog (swapS s x) r.rt) l.rt).value y=s.value y:=by intro y;rw [q2.value,q1.value];simp [swapS]
  have su:∀y,(tog (tog (swapS s x) r.rt) l.rt).sum y=s.sum y:=by intro y;rw [q2.sum,q1.sum];simp [swapS]
  have le:∀y,(tog (tog (swapS s x) r.rt) l.rt).least y=s.least y:=by intro y;rw [q2.least,q1.least];simp [swapS]
  have mo:∀y,(tog (tog (swapS s x) r.rt) l.rt).most y=s.most y:=by intro y;rw [q2.most,q1.most];simp [swapS]
  have eq:∀y,y≠x→(y:Int)≠l.rt→(y:Int)≠r.rt→Eqv s (tog (tog (swapS s x) r.rt) l.rt) y:=fun y h1 h2 h3=>
   ⟨uu y,by rw [ll,if_neg h1],by rw [rr,if_neg h1],by rw [tt,if_neg h1,if_neg (by simp [h2,h3])],zz y,vv y,su y,le y,mo y⟩
  have fl:∀(t:T),(t=l∨t=r)→∀y:Nat,(y:Int)=t.rt→y≠x→(tog (tog (swapS s x) r.rt) l.rt).turned y=!(s.turned y)∧(tog (tog (swapS s x) r.rt) l.rt).size y=s.size y∧(tog (tog (swapS s x) r.rt) l.rt).value y=s.value y∧(tog (tog (swapS s x) r.rt) l.rt).sum y=s.sum y∧(tog (tog (swapS s x) r.rt) l.rt).least y=s.least y∧(tog (tog (swapS s x) r.rt) l.rt).most y=s.most y∧(tog (tog (swapS s x) r.rt) l.rt).left y=s.left y∧(tog (tog (swapS s x) r.rt) l.rt).right y=s.right y:=by
   intro t ht y hy hne
   refine ⟨?_,zz y,vv y,su y,le y,mo y,by rw [ll,if_neg hne],by rw [rr,if_neg hne]⟩
   rw [tt,if_neg hne,if_pos]
   rcases ht with rfl | rfl
   ·exact .inl hy
   ·exact .inr hy
  have hp:(T.node l x true r).ls.Perm (T.node r.flip x false l.flip).ls:=Qqq l x true r
  refine ⟨(Qda c _).2 ⟨⟨⟨?_,?_,?_,?_,?_,?_⟩,?_,?_⟩,?_⟩,fun y hy=>?_⟩
  ·rw [uu,hX.up]
  ·rw [ll,if_pos rfl,T.Zb2]
  ·rw [rr,if_pos rfl,T.Zb2]
  ·rw [tt,if_pos rfl]
  ·rw [vv,hX.value]
  ·exact Agg.perm (l:=l.ls++x::r.ls) ⟨by rw [zz];exact hX.agg.size,by rw [su];exact hX.agg.sum,by rw [le];exact hX.agg.least,by rw [mo];exact hX.agg.most⟩ hp
  ·exact hr.flip (fun y hy hne=>eq y (drx y hy) (fun e=>dlr y (Qaq e) hy) hne) (fun y hy=>by
    obtain ⟨a1,a2,a3,a4,a5,a6,a7,a8⟩:=fl r (.inr rfl) y hy (hrx y hy)
    exact ⟨a1,a2,a3,a4,a5,a6,a7,a8,by rw [uu,(hr.root hy).1]⟩) ndr
  ·exact hl.flip (fun y hy hne=>eq y (dlx y hy) hne (fun e=>dlr y hy (Qaq e))) (fun y hy=>by
    obtain ⟨a1,a2,a3,a4,a5,a6,a7,a8⟩:=fl l (.inl rfl) y hy (hlx y hy)
    exact ⟨a1,a2,a3,a4,a5,a6,a7,a8,by rw [uu,(hl.root hy).1]⟩) ndl
  ·refine RepC.congr (u:=.node l x true r) c (fun y hy=>eq y (fun e=>hxc (e ▸ hy)) (fun e=>dlc y (Qaq e) hy) (fun e=>drc y (Qaq e) hy)) rfl hp hC
  ·rw [(Qcv c _).mem_iff] at hy
   simp only [T.ls,List.mem_append,List.mem_cons,not_or] at hy
   exact eq y hy.1.2.1 (fun e=>hy.1.1 (Qaq e)) (fun e=>hy.1.2.2 (Qaq e))
theorem Zez (f:Fr) {u u':T} (h:u.seq=u'.seq):(f.fill u).seq=(f.fill u').seq:=by
 unfold Fr.fill;cases f.d<;>simp [T.seq,h]
theorem Q0p (c:List Fr):∀{u u':T},u.seq=u'.seq→(plug c u).seq=(plug c u').seq:=by
 induction c with
 | nil=>intro u u' h;exact h
 | cons f c ih=>intro u u' h;exact ih (Zez f h)
theorem Qxj (c:List Fr):∀{u u':T},u.ls.Perm u'.ls→(plug c u).ls.Perm (plug c u').ls:=by
 induction c with
 | nil=>intro u u' h;exact h
 | cons f c ih=>intro u u' h;exact ih (Qp7 f h)
structure Gd (s₀:S) (v:Nat→Int) (t:T) (s:S) (t':T):Prop where
 rep:Rep s v (-1) t'
 perm:t.ls.Perm t'.ls
 seq:t'.seq=t.seq
 other:∀y,y∉t.ls→Eqv s₀ s y
structure Tr (n:Nat) (s:S) (v:Nat→Int) (t:T):Prop where
 vr:VR v
 rep:Rep s v (-1) t
 nd:t.ls.Nodup
 bd:∀y∈t.ls,y<n
 wf:Wf n s
 small:n≤8388608
theorem Qbh {l:List Nat} (h:l.Nodup) {n:Nat} (hb:∀y∈l,y<n):l.length≤n:=by
 induction n generalizing l with
 | zero=>cases l with
  | nil=>simp
  | cons a l=>exact absurd (hb a (by simp)) (by omega)
 | succ n ih=>
  by_cases hn:n∈l
  ·have h1:=ih (h.erase n) (fun y hy=>by
    have h2:=hb y (List.mem_of_mem_erase hy)
    have h3:y≠n:=fun e=>by subst e;exact (h.not_mem_erase) hy
    omega)
   rw [List.length_erase_of_mem hn] at h1
   omega
  ·have:=ih h (fun y hy=>by
    have h2:=hb y hy
    have h3:y≠n:=fun e=>hn (e ▸ hy)
    omega)
   omega
theorem Rep.links {n:Nat} {s:S} {v:Nat→Int} {t:T}:∀{p:Int},Rep s v p t→-1≤p→p<n→(∀y∈t.ls,y<n)→∀y∈t.ls,(-1≤s.up y∧s.up y<n)∧(-1≤s.left y∧s.left y<n)∧(-1≤s.right y∧s.right y<n):=by
 induction t with
 | nil=>intro p _ _ _ _ y hy;cases hy
 | node l x b r hl hr=>
  intro p h hp0 hp1 hb y hy
  have hx:=hb x (by simp [T.ls])
  have hbl:∀y∈l.ls,y<n:=fun y hy=>hb y (by simp [T.ls,hy])
  have hbr:∀y∈r.ls,y<n:=fun y hy=>hb y (by simp [T.ls,hy])
  simp only [T.ls,List.mem_append,List.mem_cons] at hy
  rcases hy with hy | rfl | hy
  ·exact hl h.2.1 (by omega) (by omega) hbl y hy
  ·have h1:-1≤l.rt∧l.rt<n:=by
    rcases Qcl l with e | ⟨z,e,hz⟩
    ·omega
    ·have:=hbl z hz;omega
   have h2:-1≤r.rt∧r.rt<n:=by
    rcases Qcl r with e | ⟨z,e,hz⟩
    ·omega
    ·have:=hbr z hz;omega
   rw [h.1.up,h.1.left,h.1.right]
   exact ⟨⟨hp0,hp1⟩,h1,h2⟩
  ·exact hr h.2.2 (by omega) (by omega) hbr y hy
theorem Gd.wf {n:Nat} {s₀ s:S} {v:Nat→Int} {t t':T} (g:Gd s₀ v t s t') (k:Tr n s₀ v t):Wf n s:=by
 intro i hi
 by_cases h:i∈t.ls
 ·exact g.rep.links (by omega) (by omega) (fun y hy=>k.bd y (g.perm.mem_iff.2 hy)) i (g.perm.mem_iff.1 h)
 ·have e:=g.other i h
  rw [e.up,e.left,e.right];exact k.wf i hi
theorem Gd.tr {n:Nat} {s₀ s:S} {v:Nat→Int} {t t':T} (g:Gd s₀ v t s t') (k:Tr n s₀ v t):Tr n s v t':=
 ⟨k.vr,g.rep,g.perm.nodup_iff.1 k.nd,fun y hy=>k.bd y (g.perm.mem_iff.2 hy),g.wf k,k.small⟩
theorem Gd.refl {s:S} {v:Nat→Int} {t:T} (h:Rep s v (-1) t):Gd s v t s t:=⟨h,List.Perm.refl _,rfl,fun y _=>Eqv.refl s y⟩
theorem Gd.trans {s₀ s s':S} {v:Nat→Int} {t t' t'':T} (g:Gd s₀ v t s t') (g':Gd s v t' s' t''):Gd s₀ v t s' t'':=
 ⟨g'.rep,g.perm.trans g'.perm,g'.seq.trans g.seq,fun y hy=>(g.other y hy).trans (g'.other y (fun h=>hy (g.perm.mem_iff.2 h)))⟩
theorem Tr.len {n:Nat} {s:S} {v:Nat→Int} {t:T} (k:Tr n s v t):t.ls.length≤8388608:=Nat.le_trans (Qbh k.nd k.bd) k.small
theorem Q23 {n:Nat} {s:S} {v:Nat→Int} {f:Fr} {c:List Fr} {l r:T} {x:Nat} (k:Tr n s v (plug (f::c) (.node l x false r))) (hb:f.b=false) :
  Gd s v (plug (f::c) (.node l x false r)) (rotS s x) (plug c (rotT f l x r)):=by
 have hl:=k.len
 obtain ⟨h1,h2⟩:=Zh7 k.vr hb k.rep k.nd (by omega)
 exact ⟨h1,Qxj c (by rw [Qyo]),Q0p c (Q7o hb),h2⟩
theorem Q4h {n:Nat} {s:S} {v:Nat→Int} {c:List Fr} {l r:T} {x:Nat} {b:Bool} (k:Tr n s v (plug c (.node l x b r))) :
  Gd s v (plug c (.node l x b r)) (pushS s x) (plug c (pushT l x b r)):=by
 obtain ⟨h1,h2⟩:=Q7v k.rep k.nd
 exact ⟨h1,Qxj c (Qqq l x b r),Q0p c (Q1e l x b r),h2⟩
inductive Pth:T→Nat→List Nat→Prop
 | here {l r:T} {x:Nat} {b:Bool}:Pth (.node l x b r) x [x]
 | lf {l r:T} {x y:Nat} {b:Bool} {ρ:List Nat}:Pth l x ρ→Pth (.node l y b r) x (y::ρ)
 | rg {l r:T} {x y:Nat} {b:Bool} {ρ:List Nat}:Pth r x ρ→Pth (.node l y b r) x (y::ρ)
theorem Pth.flip {t:T} {x:Nat} {ρ:List Nat} (h:Pth t x ρ):Pth t.flip x ρ:=by
 cases h with
 | here=>exact .here
 | lf h=>exact .lf h
 | rg h=>exact .rg h
theorem Pth.ex {t:T} {x:Nat} (h:x∈t.ls):∃ρ,Pth t x ρ:=by
 induction t with
 | nil=>cases h
 | node l y b r hl hr=>
  simp only [T.ls,List.mem_append,List.mem_cons] at h
  rcases h with h | rfl | h
  ·obtain ⟨ρ,hρ⟩:=hl h;exact ⟨_,.lf hρ⟩
  ·exact ⟨_,.here⟩
  ·obtain ⟨ρ,hρ⟩:=hr h;exact ⟨_,.rg hρ⟩
theorem Pth.sub {t:T} {x:Nat} {ρ:List Nat} (h:Pth t x ρ):∀y∈ρ,y∈t.ls:=by
 induction h with
 | here=>intro y hy;simp at hy;subst hy;simp [T.ls]
 | lf _ ih=>intro y hy;rcases List.mem_cons.1 hy with rfl | hy;simp [T.ls];simp [T.ls,ih y hy]
 | rg _ ih=>intro y hy;rcases List.mem_cons.1 hy with rfl | hy;simp [T.ls];simp [T.ls,ih y hy]
theorem Pth.ne {t:T} {x:Nat} {ρ:List Nat} (h:Pth t x ρ):ρ≠[]:=by cases h<;>simp
theorem Pth.last {t:T} {x:Nat} {ρ:List Nat} (h:Pth t x ρ):ρ.getLast?=some x:=by
 induction h with
 | here=>rfl
 | lf h ih=>rw [List.getLast?_cons,ih];rfl
 | rg h ih=>rw [List.getLast?_cons,ih];rfl
theorem Pth.len {t:T} {x:Nat} {ρ:List Nat} (h:Pth t x ρ):ρ.length≤t.ls.length:=by
 induction h with
 | here=>simp [T.ls];omega
 | lf h ih=>simp [T.ls];omega
 | rg h ih=>simp [T.ls];omega
def abv (p:Int) (ρ:List Nat):Int:=match ρ.getLast? with | some y=>y | none=>p
theorem Q4y (p:Int) (ρ:List Nat) (y:Nat):abv p (ρ++[y])=y:=by simp [abv]
theorem Q81 (p:Int) (ρ:List Nat) (y:Nat):abv p (y::ρ)=abv y ρ:=by
 unfold abv;rw [List.getLast?_cons];cases ρ.getLast?<;>rfl
theorem Pth.up {s:S} {v:Nat→Int} {t:T} {x:Nat} {ρ:List Nat} (h:Pth t x ρ):∀{p:Int},Rep s v p t→∀ρ1 y ρ2,ρ=ρ1++y::ρ2→s.up y=abv p ρ1:=by
 induction h with
 | here=>
  intro p hR ρ1 y ρ2 e
  cases ρ1 with
  | nil=>injection e with e1 e2;subst e1;exact hR.1.up
  | cons a ρ1=>simp at e
 | lf h ih=>
  intro p hR ρ1 y ρ2 e
  cases ρ1 with
  | nil=>injection e with e1 e2;subst e1;exact hR.1.up
  | cons a ρ1=>injection e with e1 e2;subst e1;rw [Q81];exact ih hR.2.1 _ _ _ e2
 | rg h ih=>
  intro p hR ρ1 y ρ2 e
  cases ρ1 with
  | nil=>injection e with e1 e2;subst e1;exact hR.1.up
  | cons a ρ1=>injection e with e1 e2;subst e1;rw [Q81];exact ih hR.2.2 _ _ _ e2
theorem Pth.step {u:T} {x y:Nat} {ρ:List Nat} (h:Pth u x (y::ρ)):∃l b r,u=.node l y b r∧
  ((ρ=[]∧x=y)∨∃(f:Fr) (u':T),f.p=y∧f.b=false∧pushT l y b r=f.fill u'∧Pth u' x ρ):=by
 cases h with
 | here=>exact ⟨_,_,_,rfl,.inl ⟨rfl,rfl⟩⟩
 | lf h=>
  rename_i l r b
  refine ⟨l,b,r,rfl,.inr ?_⟩
  cases b
  ·exact ⟨⟨true,y,false,r⟩,l,rfl,rfl,by simp [pushT,Fr.fill],h⟩
  ·exact ⟨⟨false,y,false,r.flip⟩,l.flip,rfl,rfl,by simp [pushT,Fr.fill],h.flip⟩
 | rg h=>
  rename_i l r b
  refine ⟨l,b,r,rfl,.inr ?_⟩
  cases b
  ·exact ⟨⟨false,y,false,l⟩,r,rfl,rfl,by simp [pushT,Fr.fill],h⟩
  ·exact ⟨⟨true,y,false,l.flip⟩,r.flip,rfl,rfl,by simp [pushT,Fr.fill],h.flip⟩
theorem Q0x:ET Pg 59 21 1 4:=ET.of (by kernel_rfl) (by kernel_rfl)
theorem Qdv:ET Pg 58 3 1 8:=ET.of (by kernel_rfl) (by kernel_rfl)
def Clean (c:List Fr):Prop:=∀f∈c,f.b=false
theorem Qha (f:Fr) (l r:T) (x:Nat):∃l' r',rotT f l x r=.node l' x false r':=by
 unfold rotT;cases f.d
 ·exact ⟨_,_,rfl⟩
 ·exact ⟨_,_,rfl⟩
theorem Q0r {s:S} {v:Nat→Int} {f:Fr} {c:List Fr} {l r:T} {x:Nat} (h:Rep s v (-1) (plug (f::c) (.node l x false r))) (hn:(plug (f::c) (.node l x false r)).ls.Nodup) :
  s.up x=f.p∧s.up f.p=par (-1) c∧(s.left f.p==(x:Int))=f.d:=by
 obtain ⟨⟨hX,_,_⟩,hNF,hsib,hC⟩:=(Qda (f::c) _).1 h
 have hnd:=(Qcv (f::c) (.node l x false r)).nodup_iff.1 hn
 simp only [T.ls,cls,List.append_assoc,List.cons_append,List.nodup_append,List.nodup_cons,List.mem_append,List.mem_cons,not_or] at hnd
 refine ⟨hX.up,?_,?_⟩
 ·unfold NdF at hNF;cases hd:f.d<;>simp only [hd,if_true,Bool.false_eq_true,if_false] at hNF<;>exact hNF.up
 ·unfold NdF at hNF
  cases hd:f.d<;>simp only [hd,if_true,Bool.false_eq_true,if_false] at hNF
  ·rw [hNF.left]
   have:f.sib.rt≠(x:Int):=fun e=>hnd.2.1.1.2.2.1 (Qaq e.symm)
   simpa using this
  ·rw [hNF.left];simp [T.rt]
theorem Zbw {s:S} {v:Nat→Int} {f g:Fr} {c:List Fr} {l r:T} {x:Nat} (h:Rep s v (-1) (plug (f::g::c) (.node l x false r))) (hn:(plug (f::g::c) (.node l x false r)).ls.Nodup) (hb:f.b=false) :
  (s.left g.p==(f.p:Int))=g.d:=by
 have e:plug (f::g::c) (.node l x false r)=plug (g::c) (f.fill (.node l x false r)):=rfl
 rw [e] at h hn
 unfold Fr.fill at h hn
 rw [hb] at h hn
 cases hd:f.d<;>simp only [hd,if_true,Bool.false_eq_true,if_false] at h hn<;>exact (Q0r h hn).2.2
theorem Zdx {n:Nat} {s:S} {v:Nat→Int} {f g:Fr} {c:List Fr} {l r:T} {x:Nat} (k:Tr n s v (plug (f::g::c) (.node l x false r))) (hf:f.b=false) (hg:g.b=false) (hd:g.d=f.d) :
  ∃f':Fr,f'.b=false∧Gd s v (plug (f::g::c) (.node l x false r)) (rotS s f.p) (plug (f'::c) (.node l x false r)):=by
 have e:plug (f::g::c) (.node l x false r)=plug (g::c) (f.fill (.node l x false r)):=rfl
 rw [e] at k ⊢
 unfold Fr.fill at k ⊢
 rw [hf] at k ⊢
 cases hfd:f.d<;>simp only [hfd,if_true,Bool.false_eq_true,if_false] at k ⊢
 ·refine ⟨⟨false,f.p,false,.node g.sib g.p false f.sib⟩,rfl,?_⟩
  have:=Q23 k hg
  unfold rotT at this
  rw [hd,hfd] at this
  exact this
 ·refine ⟨⟨true,f.p,false,.node f.sib g.p false g.sib⟩,rfl,?_⟩
  have:=Q23 k hg
  unfold rotT at this
  rw [hd,hfd] at this
  exact this
theorem Q5o {w:World} {F L n:Nat} {s:S} {v:Nat→Int} {t:T} {x:Nat} (h:IsF w.heap F L n s) (k:Tr n s v t) (hx:x∈t.ls) :
  Calls Pg 296 #[.pointer (some ⟨F,0,none⟩),.int .i32 x] w fun e w'=>e=.returned (.tuple #[])∧∃s' l r,St w w' F L n s'∧Gd s v t s' (.node l x false r):=by
 have hst:=St.start h
 have hxn:=k.bd x hx
 obtain ⟨ρ,hρ⟩:=Pth.ex hx
 have hρl:=hρ.len
 have hlen:=k.len
 have hρn:∀y∈ρ,y<n:=fun y hy=>k.bd y (hρ.sub y hy)
 refine (Qtg _ _).go ?_
 unfold Qmw nr
 let J1:Nat→List Value→World→Prop:=fun j vs w'=>∃ρ1 ρ2 b l c,∃y:Int,vs=[.slice b l c,.int .i32 y]∧ρ=ρ1++ρ2∧y=abv (-1) ρ1∧j=ρ1.length∧l=ρ2.length∧
  Own w' w.heap.size 21 1 b l c (ρ2.reverse.map fun z:Nat=>.int .i32 z)∧St w w' F L n s
 refine ⟨LI J1,LM J1,⟨ρ.length,ρ,[],none,0,0,x,rfl,by simp,by unfold abv;rw [hρ.last],rfl,rfl,Own.nil,hst⟩,?_⟩
 intro _ sb sl sc y w6 hI
 have hJ:=hI.at
 obtain ⟨ρ1,ρ2,b,l,c,y',hvs,hρ12,hy,hj,hl,hown,hst6⟩:=hJ
 simp only [vk] at hvs
 obtain ⟨⟨rfl,rfl,rfl⟩,rfl⟩:=hvs
 refine Qac (fun hc=>?_) (fun hc=>?_)<;>simp only [b1s] at hc
 ·obtain ⟨ρ1',z,rfl⟩:∃ρ1' z,ρ1=ρ1'++[z]:=by
   rcases List.eq_nil_or_concat ρ1 with rfl | ⟨a,z,rfl⟩
   ·exact absurd hy hc
   ·exact ⟨a,z,by simp⟩
  rw [Q4y] at hy
  subst hy
  have hzn:z<n:=hρn z (by rw [hρ12];simp)
  have hup:s.up z=abv (-1) ρ1':=hρ.up k.rep ρ1' z ρ2 (by rw [hρ12];simp)
  refine Qal fun hrow=>?_
  have hlr:ρ2.length≤8388608:=by
   have:ρ.length=ρ1'.length+1+ρ2.length:=by rw [hρ12];simp;omega
   omega
  have hsz6:=hst6.c.size
  obtain ⟨b',c',w10,hrun,hown',hchg⟩:=Q20 (ty:=59) Q0x (hown.alloc _) hrow rfl (fun u hu=>by simp at hu;subst hu;rfl)
   (by show w.heap.size≤(w6.heap.push _).size;simp;omega) (by omega) (by omega)
  refine ⟨b',ρ2.length+1,c',w10,by subst hl;exact hrun,?_⟩
  have hst10:=(hst6.alloc _).own hchg
  have hzz:(z:Int).toNat=z:=by omega
  repeat (first | (with_reducible first | refine pt_i ?_ | refine gF ?_ | refine Qa1 (by omega) (by omega) ?_ | refine g0 ?_ | refine g1 ?_ | refine g2 ?_ | refine g3 ?_ | refine g4 ?_ | refine g5 ?_ | refine g6 ?_ | refine g7 ?_ | refine g8 ?_ | refine s0 fun _ hst=>?_ | refine s1 fun _ hst=>?_ | refine s2 fun _ hst=>?_ | refine s3 fun _ hst=>?_ | refine s4 fun _ hst=>?_ | refine s5 fun _ hst=>?_ | refine s6 fun _ hst=>?_ | refine s7 fun _ hst=>?_ | refine s8 fun _ hst=>?_) | simp only [projS,Qab])
  rw [hzz,hup]
  refine LI.again (k:=ρ1'.length) ⟨ρ1',z::ρ2,b',ρ2.length+1,c',_,rfl,by rw [hρ12];simp,rfl,rfl,by simp,?_,hst10⟩ (by rw [hj];simp)
  subst hl
  simpa using hown'
 ·
  obtain rfl:ρ1=[]:=by
   rcases List.eq_nil_or_concat ρ1 with rfl | ⟨a,z,rfl⟩
   ·rfl
   ·rw [List.concat_eq_append,Q4y] at hy;omega
  simp only [List.nil_append] at hρ12
  subst hρ12
  have hLb:=hst.lt.2
  let J2:Nat→List Value→World→Prop:=fun j vs w'=>∃ρa ρb,∃i:Int,vs=[.int .i64 i]∧ρ=ρa++ρb∧i=(ρb.length:Int)-1∧j=ρb.length∧∃s' c u,Clean c∧St w w' F L n s'∧Gd s v t s' (plug c u)∧
   ((ρb=[]∧∃l r,u=.node l x false r)∨Pth u x ρb)∧Own w' w.heap.size 21 1 sb sl sc (ρ.reverse.map fun z:Nat=>.int .i32 z)
  have hw1:IntKind.i64.wrap ((sl:Int)-1)=(ρ.length:Int)-1:=by rw [hl,IntKind.wrap_i64];omega
  rw [hw1]
  refine ⟨LI J2,LM J2,⟨ρ.length,[],ρ,_,rfl,rfl,rfl,rfl,s,[],t,(fun f hf=>by cases hf),hst6,Gd.refl k.rep,.inr hρ,hown⟩,?_⟩
  intro _ i w18 hI2
  obtain ⟨ρa,ρb,i',hvs,hab,hi,hj2,s2,c2,u2,hcl,hst18,hgd,hu,hown18⟩:=hI2.at
  simp only [vj] at hvs
  subst hvs
  refine Qac (fun hc2=>?_) (fun hc2=>?_)<;>simp only [b1s] at hc2
  ·cases ρb with
   | nil=>simp at hi;omega
   | cons y0 ρb=>
    have hPth:Pth u2 x (y0::ρb):=hu.resolve_left (fun h=>by simp at h)
    obtain ⟨l2,b2,r2,rfl,hnext⟩:=hPth.step
    have hy0:y0<n:=hρn y0 (by rw [hab];simp)
    have hwf:=hgd.wf k
    obtain ⟨_,⟨a1,a2⟩,a3,a4⟩:=hwf y0 hy0
    have hlen2:ρ.length=ρa.length+1+ρb.length:=by rw [hab];simp;omega
    obtain ⟨g,cs,rfl,hgb,hgr,hgx,_,_⟩:=hown18.get (by omega)
    have hiN:i=((ρb.length:Nat):Int):=by rw [hi];simp
    subst hiN
    refine Qat (by omega) ?_
    refine Qaf (n:=y0) hgr ?_ ?_
    ·rw [Qi9 hgx (by omega),hab]
     simp
    ·have hyy:(y0:Int).toNat=y0:=by omega
     refine (Qyd hst18.i (by omega) (by omega) (by rw [hyy];exact a1) (by rw [hyy];exact a2) (by rw [hyy];exact a3) (by rw [hyy];exact a4)).mono ?_
     rintro e w21 ⟨rfl,hst21⟩
     refine ⟨rfl,?_⟩
     have hgd':=hgd.trans (Q4h (hgd.tr k))
     have hown21:=hown18.chg hst21.c (fun g' hg' _ (e:g'=L)=>by omega)
     have hw2:IntKind.i64.wrap ((ρb.length:Int)-1)=(ρb.length:Int)-1:=by rw [IntKind.wrap_i64];omega
     rw [hw2]
     refine LI.again (k:=ρb.length) ?_ (by rw [hj2];simp)
     rcases hnext with ⟨rfl,rfl⟩ | ⟨f,u',hfp,hfb,hfill,hP'⟩
     ·obtain ⟨l',r',hsh⟩:=Qi1 l2 x b2 r2
      rw [hsh] at hgd'
      exact ⟨ρa++[x],[],_,rfl,by rw [hab];simp,rfl,rfl,_,c2,_,hcl,hst18.trans hst21,hgd',.inl ⟨rfl,l',r',rfl⟩,hown21⟩
     ·rw [hfill] at hgd'
      exact ⟨ρa++[y0],ρb,_,rfl,by rw [hab];simp,rfl,rfl,_,f::c2,u',(fun f' hf'=>by rcases List.mem_cons.1 hf' with rfl | h;exact hfb;exact hcl _ h),hst18.trans hst21,hgd',.inr hP',hown21⟩
  ·
   obtain ⟨l2,r2,rfl⟩:∃l r,u2=.node l x false r:=by
    rcases hu with ⟨_,h⟩ | h
    ·exact h
    ·have:=List.length_pos_iff.2 h.ne;omega
   let J3:Nat→List Value→World→Prop:=fun j vs w'=>vs=[]∧∃s' c l r,Clean c∧j=c.length∧St w w' F L n s'∧Gd s v t s' (plug c (.node l x false r))
   refine ⟨LI J3,LM J3,⟨_,rfl,s2,c2,l2,r2,hcl,rfl,hst18,hgd⟩,?_⟩
   intro _ w25 hI3
   obtain ⟨_,s3,c3,l3,r3,hcl3,hj3,hst25,hgd3⟩:=hI3.at
   clear hst hst6 hst18
   have hxx:(x:Int).toNat=x:=by omega
   have htr:=hgd3.tr k
   have hwf3:=hgd3.wf k
   repeat (first | (with_reducible first | refine pt_i ?_ | refine gF ?_ | refine Qa1 (by omega) (by omega) ?_ | refine g0 ?_ | refine g1 ?_ | refine g2 ?_ | refine g3 ?_ | refine g4 ?_ | refine g5 ?_ | refine g6 ?_ | refine g7 ?_ | refine g8 ?_ | refine s0 fun _ hst=>?_ | refine s1 fun _ hst=>?_ | refine s2 fun _ hst=>?_ | refine s3 fun _ hst=>?_ | refine s4 fun _ hst=>?_ | refine s5 fun _ hst=>?_ | refine s6 fun _ hst=>?_ | refine s7 fun _ hst=>?_ | refine s8 fun _ hst=>?_) | simp only [projS,Qab])
   rw [hxx]
   cases c3 with
   | nil=>
    have hup:s3.up x=-1:=hgd3.rep.1.up
    rw [hup]
    exact ⟨by first | rfl | trivial,s3,l3,r3,hst25,hgd3⟩
   | cons f c3=>
    obtain ⟨hup,hupp,hld⟩:=Q0r hgd3.rep htr.nd
    have hfb:f.b=false:=hcl3 f (by simp)
    have hfp:f.p<n:=htr.bd f.p (by rw [(Qcv (f::c3) _).mem_iff];simp [cls])
    rw [hup]
    refine Qac (fun _=>?_) (fun h0=>?_)
    ·have hff:(f.p:Int).toNat=f.p:=by omega
     repeat (first | (with_reducible first | refine pt_i ?_ | refine gF ?_ | refine Qa1 (by omega) (by omega) ?_ | refine g0 ?_ | refine g1 ?_ | refine g2 ?_ | refine g3 ?_ | refine g4 ?_ | refine g5 ?_ | refine g6 ?_ | refine g7 ?_ | refine g8 ?_ | refine s0 fun _ hst=>?_ | refine s1 fun _ hst=>?_ | refine s2 fun _ hst=>?_ | refine s3 fun _ hst=>?_ | refine s4 fun _ hst=>?_ | refine s5 fun _ hst=>?_ | refine s6 fun _ hst=>?_ | refine s7 fun _ hst=>?_ | refine s8 fun _ hst=>?_) | simp only [projS,Qab])
     rw [hxx,hup]
     repeat (first | (with_reducible first | refine pt_i ?_ | refine gF ?_ | refine Qa1 (by omega) (by omega) ?_ | refine g0 ?_ | refine g1 ?_ | refine g2 ?_ | refine g3 ?_ | refine g4 ?_ | refine g5 ?_ | refine g6 ?_ | refine g7 ?_ | refine g8 ?_ | refine s0 fun _ hst=>?_ | refine s1 fun _ hst=>?_ | refine s2 fun _ hst=>?_ | refine s3 fun _ hst=>?_ | refine s4 fun _ hst=>?_ | refine s5 fun _ hst=>?_ | refine s6 fun _ hst=>?_ | refine s7 fun _ hst=>?_ | refine s8 fun _ hst=>?_) | simp only [projS,Qab])
     rw [hff,hupp]
     cases c3 with
     | nil=>
      refine Qac (fun h1=>by simp [par] at h1) (fun _=>?_)
      refine (Qrb hst25.i (by omega) (by omega) hwf3 (by rw [hxx,hup];omega)).mono ?_
      rintro e w31 ⟨rfl,hst31⟩
      refine ⟨rfl,?_⟩
      have hg:=hgd3.trans (Q23 htr hfb)
      obtain ⟨l',r',hsh⟩:=Qha f l3 r3 x
      rw [hsh] at hg
      exact LI.again (k:=0) ⟨rfl,_,[],l',r',(fun f hf=>by cases hf),rfl,hst25.trans hst31,hg⟩ (by rw [hj3];simp only [List.length_cons];omega)
     | cons g c3=>
      have hgb:g.b=false:=hcl3 g (by simp)
      have hgp:g.p<n:=htr.bd g.p (by rw [(Qcv (f::g::c3) _).mem_iff];simp [cls])
      have hgg:(g.p:Int).toNat=g.p:=by omega
      have hlg:=Zbw hgd3.rep htr.nd hfb
      simp only [par] at hupp ⊢
      refine Qac (fun _=>?_) (fun h1=>?_)
      ·repeat (first | (with_reducible first | refine pt_i ?_ | refine gF ?_ | refine Qa1 (by omega) (by omega) ?_ | refine g0 ?_ | refine g1 ?_ | refine g2 ?_ | refine g3 ?_ | refine g4 ?_ | refine g5 ?_ | refine g6 ?_ | refine g7 ?_ | refine g8 ?_ | refine s0 fun _ hst=>?_ | refine s1 fun _ hst=>?_ | refine s2 fun _ hst=>?_ | refine s3 fun _ hst=>?_ | refine s4 fun _ hst=>?_ | refine s5 fun _ hst=>?_ | refine s6 fun _ hst=>?_ | refine s7 fun _ hst=>?_ | refine s8 fun _ hst=>?_) | simp only [projS,Qab])
       rw [hgg,hff,hlg,hld]
       refine Qac (fun hd=>?_) (fun hd=>?_)
       ·have hd':g.d=f.d:=by simpa using hd
        refine (Qrb hst25.drew.i (by omega) (by omega) hwf3 (by rw [hff,hupp];omega)).mono ?_
        rintro e w46 ⟨rfl,hst46⟩
        refine ⟨rfl,?_⟩
        obtain ⟨f',hfb',hg1⟩:=Zdx htr hfb hgb hd'
        have hg2:=hgd3.trans hg1
        have htr2:=hg2.tr k
        obtain ⟨hup2,_,_⟩:=Q0r hg2.rep htr2.nd
        refine (Qrb hst46.i (by omega) (by omega) (hg2.wf k) (by rw [hxx,hup2];omega)).mono ?_
        rintro e w48 ⟨rfl,hst48⟩
        refine ⟨rfl,?_⟩
        have hg3:=hg2.trans (Q23 htr2 hfb')
        obtain ⟨l',r',hsh⟩:=Qha f' l3 r3 x
        rw [hsh] at hg3
        exact LI.again (k:=c3.length) ⟨rfl,_,c3,l',r',(fun f hf=>hcl3 f (by simp [hf])),rfl,(hst25.drew.trans hst46).trans hst48,hg3⟩ (by rw [hj3];simp only [List.length_cons];omega)
       ·refine (Qrb hst25.drew.i (by omega) (by omega) hwf3 (by rw [hxx,hup];omega)).mono ?_
        rintro e w46 ⟨rfl,hst46⟩
        refine ⟨rfl,?_⟩
        have hg2:=hgd3.trans (Q23 htr hfb)
        obtain ⟨l',r',hsh⟩:=Qha f l3 r3 x
        rw [hsh] at hg2
        have htr2:=hg2.tr k
        obtain ⟨hup2,_,_⟩:=Q0r hg2.rep htr2.nd
        refine (Qrb hst46.i (by omega) (by omega) (hg2.wf k) (by rw [hxx,hup2];omega)).mono ?_
        rintro e w48 ⟨rfl,hst48⟩
        refine ⟨rfl,?_⟩
        have hg3:=hg2.trans (Q23 htr2 hgb)
        obtain ⟨l'',r'',hsh'⟩:=Qha g l' r' x
        rw [hsh'] at hg3
        exact LI.again (k:=c3.length) ⟨rfl,_,c3,l'',r'',(fun f hf=>hcl3 f (by simp [hf])),rfl,(hst25.drew.trans hst46).trans hst48,hg3⟩ (by rw [hj3];simp only [List.length_cons];omega)
      ·simp at h1
    ·simp at h0
end Seq
end Go.Proofs.YtfeekmmfdkfgmaaGreatDoor
