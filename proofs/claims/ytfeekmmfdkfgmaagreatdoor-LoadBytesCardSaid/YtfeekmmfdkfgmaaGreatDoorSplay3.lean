/-
Trees that are kept in records with links: one rotation keeps them.
Conditions: those that each theorem states.
-/
import Derived.Test.YtfeekmmfdkfgmaaGreatDoorGSplay
set_option linter.unusedVariables false
set_option linter.unusedSimpArgs false
namespace Go.Proofs.YtfeekmmfdkfgmaaGreatDoor
open Go
namespace Seq
set_option maxHeartbeats 1000000 in
theorem Q48 {s:S} {v:Nat→Int} {f:Fr} {c:List Fr} {l r:T} {x:Nat} (hd:f.d=false) (hv:VR v) (hb:f.b=false) (hR:Rep s v (-1) (plug (f::c) (.node l x false r)))
  (hn:(plug (f::c) (.node l x false r)).ls.Nodup) (hlen:(plug (f::c) (.node l x false r)).ls.length≤1073741824) :
  Rep (rotS s x) v (-1) (plug c (rotT f l x r))∧∀y,y∉(plug (f::c) (.node l x false r)).ls→Eqv s (rotS s x) y:=by
 have hperm:=Qcv (f::c) (.node l x false r)
 have hnd:=hperm.nodup_iff.1 hn
 rw [hperm.length_eq] at hlen
 simp only [T.ls,cls,List.length_append,List.length_cons] at hlen
 simp only [T.ls,cls,List.append_assoc,List.cons_append,List.nodup_append,List.nodup_cons,List.mem_append,List.mem_cons,not_or] at hnd
 obtain ⟨⟨hX,hl,hr⟩,hNF,hsib,hC⟩:=(Qda (f::c) _).1 hR
 simp only [par] at hX hl hr
 obtain ⟨ndl,⟨⟨hxr,hxp,hxs,hxc⟩,ndr,⟨⟨hps,hpc⟩,nds,ndc',dsc⟩,drest⟩,dlrest⟩:=hnd
 have ndc:(cls c).Nodup∧True:=⟨ndc',trivial⟩
 have dlx:∀y∈l.ls,y≠x:=fun y hy=>dlrest y hy x (.inl rfl)
 have dlr:∀y∈l.ls,y∈r.ls→False:=fun y hy hy'=>dlrest y hy y (.inr (.inl hy')) rfl
 have dlp:∀y∈l.ls,y≠f.p:=fun y hy=>dlrest y hy f.p (.inr (.inr (.inl rfl)))
 have dls:∀y∈l.ls,y∈f.sib.ls→False:=fun y hy hy'=>dlrest y hy y (.inr (.inr (.inr (.inl hy')))) rfl
 have dlc:∀y∈l.ls,y∈cls c→False:=fun y hy hy'=>dlrest y hy y (.inr (.inr (.inr (.inr hy')))) rfl
 have drx:∀y∈r.ls,y≠x:=fun y hy e=>hxr (e ▸ hy)
 have drp:∀y∈r.ls,y≠f.p:=fun y hy=>drest y hy f.p (.inl rfl)
 have drs:∀y∈r.ls,y∈f.sib.ls→False:=fun y hy hy'=>drest y hy y (.inr (.inl hy')) rfl
 have drc:∀y∈r.ls,y∈cls c→False:=fun y hy hy'=>drest y hy y (.inr (.inr hy')) rfl
 have dsx:∀y∈f.sib.ls,y≠x:=fun y hy e=>hxs (e ▸ hy)
 have dsp:∀y∈f.sib.ls,y≠f.p:=fun y hy e=>hps (e ▸ hy)
 have dscc:∀y∈f.sib.ls,y∈cls c→False:=fun y hy hy'=>dsc y hy y hy' rfl
 have dcx:∀y∈cls c,y≠x:=fun y hy e=>hxc (e ▸ hy)
 have dcp:∀y∈cls c,y≠f.p:=fun y hy e=>hpc (e ▸ hy)
 have hl1:-1≤l.rt:=by rcases Qcl l with h | ⟨y,h,_⟩<;>omega
 have hr1:-1≤r.rt:=by rcases Qcl r with h | ⟨y,h,_⟩<;>omega
 have hg0:-1≤par (-1) c:=by rcases Qdd (-1) c with h | ⟨y,h,_⟩<;>omega
 have hgp:par (-1) c≠f.p:=by
  rcases Qdd (-1) c with h | ⟨y,h,hy⟩
  ·omega
  ·have:=dcp y hy;omega
 have hgx:par (-1) c≠x:=by
  rcases Qdd (-1) c with h | ⟨y,h,hy⟩
  ·omega
  ·have:=dcx y hy;omega
 have dg:∀y:Nat,y=x∨y=f.p∨((y∈l.ls∨y=x)∨(y∈r.ls∨y∈f.sib.ls))→(y:Int)≠par (-1) c:=by
  intro y hy
  rcases Qdd (-1) c with h | ⟨g,h,hg⟩
  ·omega
  ·rw [h]
   intro e
   have e':y=g:=by omega
   subst e'
   rcases hy with rfl | rfl | ((h | rfl) | (h | h))
   ·exact dcx _ hg rfl
   ·exact dcp _ hg rfl
   ·exact dlc _ h hg
   ·exact dcx _ hg rfl
   ·exact drc _ h hg
   ·exact dscc _ h hg
 have hlx:l.rt≠(x:Int):=fun e=>dlx x (Qaq e.symm) rfl
 have hlp:l.rt≠(f.p:Int):=fun e=>dlp f.p (Qaq e.symm) rfl
 have hrx:r.rt≠(x:Int):=fun e=>drx x (Qaq e.symm) rfl
 have hrp:r.rt≠(f.p:Int):=fun e=>drp f.p (Qaq e.symm) rfl
 have hsp:f.sib.rt≠(f.p:Int):=fun e=>dsp f.p (Qaq e.symm) rfl
 have hsibrt:∀z:Nat,z=x→f.sib.rt≠(z:Int):=fun z hz e=>dsx z (Qaq e.symm) hz
 have ndg:∀{g:Fr} {c':List Fr},c=g::c'→g.p∉g.sib.ls++cls c':=by
  intro g c' e
  subst e
  have:=ndc'
  simp only [cls,List.nodup_cons] at this
  exact this.1
 have hN:Nd s v f.p (par (-1) c) f.sib false (.node l x false r):=by
  have:=hNF;unfold NdF at this;rw [hd,hb] at this;simpa using this
 have hsx:(s.left f.p==(x:Int))=false:=by
  rw [hN.left]
  have:=hsibrt x (by simp);simpa using this
 obtain ⟨s4,RL,hrot⟩:=Q2y (B:=l.rt) (d:=false) hX.up hN.up hsx (by simp [hX.left]) hxp hgp hgx hg0 hl1 hlx hlp
 rw [hrot]
 have e46:∀y,y≠x→y≠f.p→Eqv s4 (pullS (pullS s4 f.p) x) y:=fun y h1 h2=>(Qay s4 f.p y h2).trans (Qay _ x y h1)
 have e4:∀y,y≠x→y≠f.p→(y:Int)≠par (-1) c→(y:Int)≠l.rt→Eqv s s4 y:=by
  intro y h1 h2 h3 h4
  have hu:=RL.up y
  have hl:=RL.left y
  have hr:=RL.right y
  rw [if_neg h1,if_neg h2,if_neg (by omega)] at hu
  rw [if_neg (by omega),if_neg (by simp [h2]),if_neg (by simp [h1])] at hl
  rw [if_neg (by omega),if_neg (by simp [h2]),if_neg (by simp [h1])] at hr
  have hE:=RL.rest y
  exact ⟨hu,hl,hr,hE.turned,hE.size,hE.value,hE.sum,hE.least,hE.most⟩
 have e6:∀y,y≠x→y≠f.p→(y:Int)≠par (-1) c→(y:Int)≠l.rt→Eqv s (pullS (pullS s4 f.p) x) y:=fun y h1 h2 h3 h4=>(e4 y h1 h2 h3 h4).trans (e46 y h1 h2)
 have RA:Rep (pullS (pullS s4 f.p) x) v x r:=hr.congr fun y hy=>e6 y (drx y hy) (drp y hy) (dg y (.inr (.inr (.inr (.inl hy))))) (fun e=>dlr y (Qaq e) hy)
 have RC:Rep (pullS (pullS s4 f.p) x) v f.p f.sib:=hsib.congr fun y hy=>e6 y (dsx y hy) (dsp y hy) (dg y (.inr (.inr (.inr (.inr hy))))) (fun e=>dls y (Qaq e) hy)
 have RB:Rep (pullS (pullS s4 f.p) x) v f.p l:=by
  refine hl.Q1b (fun y hy hne=>e6 y (dlx y hy) (dlp y hy) (dg y (.inr (.inr (.inl (.inl hy))))) hne) (fun y hy=>?_) ndl
  have hm:=Qaq hy
  have h1:=dlx y hm
  have h2:=dlp y hm
  have h3:=dg y (.inr (.inr (.inl (.inl hm))))
  have hE:=(e46 y h1 h2)
  have hR:=RL.rest y
  have hu:=RL.up y
  have hl:=RL.left y
  have hr:=RL.right y
  rw [if_neg h1,if_neg h2,if_pos (by omega)] at hu
  rw [if_neg (by omega),if_neg (by simp [h2]),if_neg (by simp [h1])] at hl
  rw [if_neg (by omega),if_neg (by simp [h2]),if_neg (by simp [h1])] at hr
  exact ⟨⟨hE.turned.trans hR.turned,hE.size.trans hR.size,hE.value.trans hR.value,hE.sum.trans hR.sum,hE.least.trans hR.least,hE.most.trans hR.most⟩,hE.left.trans hl,hE.right.trans hr,hE.up.trans hu⟩
 have agB:∀y:Nat,(y:Int)=l.rt→Agg s4 v y l.ls:=fun y hy=>(hl.root hy).2.1.congr (RL.rest y)
 have agC:∀y:Nat,(y:Int)=f.sib.rt→Agg s4 v y f.sib.ls:=fun y hy=>(hsib.root hy).2.1.congr (RL.rest y)
 have agA:∀y:Nat,(y:Int)=r.rt→Agg s4 v y r.ls:=fun y hy=>(hr.root hy).2.1.congr (RL.rest y)
 have hup:=RL.up f.p
 have hlp':=RL.left f.p
 have hrp':=RL.right f.p
 rw [if_neg (Ne.symm hxp),if_pos rfl] at hup
 rw [if_neg (by omega)] at hlp'
 rw [if_neg (by omega)] at hrp'
 have NP:Nd (pullS s4 f.p) v f.p x f.sib false l:=by
  refine Qhv hv hup ?_ ?_ ((RL.rest f.p).turned.trans hN.turned) ((RL.rest f.p).value.trans hN.value) agC agB hsp hlp (by simp only [List.length_append,List.length_cons];omega)
  ·simpa [Ne.symm hxp,hN.left] using hlp'
  ·simpa using hrp'
 have hux:=RL.up x
 have hlx':=RL.left x
 have hrx':=RL.right x
 rw [if_pos rfl] at hux
 rw [if_neg (by omega)] at hlx'
 rw [if_neg (by omega)] at hrx'
 have o5:=Qay s4 f.p x hxp
 have NX:Nd (pullS (pullS s4 f.p) x) v x (par (-1) c) (.node f.sib f.p false l) false r:=by
  have ag5:∀y:Nat,(y:Int)=r.rt→Agg (pullS s4 f.p) v y r.ls:=fun y hy=>(agA y hy).congr (Qay s4 f.p y (drp y (Qaq hy))).eqA
  have agP:∀y:Nat,(y:Int)=((.node f.sib f.p false l):T).rt→Agg (pullS s4 f.p) v y ((.node f.sib f.p false l):T).ls:=fun y hy=>by
   simp only [T.rt] at hy
   have e:y=f.p:=by omega
   subst e;exact NP.agg
  refine Qhv hv (o5.up.trans hux) (o5.left.trans ?_) (o5.right.trans ?_) (o5.turned.trans ((RL.rest x).turned.trans hX.turned)) (o5.value.trans ((RL.rest x).value.trans hX.value)) agP ag5 (by simp only [T.rt];omega) hrx (by simp only [T.ls,List.length_append,List.length_cons];omega)
  ·simpa [hxp,T.rt] using hlx'
  ·simpa [hxp,hX.right] using hrx'
 have NP6:Nd (pullS (pullS s4 f.p) x) v f.p x f.sib false l:=NP.congr (Qay _ x f.p (Ne.symm hxp))
 have hls:(f.fill (.node l x false r)).ls.Perm (rotT f l x r).ls:=by rw [Qyo]
 refine ⟨(Qda c _).2 ⟨?_,?_⟩,fun y hy=>?_⟩
 ·unfold rotT;rw [hd]
  exact ⟨NX,⟨NP6,RC,RB⟩,RA⟩
 ·cases c with
  | nil=>trivial
  | cons g c=>
   obtain ⟨hG,hGs,hGC⟩:=hC
   have hgpn:g.p≠f.p:=fun e=>hgp (by simp [par,e])
   have hgxn:g.p≠x:=fun e=>hgx (by simp [par,e])
   have h3:(g.p:Int)≠l.rt:=fun e=>dg g.p (.inr (.inr (.inl (.inl (Qaq e))))) rfl
   have hE:=e46 g.p hgxn hgpn
   have hR:=RL.rest g.p
   have hu:=RL.up g.p
   have hl:=RL.left g.p
   have hr:=RL.right g.p
   rw [if_neg hgxn,if_neg hgpn,if_neg (by omega)] at hu
   have hgn:(par (-1) (g::c)).toNat=g.p:=by simp [par]
   rw [hgn] at hl hr
   simp only [hgpn,hgxn,and_false,if_false,par] at hl hr
   have dcc:∀y∈g.sib.ls++cls c,Eqv s (pullS (pullS s4 f.p) x) y:=by
    intro y hy
    have hyc:y∈cls (g::c):=by simp only [cls,List.mem_cons];exact .inr hy
    refine e6 y (dcx y hyc) (dcp y hyc) ?_ (fun e=>dlc y (Qaq e) hyc)
    have:=ndc.1
    simp only [par]
    intro e
    have e':y=g.p:=by omega
    subst e'
    exact ndg rfl hy
   refine ⟨hG.child (x:=x) (p:=f.p) (Qep f _) (Q3w f l r x) hls ⟨hE.turned.trans hR.turned,hE.size.trans hR.size,hE.value.trans hR.value,hE.sum.trans hR.sum,hE.least.trans hR.least,hE.most.trans hR.most⟩ (hE.up.trans hu) (hE.left.trans ?_) (hE.right.trans ?_) ?_,hGs.congr fun y hy=>dcc y (by simp [hy]),RepC.congr c (fun y hy=>dcc y (by simp [hy])) (by rw [Qep,Qep]) (Qp7 g hls) hGC⟩
   ·rw [hl];have:(g.p:Int)≠-1:=by omega
    simp [this]
   ·rw [hr];have:(g.p:Int)≠-1:=by omega
    simp [this]
   ·intro e
    have:=Qaq e.symm
    exact dcp f.p (by simp [cls,this]) rfl
 ·rw [hperm.mem_iff] at hy
  simp only [T.ls,cls,List.mem_append,List.mem_cons,not_or] at hy
  refine e6 y (by grind) (by grind) ?_ (fun e=>?_)
  ·rcases Qdd (-1) c with h | ⟨g,h,hg⟩
   ·omega
   ·intro e;have e':y=g:=by omega
    subst e';grind
  ·have:=Qaq e;grind
set_option maxHeartbeats 1000000 in
theorem Q6c {s:S} {v:Nat→Int} {f:Fr} {c:List Fr} {l r:T} {x:Nat} (hd:f.d=true) (hv:VR v) (hb:f.b=false) (hR:Rep s v (-1) (plug (f::c) (.node l x false r)))
  (hn:(plug (f::c) (.node l x false r)).ls.Nodup) (hlen:(plug (f::c) (.node l x false r)).ls.length≤1073741824) :
  Rep (rotS s x) v (-1) (plug c (rotT f l x r))∧∀y,y∉(plug (f::c) (.node l x false r)).ls→Eqv s (rotS s x) y:=by
 have hperm:=Qcv (f::c) (.node l x false r)
 have hnd:=hperm.nodup_iff.1 hn
 rw [hperm.length_eq] at hlen
 simp only [T.ls,cls,List.length_append,List.length_cons] at hlen
 simp only [T.ls,cls,List.append_assoc,List.cons_append,List.nodup_append,List.nodup_cons,List.mem_append,List.mem_cons,not_or] at hnd
 obtain ⟨⟨hX,hl,hr⟩,hNF,hsib,hC⟩:=(Qda (f::c) _).1 hR
 simp only [par] at hX hl hr
 obtain ⟨ndl,⟨⟨hxr,hxp,hxs,hxc⟩,ndr,⟨⟨hps,hpc⟩,nds,ndc',dsc⟩,drest⟩,dlrest⟩:=hnd
 have ndc:(cls c).Nodup∧True:=⟨ndc',trivial⟩
 have dlx:∀y∈l.ls,y≠x:=fun y hy=>dlrest y hy x (.inl rfl)
 have dlr:∀y∈l.ls,y∈r.ls→False:=fun y hy hy'=>dlrest y hy y (.inr (.inl hy')) rfl
 have dlp:∀y∈l.ls,y≠f.p:=fun y hy=>dlrest y hy f.p (.inr (.inr (.inl rfl)))
 have dls:∀y∈l.ls,y∈f.sib.ls→False:=fun y hy hy'=>dlrest y hy y (.inr (.inr (.inr (.inl hy')))) rfl
 have dlc:∀y∈l.ls,y∈cls c→False:=fun y hy hy'=>dlrest y hy y (.inr (.inr (.inr (.inr hy')))) rfl
 have drx:∀y∈r.ls,y≠x:=fun y hy e=>hxr (e ▸ hy)
 have drp:∀y∈r.ls,y≠f.p:=fun y hy=>drest y hy f.p (.inl rfl)
 have drs:∀y∈r.ls,y∈f.sib.ls→False:=fun y hy hy'=>drest y hy y (.inr (.inl hy')) rfl
 have drc:∀y∈r.ls,y∈cls c→False:=fun y hy hy'=>drest y hy y (.inr (.inr hy')) rfl
 have dsx:∀y∈f.sib.ls,y≠x:=fun y hy e=>hxs (e ▸ hy)
 have dsp:∀y∈f.sib.ls,y≠f.p:=fun y hy e=>hps (e ▸ hy)
 have dscc:∀y∈f.sib.ls,y∈cls c→False:=fun y hy hy'=>dsc y hy y hy' rfl
 have dcx:∀y∈cls c,y≠x:=fun y hy e=>hxc (e ▸ hy)
 have dcp:∀y∈cls c,y≠f.p:=fun y hy e=>hpc (e ▸ hy)
 have hl1:-1≤l.rt:=by rcases Qcl l with h | ⟨y,h,_⟩<;>omega
 have hr1:-1≤r.rt:=by rcases Qcl r with h | ⟨y,h,_⟩<;>omega
 have hg0:-1≤par (-1) c:=by rcases Qdd (-1) c with h | ⟨y,h,_⟩<;>omega
 have hgp:par (-1) c≠f.p:=by
  rcases Qdd (-1) c with h | ⟨y,h,hy⟩
  ·omega
  ·have:=dcp y hy;omega
 have hgx:par (-1) c≠x:=by
  rcases Qdd (-1) c with h | ⟨y,h,hy⟩
  ·omega
  ·have:=dcx y hy;omega
 have dg:∀y:Nat,y=x∨y=f.p∨((y∈l.ls∨y=x)∨(y∈r.ls∨y∈f.sib.ls))→(y:Int)≠par (-1) c:=by
  intro y hy
  rcases Qdd (-1) c with h | ⟨g,h,hg⟩
  ·omega
  ·rw [h]
   intro e
   have e':y=g:=by omega
   subst e'
   rcases hy with rfl | rfl | ((h | rfl) | (h | h))
   ·exact dcx _ hg rfl
   ·exact dcp _ hg rfl
   ·exact dlc _ h hg
   ·exact dcx _ hg rfl
   ·exact drc _ h hg
   ·exact dscc _ h hg
 have hlx:l.rt≠(x:Int):=fun e=>dlx x (Qaq e.symm) rfl
 have hlp:l.rt≠(f.p:Int):=fun e=>dlp f.p (Qaq e.symm) rfl
 have hrx:r.rt≠(x:Int):=fun e=>drx x (Qaq e.symm) rfl
 have hrp:r.rt≠(f.p:Int):=fun e=>drp f.p (Qaq e.symm) rfl
 have hsp:f.sib.rt≠(f.p:Int):=fun e=>dsp f.p (Qaq e.symm) rfl
 have hsibrt:∀z:Nat,z=x→f.sib.rt≠(z:Int):=fun z hz e=>dsx z (Qaq e.symm) hz
 have ndg:∀{g:Fr} {c':List Fr},c=g::c'→g.p∉g.sib.ls++cls c':=by
  intro g c' e
  subst e
  have:=ndc'
  simp only [cls,List.nodup_cons] at this
  exact this.1
 have hN:Nd s v f.p (par (-1) c) (.node l x false r) false f.sib:=by
  have:=hNF;unfold NdF at this;rw [hd,hb] at this;simpa using this
 have hsx:(s.left f.p==(x:Int))=true:=by
  rw [hN.left]
  simp [T.rt]
 obtain ⟨s4,RL,hrot⟩:=Q2y (B:=r.rt) (d:=true) hX.up hN.up hsx (by simp [hX.right]) hxp hgp hgx hg0 hr1 hrx hrp
 rw [hrot]
 have e46:∀y,y≠x→y≠f.p→Eqv s4 (pullS (pullS s4 f.p) x) y:=fun y h1 h2=>(Qay s4 f.p y h2).trans (Qay _ x y h1)
 have e4:∀y,y≠x→y≠f.p→(y:Int)≠par (-1) c→(y:Int)≠r.rt→Eqv s s4 y:=by
  intro y h1 h2 h3 h4
  have hu:=RL.up y
  have hl:=RL.left y
  have hr:=RL.right y
  rw [if_neg h1,if_neg h2,if_neg (by omega)] at hu
  rw [if_neg (by omega),if_neg (by simp [h2]),if_neg (by simp [h1])] at hl
  rw [if_neg (by omega),if_neg (by simp [h2]),if_neg (by simp [h1])] at hr
  have hE:=RL.rest y
  exact ⟨hu,hl,hr,hE.turned,hE.size,hE.value,hE.sum,hE.least,hE.most⟩
 have e6:∀y,y≠x→y≠f.p→(y:Int)≠par (-1) c→(y:Int)≠r.rt→Eqv s (pullS (pullS s4 f.p) x) y:=fun y h1 h2 h3 h4=>(e4 y h1 h2 h3 h4).trans (e46 y h1 h2)
 have RA:Rep (pullS (pullS s4 f.p) x) v x l:=hl.congr fun y hy=>e6 y (dlx y hy) (dlp y hy) (dg y (.inr (.inr (.inl (.inl hy))))) (fun e=>dlr y hy (Qaq e))
 have RC:Rep (pullS (pullS s4 f.p) x) v f.p f.sib:=hsib.congr fun y hy=>e6 y (dsx y hy) (dsp y hy) (dg y (.inr (.inr (.inr (.inr hy))))) (fun e=>drs y (Qaq e) hy)
 have RB:Rep (pullS (pullS s4 f.p) x) v f.p r:=by
  refine hr.Q1b (fun y hy hne=>e6 y (drx y hy) (drp y hy) (dg y (.inr (.inr (.inr (.inl hy))))) hne) (fun y hy=>?_) ndr
  have hm:=Qaq hy
  have h1:=drx y hm
  have h2:=drp y hm
  have h3:=dg y (.inr (.inr (.inr (.inl hm))))
  have hE:=(e46 y h1 h2)
  have hR:=RL.rest y
  have hu:=RL.up y
  have hl:=RL.left y
  have hr:=RL.right y
  rw [if_neg h1,if_neg h2,if_pos (by omega)] at hu
  rw [if_neg (by omega),if_neg (by simp [h2]),if_neg (by simp [h1])] at hl
  rw [if_neg (by omega),if_neg (by simp [h2]),if_neg (by simp [h1])] at hr
  exact ⟨⟨hE.turned.trans hR.turned,hE.size.trans hR.size,hE.value.trans hR.value,hE.sum.trans hR.sum,hE.least.trans hR.least,hE.most.trans hR.most⟩,hE.left.trans hl,hE.right.trans hr,hE.up.trans hu⟩
 have agB:∀y:Nat,(y:Int)=r.rt→Agg s4 v y r.ls:=fun y hy=>(hr.root hy).2.1.congr (RL.rest y)
 have agC:∀y:Nat,(y:Int)=f.sib.rt→Agg s4 v y f.sib.ls:=fun y hy=>(hsib.root hy).2.1.congr (RL.rest y)
 have agA:∀y:Nat,(y:Int)=l.rt→Agg s4 v y l.ls:=fun y hy=>(hl.root hy).2.1.congr (RL.rest y)
 have hup:=RL.up f.p
 have hlp':=RL.left f.p
 have hrp':=RL.right f.p
 rw [if_neg (Ne.symm hxp),if_pos rfl] at hup
 rw [if_neg (by omega)] at hlp'
 rw [if_neg (by omega)] at hrp'
 have NP:Nd (pullS s4 f.p) v f.p x r false f.sib:=by
  refine Qhv hv hup ?_ ?_ ((RL.rest f.p).turned.trans hN.turned) ((RL.rest f.p).value.trans hN.value) agB agC hrp hsp (by simp only [List.length_append,List.length_cons];omega)
  ·simpa using hlp'
  ·simpa [Ne.symm hxp,hN.right] using hrp'
 have hux:=RL.up x
 have hlx':=RL.left x
 have hrx':=RL.right x
 rw [if_pos rfl] at hux
 rw [if_neg (by omega)] at hlx'
 rw [if_neg (by omega)] at hrx'
 have o5:=Qay s4 f.p x hxp
 have NX:Nd (pullS (pullS s4 f.p) x) v x (par (-1) c) l false (.node r f.p false f.sib):=by
  have ag5:∀y:Nat,(y:Int)=l.rt→Agg (pullS s4 f.p) v y l.ls:=fun y hy=>(agA y hy).congr (Qay s4 f.p y (dlp y (Qaq hy))).eqA
  have agP:∀y:Nat,(y:Int)=((.node r f.p false f.sib):T).rt→Agg (pullS s4 f.p) v y ((.node r f.p false f.sib):T).ls:=fun y hy=>by
   simp only [T.rt] at hy
   have e:y=f.p:=by omega
   subst e;exact NP.agg
  refine Qhv hv (o5.up.trans hux) (o5.left.trans ?_) (o5.right.trans ?_) (o5.turned.trans ((RL.rest x).turned.trans hX.turned)) (o5.value.trans ((RL.rest x).value.trans hX.value)) ag5 agP hlx (by simp only [T.rt];omega) (by simp only [T.ls,List.length_append,List.length_cons];omega)
  ·simpa [hxp,hX.left] using hlx'
  ·simpa [hxp,T.rt] using hrx'
 have NP6:Nd (pullS (pullS s4 f.p) x) v f.p x r false f.sib:=NP.congr (Qay _ x f.p (Ne.symm hxp))
 have hls:(f.fill (.node l x false r)).ls.Perm (rotT f l x r).ls:=by rw [Qyo]
 refine ⟨(Qda c _).2 ⟨?_,?_⟩,fun y hy=>?_⟩
 ·unfold rotT;rw [hd]
  exact ⟨NX,RA,NP6,RB,RC⟩
 ·cases c with
  | nil=>trivial
  | cons g c=>
   obtain ⟨hG,hGs,hGC⟩:=hC
   have hgpn:g.p≠f.p:=fun e=>hgp (by simp [par,e])
   have hgxn:g.p≠x:=fun e=>hgx (by simp [par,e])
   have h3:(g.p:Int)≠r.rt:=fun e=>dg g.p (.inr (.inr (.inr (.inl (Qaq e))))) rfl
   have hE:=e46 g.p hgxn hgpn
   have hR:=RL.rest g.p
   have hu:=RL.up g.p
   have hl:=RL.left g.p
   have hr:=RL.right g.p
   rw [if_neg hgxn,if_neg hgpn,if_neg (by omega)] at hu
   have hgn:(par (-1) (g::c)).toNat=g.p:=by simp [par]
   rw [hgn] at hl hr
   simp only [hgpn,hgxn,and_false,if_false,par] at hl hr
   have dcc:∀y∈g.sib.ls++cls c,Eqv s (pullS (pullS s4 f.p) x) y:=by
    intro y hy
    have hyc:y∈cls (g::c):=by simp only [cls,List.mem_cons];exact .inr hy
    refine e6 y (dcx y hyc) (dcp y hyc) ?_ (fun e=>drc y (Qaq e) hyc)
    have:=ndc.1
    simp only [par]
    intro e
    have e':y=g.p:=by omega
    subst e'
    exact ndg rfl hy
   refine ⟨hG.child (x:=x) (p:=f.p) (Qep f _) (Q3w f l r x) hls ⟨hE.turned.trans hR.turned,hE.size.trans hR.size,hE.value.trans hR.value,hE.sum.trans hR.sum,hE.least.trans hR.least,hE.most.trans hR.most⟩ (hE.up.trans hu) (hE.left.trans ?_) (hE.right.trans ?_) ?_,hGs.congr fun y hy=>dcc y (by simp [hy]),RepC.congr c (fun y hy=>dcc y (by simp [hy])) (by rw [Qep,Qep]) (Qp7 g hls) hGC⟩
   ·rw [hl];have:(g.p:Int)≠-1:=by omega
    simp [this]
   ·rw [hr];have:(g.p:Int)≠-1:=by omega
    simp [this]
   ·intro e
    have:=Qaq e.symm
    exact dcp f.p (by simp [cls,this]) rfl
 ·rw [hperm.mem_iff] at hy
  simp only [T.ls,cls,List.mem_append,List.mem_cons,not_or] at hy
  refine e6 y (by grind) (by grind) ?_ (fun e=>?_)
  ·rcases Qdd (-1) c with h | ⟨g,h,hg⟩
   ·omega
   ·intro e;have e':y=g:=by omega
    subst e';grind
  ·have:=Qaq e;grind
theorem Zh7 {s:S} {v:Nat→Int} {f:Fr} {c:List Fr} {l r:T} {x:Nat} (hv:VR v) (hb:f.b=false) (hR:Rep s v (-1) (plug (f::c) (.node l x false r)))
  (hn:(plug (f::c) (.node l x false r)).ls.Nodup) (hlen:(plug (f::c) (.node l x false r)).ls.length≤1073741824) :
  Rep (rotS s x) v (-1) (plug c (rotT f l x r))∧∀y,y∉(plug (f::c) (.node l x false r)).ls→Eqv s (rotS s x) y:=by
 cases hd:f.d
 ·exact Q48 hd hv hb hR hn hlen
 ·exact Q6c hd hv hb hR hn hlen
end Seq
end Go.Proofs.YtfeekmmfdkfgmaaGreatDoor
