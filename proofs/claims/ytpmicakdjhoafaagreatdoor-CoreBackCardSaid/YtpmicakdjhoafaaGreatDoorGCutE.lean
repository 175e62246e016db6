/-
The calls of layer 6 that tell of a road: how many nodes, their sum, the first of the least and of the greatest.
Conditions: those that each theorem states.
-/
import Derived.Test.YtpmicakdjhoafaaGreatDoorGCutD
import Derived.Test.YtpmicakdjhoafaaGreatDoorGNew
set_option linter.unusedVariables false
set_option linter.unusedSimpArgs false
namespace Go.Proofs.YtpmicakdjhoafaaGreatDoor
open Go Go.RowKit
namespace Cut
open Go.Proofs.YtpmicakdjhoafaaGreatDoor.Seq
section
variable {w₀ w w':World} {F L n:Nat} {s:S} {v:Nat→Int} {pa:Nat→Int} {t:T} {ps ps':List (T × Int)} {a b:Nat} {q:Int} {E E':Nat→Nat→Prop} {l:List Nat}
def Rd (w w':World) (F L n:Nat) (v:Nat→Int) (E:Nat→Nat→Prop) (b:Nat) (l:List Nat):Prop:=∃s pa u ps,St w w' F L n s∧Lc n s v pa ((.node u b false .nil,-1)::ps)∧(∀z,n≤z→pa z=-1)∧(∀x y,Ed pa x y↔E x y)∧l=u.seq++[b]
theorem c_road (h:AE w.heap F L n v E) (ha:a<n) (hb:b<n) (hw:Way E a b l) :
  Calls Pg Qcj #[.pointer (some ⟨F,0,none⟩),.int .i64 a,.int .i64 b] w fun e w'=>e=.returned (.tuple #[.pointer (some ⟨L,(b:Int).toNat*9,none⟩),errV 0])∧Rd w w' F L n v E b l:=by
 have hn:=h.small
 refine (Qei _ _ _ _ (fun v' w'=>v'=.tuple #[.pointer (some ⟨L,(b:Int).toNat*9,none⟩),errV 0]∧Rd w w' F L n v E b l) ?_).mono (by rintro e w' ⟨v,rfl,rfl,k⟩;exact ⟨rfl,k⟩)
 unfold Qd1
 refine Qa9 fun _=>h.chk2.mono ?_
 rintro e w6 ⟨rfl,rfl⟩
 refine ⟨_,rfl,Qan (fun e=>by rw [Qoy ha hb] at e;exact absurd rfl e) (fun _=>?_)⟩
 rw [wrap32_in (by omega) (by omega),wrap32_in (by omega) (by omega)]
 refine (Qvo (h.alloc _) ha hb).mono ?_
 rintro e w9 ⟨t,rfl,ht,hce⟩
 obtain rfl:=ht.2 ⟨l,hw⟩
 have hce:=CE.Ql5 h hce
 refine ⟨_,rfl,Qag (fun h=>by cases h) (fun _=>?_)⟩
 refine Q0c (X:=True) hce.a ha hb ⟨l,hw⟩ ?_
 intro w13 s' pa' u ps' hst k hpa hz he hway hCh
 refine ⟨rfl,pt_i (Qel hst (Qa1 (by omega) (by omega) ⟨rfl,s',pa',u,ps',⟨hst.i,hce.c.trans hst.c,h.lt⟩,k,hz,he,h.uniq ha hw hway⟩))⟩
theorem Rd.top (h:Rd w w' F L n v E b l):∃s pa u ps,St w w' F L n s∧Lc n s v pa ((.node u b false .nil,-1)::ps)∧(∀z,n≤z→pa z=-1)∧(∀x y,Ed pa x y↔E x y)∧(T.node u b false .nil).seq=l∧Agg s v b l∧l.length≤n:=by
 obtain ⟨s,pa,u,ps,hst,k,hz,he,hl⟩:=h
 have hs:(T.node u b false .nil).seq=l:=by rw [hl];simp [T.seq]
 have hp:=(T.node u b false .nil).Qcr
 rw [hs] at hp
 refine ⟨s,pa,u,ps,hst,k,hz,he,hs,(k.head.1.1.agg).perm (by simpa [T.ls] using hp.symm),?_⟩
 rw [hp.length_eq]
 exact Qjj k.nd (fun y hy=>k.lt (p:=(.node u b false .nil,-1)) (by simp) hy)
theorem c_first {m:Int} {x g:Nat} {has:FuncId} (hE:Eall.contains has=true) (h:IsF w.heap F L n s) (k:Lc n s v pa ((t,q)::ps)) (hx:t.rt=x) (hm:∃z∈t.ls,v z=m) (hg:Row w.heap g Qfc [.int .i64 m]) (hgL:g≠L)
  (hto:∀(s':S) (u:T) (y:Nat) (w':World),Row w'.heap g Qfc [.int .i64 m]→Agg s' v y u.ls→(∀z∈u.ls,z∈t.ls)→
   Calls Pg has #[recV s' y,.pointer (some ⟨g,0,none⟩)] w' fun e w''=>∃d:Bool,e=.returned (.bool d)∧(d=true↔∃z∈u.ls,v z=m)∧Chg Qac w' w'') :
  Calls Pg Qe9 #[.pointer (some ⟨F,0,none⟩),.int .i32 x,.int .i64 m,.func (.func has) #[] #[.pointer (some ⟨g,0,none⟩)]] w fun e w'=>
   ∃(z:Nat) (p1 p2:List Nat),e=.returned (.int .i64 z)∧t.seq=p1++z::p2∧v z=m∧(∀y∈p1,v y≠m)∧∃s' t',St w w' F L n s'∧Lc n s' v pa ((t',q)::ps)∧t'.seq=t.seq:=by
 refine (Qoh _ _ _ _ _ (fun v' w'=>∃(z:Nat) (p1 p2:List Nat),v'=.int .i64 z∧t.seq=p1++z::p2∧v z=m∧(∀y∈p1,v y≠m)∧∃s' t',St w w' F L n s'∧Lc n s' v pa ((t',q)::ps)∧t'.seq=t.seq) ?_).mono
  (by rintro e w' ⟨v,rfl,z,p1,p2,rfl,k⟩;exact ⟨z,p1,p2,rfl,k⟩)
 unfold Qkp
 have hn:=k.small
 have hglt:=hg.lt
 let J:Nat→List Value→World→Prop:=fun j vs w'=>∃c l b r s',∃y:Nat,vs=[.int .i32 y]∧St w w' F L n s'∧Row w'.heap g Qfc [.int .i64 m]∧Lc n s' v pa ((plug c (.node l y b r),q)::ps)∧(plug c (.node l y b r)).seq=t.seq∧Seq.Clean c∧(∀z∈pre c,v z≠m)∧
  (∃z∈(T.node l y b r).ls,v z=m)∧j=(T.node l y b r).ls.length
 obtain ⟨l0,b0,r0,rfl⟩:∃l b r,t=.node l x b r:=by
  cases t with
  | nil=>obtain ⟨z,hz,_⟩:=hm;cases hz
  | node l y b r => simp only [T.rt] at hx; have : y = x := by omega
                    subst this;exact ⟨l,b,r,rfl⟩
 refine ⟨LI J,LM J,⟨_,[],l0,b0,r0,s,x,rfl,St.start h,hg,k,rfl,(fun f hf=>by cases hf),(fun z hz=>by cases hz),hm,rfl⟩,?_⟩
 have hlt0:=h.l.lt
 clear hg
 intro _ n6 w7 hJ
 obtain ⟨c,l,b,r,s6,y,hvs,hst6,hg6,k6,hs6,hcl,hpre,hm6,hj⟩:=hJ.at
 simp only [List.cons.injEq,Value.int.injEq,and_true,true_and] at hvs
 subst hvs
 have hmem:∀z∈(T.node l y b r).ls,z∈(plug c (.node l y b r)).ls:=fun z hz=>(Qdf c _).mem_iff.2 (by simp [hz])
 have hyn:y<n:=k6.lt (p:=(plug c (.node l y b r),q)) (by simp) (hmem y (by simp [T.ls]))
 have ey:(y:Int).toNat=y:=rfl
 obtain ⟨_,⟨a1,a2⟩,a3,a4⟩:=k6.wf y hyn
 refine (Qsq (x:=(y:Int)) hst6.i (by omega) (by omega) a1 a2 a3 a4).mono ?_
 rintro e w8 ⟨rfl,hst7'⟩
 refine ⟨rfl,?_⟩
 have hst7:=hst6.trans hst7'
 have hg7:=hst7'.c.row hgL hg6
 have hgq:=Qyn k6.tq
 have k7:=k6.gq hgq
 have hs7:=hgq.seq.trans hs6
 obtain ⟨l',r',hsh⟩:=Qi5 l y b r
 have hperm:=Qnf l y b r
 rw [hsh] at k7 hs7 hperm
 have hm7:∃z∈(T.node l' y false r').ls,v z=m:=by obtain ⟨z,hz,e⟩:=hm6;exact ⟨z,hperm.mem_iff.1 hz,e⟩
 have hlen:=hperm.length_eq
 clear hst6 hst7' hg6 k6 hs6 hgq hm6
 generalize pushS s6 (y:Int)=s7 at *
 have hwf:=k7.wf
 obtain ⟨_,⟨b1,b2⟩,b3,b4⟩:=hwf y hyn
 obtain ⟨⟨hN,hRl,hRr⟩,_⟩:=(Qdr c _).1 k7.head.1
 have hsub:∀z∈(T.node l' y false r').ls,z∈(plug c (.node l' y false r')).ls:=fun z hz=>(Qdf c _).mem_iff.2 (by simp [hz])
 have hin:∀z∈(T.node l' y false r').ls,z∈(T.node l0 x b0 r0).ls:=fun z hz=>Qca.1 (by rw [←hs7];exact Qca.2 (hsub z hz))
 refine pt_i (Qel hst7 (Qa1 (by omega) (by omega) ?_))
 refine Qs5 hst7 hyn (Qov hst7 hyn (Ql7 hst7 hyn (Qkr hst7 hyn (Qot hst7 hyn (Qqa hst7 hyn (Qui hst7 hyn (Ql8 hst7 hyn (Qou hst7 hyn ?_))))))))
 refine cp_i ⟨rfl,rfl,rfl,rfl,rfl,rfl,rfl,rfl,rfl⟩ fun w9 hrow hc9=>?_
 have hst9:=hst7.nob hc9
 have hg9:=hc9.row (fun h=>h) hg7
 rw [ey] at hrow
 have hval:s7.value y=v y:=hN.value
 have hpc:(plug c (.node l' y false r')).seq=pre c++(l'.seq++y::r'.seq)++post c:=by rw [Qwd c _ hcl];simp [T.seq]
 have here:∀w',St w w' F L n s7→(∀z∈l'.ls,v z≠m)→v y=m→Calls Pg Qck #[.pointer (some ⟨F,0,none⟩),.int .i32 y] w' fun e w51=>e=.returned (.tuple #[])∧
   ∃(z:Nat) (p1 p2:List Nat),Value.int .i64 (IntKind.wrap .i64 (y:Int))=.int .i64 z∧(T.node l0 x b0 r0).seq=p1++z::p2∧v z=m∧(∀y∈p1,v y≠m)∧∃s' t',St w w51 F L n s'∧Lc n s' v pa ((t',q)::ps)∧t'.seq=(T.node l0 x b0 r0).seq:=by
  intro w' hst hl hy
  refine (Qyt hst.i k7 (hsub y (by simp [T.ls]))).mono ?_
  rintro e w51 ⟨rfl,s',l2,r2,hst',k',hs'⟩
  refine ⟨rfl,y,pre c++l'.seq,r'.seq++post c,by rw [wrap64_in (by omega) (by omega)],by rw [←hs7,hpc];simp,hy,?_,s',_,hst.trans hst',k',hs'.trans hs7⟩
  intro z hz
  rcases List.mem_append.1 hz with hz | hz
  ·exact hpre z hz
  ·exact hl z (Qca.1 hz)
 have goR:∀w',St w w' F L n s7→Row w'.heap g Qfc [.int .i64 m]→(∀z∈l'.ls,v z≠m)→v y≠m→LI J [.int .i32 (s7.right y)] w'∧LM J [.int .i32 (s7.right y)] w' < LM J [.int .i32 (y:Nat)] w7:=by
  intro w' hst hg' hl hy
  obtain ⟨z,hz,hzm⟩:=hm7
  simp only [T.ls,List.mem_append,List.mem_cons] at hz
  have hzr:z∈r'.ls:=by
   rcases hz with h | h | h
   ·exact absurd hzm (hl z h)
   ·subst h;exact absurd hzm hy
   ·exact h
  cases r' with
  | nil=>cases hzr
  | node l6 y6 b6 r6=>
   have hr:s7.right y=(y6:Int):=hN.right
   rw [hr]
   refine LI.again (k:=(T.node l6 y6 b6 r6).ls.length) ⟨⟨false,y,false,l'⟩::c,l6,b6,r6,s7,y6,rfl,hst,hg',k7,hs7,(fun f hf=>by rcases List.mem_cons.1 hf with rfl | h;rfl;exact hcl _ h),?_,⟨z,hzr,hzm⟩,rfl⟩
    (by rw [hj,hlen];simp only [T.ls,List.length_append,List.length_cons];omega)
   intro u hu
   simp only [pre,Bool.false_eq_true,if_false,List.mem_append,List.mem_singleton] at hu
   rcases hu with h | h | h
   ·exact hpre u h
   ·exact hl u (Qca.1 h)
   ·subst h;exact hy
 refine Qmi (Quj hrow rfl ?_)
 refine Qag (fun hc=>?_) (fun hc=>?_)<;>simp only [b1s] at hc
 ·
  obtain ⟨y',hy'⟩:∃y':Nat,l'.rt=y':=by
   rcases Qc2 l' with h | ⟨z,h,_⟩
   ·exact absurd (by rw [hN.left,h]) hc
   ·exact ⟨z,h⟩
  have hl':s7.left y=(y':Int):=by rw [hN.left,hy']
  rw [hl']
  have hy'm:y'∈l'.ls:=Qas hy'.symm
  have hy'n:y' < n:=k7.lt (p:=(plug c (.node l' y false r'),q)) (by simp) (hsub y' (by simp [T.ls,hy'm]))
  have ey':(y':Int).toNat=y':=rfl
  refine pt_i (Qel hst9 (Qa1 (by omega) (by omega) ?_))
  refine Qs5 hst9 hy'n (Qov hst9 hy'n (Ql7 hst9 hy'n (Qkr hst9 hy'n (Qot hst9 hy'n (Qqa hst9 hy'n (Qui hst9 hy'n (Ql8 hst9 hy'n (Qou hst9 hy'n ?_))))))))
  rw [ey']
  have hagl:=(hRl.root hy'.symm).2.1
  refine dcv_i hE ((hto s7 l' y' w9 hg9 hagl (fun z hz=>hin z (by simp [T.ls,hz]))).mono ?_)
  rintro e w48 ⟨d,rfl,hd,hc48⟩
  have hst48:=hst9.nob hc48
  have hg48:=hc48.row (fun h=>h) hg9
  have hrow48:=hc48.row (fun h=>h) hrow
  refine ⟨d,rfl,Qag (fun h=>?_) (fun h=>?_)⟩
  ·subst h
   cases l' with
   | nil=>cases hy'm
   | node l6 y6 b6 r6=>
    have:y6=y':=by simp only [T.rt] at hy';omega
    subst this
    refine LI.again (k:=(T.node l6 y6 b6 r6).ls.length) ⟨⟨true,y,false,r'⟩::c,l6,b6,r6,s7,y6,rfl,hst48,hg48,k7,hs7,(fun f hf=>by rcases List.mem_cons.1 hf with rfl | h;rfl;exact hcl _ h),?_,hd.1 rfl,rfl⟩
     (by rw [hj,hlen];simp only [T.ls,List.length_append,List.length_cons];omega)
    simpa [pre] using hpre
  ·subst h
   have hl:∀z∈l'.ls,v z≠m:=fun z hz e=>by have:=hd.2 ⟨z,hz,e⟩;cases this
   refine Quj hrow48 rfl ?_
   refine Qag (fun h=>?_) (fun h=>?_)<;>simp only [b1s] at h
   ·exact here _ hst48 hl (by rw [←hval];exact h)
   ·refine Qmh (Quj hrow48 rfl ?_)
    exact goR _ hst48 hg48 hl (by rw [←hval];exact h)
 ·have hl:∀z∈l'.ls,v z≠m:=by
   intro z hz
   rcases Qc2 l' with h | ⟨y',h,_⟩
   ·cases l' with
    | nil=>cases hz
    | node l6 y6 b6 r6=>simp only [T.rt] at h;omega
   ·rw [hN.left,h] at hc;omega
  refine Quj hrow rfl ?_
  refine Qag (fun h=>?_) (fun h=>?_)<;>simp only [b1s] at h
  ·exact here _ hst9 hl (by rw [←hval];exact h)
  ·refine Qmh (Quj hrow rfl ?_)
   exact goR _ hst9 hg9 hl (by rw [←hval];exact h)
theorem c_Least_1 {s':S} {u:T} {y g:Nat} {m:Int} (hg:Row w.heap g Qfc [.int .i64 m]) (hag:Agg s' v y u.ls) (hm:IsMn v l m) (hsub:∀z∈u.ls,z∈l) :
  Calls Pg Qec #[recV s' y,.pointer (some ⟨g,0,none⟩)] w fun e w''=>∃d:Bool,e=.returned (.bool d)∧(d=true↔∃z∈u.ls,v z=m)∧Chg Qac w w'':=by
 refine (Qm8 _ _ _ _ _ _ _ _ _ _ _ (fun v' w''=>∃d:Bool,v'=.bool d∧(d=true↔∃z∈u.ls,v z=m)∧Chg Qac w w'') ?_).mono (by rintro e w' ⟨v,rfl,d,rfl,k⟩;exact ⟨d,rfl,k⟩)
 unfold Qjh
 refine Qa9 fun hrow=>Quj hrow rfl (pt_i (Qaj (hg.alloc _) rfl ?_))
 refine ⟨_,rfl,?_,(Chg.refl _ _).alloc _⟩
 rw [beq_iff_eq]
 obtain ⟨⟨z,hz,e⟩,h2⟩:=hag.least
 constructor
 ·intro h;exact ⟨z,hz,by rw [e,h]⟩
 ·rintro ⟨z',hz',e'⟩
  have h3:=h2 z' hz'
  have h4:=hm.2 z (hsub z hz)
  omega
theorem c_Least (h:AE w.heap F L n v E) (ha:a<n) (hb:b<n) (hw:Way E a b l) :
  Calls Pg Qcy #[.pointer (some ⟨F,0,none⟩),.int .i64 a,.int .i64 b] w fun e w'=>(∃z:Nat,FstMn v l z∧e=.returned (.tuple #[.int .i64 z,errV 0]))∧CE w w' F L n v E:=by
 have hn:=h.small
 refine (Qdt _ _ _ _ (fun v' w'=>(∃z:Nat,FstMn v l z∧v'=.tuple #[.int .i64 z,errV 0])∧CE w w' F L n v E) ?_).mono (by
  rintro e w' ⟨v,rfl,⟨z,h1,h2⟩,k⟩
  exact ⟨⟨z,h1,by rw [h2]⟩,k⟩)
 unfold Qdm
 refine (c_road h ha hb hw).mono ?_
 rintro e w5 ⟨rfl,hr⟩
 obtain ⟨s,pa,u,ps,hst,k,hz,he,hs,hag,hle⟩:=hr.top
 have eb:(b:Int).toNat=b:=rfl
 refine ⟨_,_,rfl,Qan (fun e=>absurd rfl e) (fun _=>pt_i (Ql8 hst (by omega) ?_))⟩
 rw [eb]
 refine Qa9 fun hg=>Qdu hg (by simp) rfl fun hg=>Qaj hg rfl ?_
 have hLlt:=hst.i.l.lt
 have hc:Chg Qac w5 ((w5.alloc (.cells #[.int .i64 0] Qfc)).setCell ⟨w5.heap.size,0,none⟩ (.int .i64 (s.least b))):=((Chg.refl _ _).alloc _).setCell _ _ (.inr (Nat.le_refl _))
 have hst2:=hst.nob hc
 generalize (w5.alloc (.cells #[.int .i64 0] Qfc)).setCell ⟨w5.heap.size,0,none⟩ (.int .i64 (s.least b))=w11 at *
 rw [wrap32_in (by omega) (by omega)]
 have hpm:=(T.node u b false .nil).Qcr
 rw [hs] at hpm
 have hm:∃z∈(T.node u b false .nil).ls,v z=s.least b:=by obtain ⟨z,hz,e⟩:=hag.least.1;exact ⟨z,hpm.mem_iff.1 hz,e⟩
 refine (c_first (has:=Qec) (by kernel_rfl) hst2.i k rfl hm hg (by omega) (fun s' u' y w' hg' hag' hsub=>c_Least_1 hg' hag' hag.least (fun z hz=>hpm.mem_iff.2 (hsub z hz)))).mono ?_
 rintro e w14 ⟨z,p1,p2,rfl,hpp,hzm,hno,s',t',hst',k',hs'⟩
 rw [hs] at hpp
 refine ⟨_,rfl,⟨z,⟨p1,p2,hpp,fun y hy=>by rw [hzm];exact hag.least.2 y hy,fun y hy=>by have h1:=hag.least.2 y (by rw [hpp];simp [hy]);have h2:=hno y hy;rw [hzm];omega⟩,rfl⟩,CE.of (hst2.trans hst') k' hz he⟩
theorem c_Most_1 {s':S} {u:T} {y g:Nat} {m:Int} (hg:Row w.heap g Qfc [.int .i64 m]) (hag:Agg s' v y u.ls) (hm:IsMx v l m) (hsub:∀z∈u.ls,z∈l) :
  Calls Pg Qeq #[recV s' y,.pointer (some ⟨g,0,none⟩)] w fun e w''=>∃d:Bool,e=.returned (.bool d)∧(d=true↔∃z∈u.ls,v z=m)∧Chg Qac w w'':=by
 refine (Qnt _ _ _ _ _ _ _ _ _ _ _ (fun v' w''=>∃d:Bool,v'=.bool d∧(d=true↔∃z∈u.ls,v z=m)∧Chg Qac w w'') ?_).mono (by rintro e w' ⟨v,rfl,d,rfl,k⟩;exact ⟨d,rfl,k⟩)
 unfold Qj8
 refine Qa9 fun hrow=>Quj hrow rfl (pt_i (Qaj (hg.alloc _) rfl ?_))
 refine ⟨_,rfl,?_,(Chg.refl _ _).alloc _⟩
 rw [beq_iff_eq]
 obtain ⟨⟨z,hz,e⟩,h2⟩:=hag.most
 constructor
 ·intro h;exact ⟨z,hz,by rw [e,h]⟩
 ·rintro ⟨z',hz',e'⟩
  have h3:=h2 z' hz'
  have h4:=hm.2 z (hsub z hz)
  omega
theorem c_Most (h:AE w.heap F L n v E) (ha:a<n) (hb:b<n) (hw:Way E a b l) :
  Calls Pg Qc9 #[.pointer (some ⟨F,0,none⟩),.int .i64 a,.int .i64 b] w fun e w'=>(∃z:Nat,FstMx v l z∧e=.returned (.tuple #[.int .i64 z,errV 0]))∧CE w w' F L n v E:=by
 have hn:=h.small
 refine (Qgi _ _ _ _ (fun v' w'=>(∃z:Nat,FstMx v l z∧v'=.tuple #[.int .i64 z,errV 0])∧CE w w' F L n v E) ?_).mono (by
  rintro e w' ⟨v,rfl,⟨z,h1,h2⟩,k⟩
  exact ⟨⟨z,h1,by rw [h2]⟩,k⟩)
 unfold Qfw
 refine (c_road h ha hb hw).mono ?_
 rintro e w5 ⟨rfl,hr⟩
 obtain ⟨s,pa,u,ps,hst,k,hz,he,hs,hag,hle⟩:=hr.top
 have eb:(b:Int).toNat=b:=rfl
 refine ⟨_,_,rfl,Qan (fun e=>absurd rfl e) (fun _=>pt_i (Qou hst (by omega) ?_))⟩
 rw [eb]
 refine Qa9 fun hg=>Qdu hg (by simp) rfl fun hg=>Qaj hg rfl ?_
 have hLlt:=hst.i.l.lt
 have hc:Chg Qac w5 ((w5.alloc (.cells #[.int .i64 0] Qfc)).setCell ⟨w5.heap.size,0,none⟩ (.int .i64 (s.most b))):=((Chg.refl _ _).alloc _).setCell _ _ (.inr (Nat.le_refl _))
 have hst2:=hst.nob hc
 generalize (w5.alloc (.cells #[.int .i64 0] Qfc)).setCell ⟨w5.heap.size,0,none⟩ (.int .i64 (s.most b))=w11 at *
 rw [wrap32_in (by omega) (by omega)]
 have hpm:=(T.node u b false .nil).Qcr
 rw [hs] at hpm
 have hm:∃z∈(T.node u b false .nil).ls,v z=s.most b:=by obtain ⟨z,hz,e⟩:=hag.most.1;exact ⟨z,hpm.mem_iff.1 hz,e⟩
 refine (c_first (has:=Qeq) (by kernel_rfl) hst2.i k rfl hm hg (by omega) (fun s' u' y w' hg' hag' hsub=>c_Most_1 hg' hag' hag.most (fun z hz=>hpm.mem_iff.2 (hsub z hz)))).mono ?_
 rintro e w14 ⟨z,p1,p2,rfl,hpp,hzm,hno,s',t',hst',k',hs'⟩
 rw [hs] at hpp
 refine ⟨_,rfl,⟨z,⟨p1,p2,hpp,fun y hy=>by rw [hzm];exact hag.most.2 y hy,fun y hy=>by have h1:=hag.most.2 y (by rw [hpp];simp [hy]);have h2:=hno y hy;rw [hzm];omega⟩,rfl⟩,CE.of (hst2.trans hst') k' hz he⟩
end
end Cut
end Go.Proofs.YtpmicakdjhoafaaGreatDoor
namespace Go.Proofs.YtpmicakdjhoafaaGreatDoor
open Go Go.RowKit
namespace Cut
open Go.Proofs.YtpmicakdjhoafaaGreatDoor.Seq
section
variable {w:World} {F L n:Nat} {v:Nat→Int} {a b:Nat} {E:Nat→Nat→Prop} {A:List Nat}
end
end Cut
end Go.Proofs.YtpmicakdjhoafaaGreatDoor
namespace Go.Proofs.YtpmicakdjhoafaaGreatDoor
open Go Go.RowKit
namespace Cut
open Go.Proofs.YtpmicakdjhoafaaGreatDoor.Seq
theorem lc_new {n:Nat} (hn:n≤8388608):Lc n (mkS' n) (fun _=>0) (fun _=>-1) ((List.range n).map fun x=>(.node .nil x false .nil,-1)):=by
 have hf:=fo_new hn
 refine ⟨hf.vr,?_,?_,hn,⟨fun x hx=>⟨by omega,by omega⟩,fun x hx=>⟨x,.root rfl⟩⟩⟩
 ·intro p hp
  obtain ⟨x,hx,rfl⟩:=List.mem_map.1 hp
  have h1:=hf.rep (.node .nil x false .nil) (List.mem_map.2 ⟨x,hx,rfl⟩)
  refine ⟨h1.1,h1.2,?_,by simp,by simp only [];omega⟩
  simp [T.seq,Ch]
 ·have:∀l:List Nat,((l.map fun x=>((T.node .nil x false .nil,-1):T × Int)).flatMap fun p=>p.1.ls)=l:=by
   intro l;induction l with
   | nil=>rfl
   | cons x l ih=>rw [List.map_cons,List.flatMap_cons,ih];rfl
  rw [this]
theorem c_New {w:World} {n:Nat} (h1:1≤n) (hn:n≤8388608) :
  Calls Pg Qm5 #[.int .i64 n] w fun e w'=>∃F L,e=.returned (.tuple #[.pointer (some ⟨F,0,none⟩),errV 0])∧Chg Qac w w'∧w.heap.size≤F∧w.heap.size≤L∧AE w'.heap F L n (fun _=>0) (fun _ _=>False):=by
 refine (Qsm _ _ (fun v' w'=>∃F L,v'=.tuple #[.pointer (some ⟨F,0,none⟩),errV 0]∧Chg Qac w w'∧w.heap.size≤F∧w.heap.size≤L∧AE w'.heap F L n (fun _=>0) (fun _ _=>False)) ?_).mono (by rintro e w' ⟨v,rfl,F,L,rfl,k⟩;exact ⟨F,L,rfl,k⟩)
 unfold Qsx
 refine ⟨fun _ w'=>w'=w,?_,?_⟩
 ·refine Qag (fun h1=>?_) (fun h1=>?_)<;>simp only [b1s] at h1
  ·omega
  ·refine Qag (fun h2=>?_) (fun h2=>?_)<;>simp only [b1s] at h2
   ·omega
   ·rfl
 rintro _ w2 rfl
 have hnn:Int.toNat (n:Int)=n:=by omega
 refine ⟨by omega,by omega,by omega,?_⟩
 rw [hnn]
 refine Qa9 fun hL=>Qa9 fun hF=>?_
 have hL:=hL.alloc (.cells #[.slice (some ⟨w2.heap.size,0,none⟩) n n] Qju)
 rw [Qbt] at hL
 have hch:Chg Qac w2 ((w2.alloc (.cells (Qav #[.int .i32 0,.int .i32 0,.int .i32 0,.bool false,.int .i32 0,.int .i64 0,.int .i64 0,.int .i64 0,.int .i64 0] n) Qcz)).alloc (.cells #[.slice (some ⟨w2.heap.size,0,none⟩) n n] Qju)):=((Chg.refl _ _).alloc _).alloc _
 have hs1:(w2.alloc (.cells (Qav #[.int .i32 0,.int .i32 0,.int .i32 0,.bool false,.int .i32 0,.int .i64 0,.int .i64 0,.int .i64 0,.int .i64 0] n) Qcz)).heap.size=w2.heap.size+1:=by show (w2.heap.push _).size=_;simp
 rw [hs1] at hF ⊢
 generalize (w2.alloc (.cells (Qav #[.int .i32 0,.int .i32 0,.int .i32 0,.bool false,.int .i32 0,.int .i64 0,.int .i64 0,.int .i64 0,.int .i64 0] n) Qcz)).alloc (.cells #[.slice (some ⟨w2.heap.size,0,none⟩) n n] Qju)=w6 at *
 have hF0:w2.heap.size+1<w6.heap.size:=hF.lt
 have hi:IsF w6.heap (w2.heap.size+1) w2.heap.size n (mkS' 0):=⟨hF,by
  have:encS (mkS' 0)=fun _=>[.int .i32 0,.int .i32 0,.int .i32 0,.bool false,.int .i32 0,.int .i64 0,.int .i64 0,.int .i64 0,.int .i64 0]:=by
   funext i;simp [encS,mkS']
  rw [this];exact hL,by omega⟩
 generalize hFF:w2.heap.size+1=F at *
 generalize hLL:w2.heap.size=L at *
 have hst:=St.start hi
 repeat (first | with_reducible refine Qmi ?_ | with_reducible refine Qmh ?_ | with_reducible refine gR (k:=?_) | first | with_reducible refine pt_i ?_ | with_reducible refine gF (k:=?_) | with_reducible refine Qa1 (by omega) (by omega) ?_ | with_reducible refine g0 (k:=?_) | with_reducible refine g1 (k:=?_) | with_reducible refine g2 (k:=?_) | with_reducible refine g3 (k:=?_) | with_reducible refine g4 (k:=?_) | with_reducible refine g5 (k:=?_) | with_reducible refine g6 (k:=?_) | with_reducible refine g7 (k:=?_) | with_reducible refine g8 (k:=?_) | with_reducible refine s0 (k:=fun _ hst=>?_) | with_reducible refine s1 (k:=fun _ hst=>?_) | with_reducible refine s2 (k:=fun _ hst=>?_) | with_reducible refine s3 (k:=fun _ hst=>?_) | with_reducible refine s4 (k:=fun _ hst=>?_) | with_reducible refine s5 (k:=fun _ hst=>?_) | with_reducible refine s6 (k:=fun _ hst=>?_) | with_reducible refine s7 (k:=fun _ hst=>?_) | with_reducible refine s8 (k:=fun _ hst=>?_) | simp only [projS,Qab])
 let J:Nat→List Value→World→Prop:=fun j vs w'=>∃i:Nat,vs=[.int .i64 i]∧i≤n∧St w6 w' F L n (mkS' i)∧j=n-i
 refine ⟨LI J,LM J,⟨_,0,rfl,by omega,hst,rfl⟩,?_⟩
 intro _ i w11 hJ
 obtain ⟨i,hvs,hin,hst,hj⟩:=hJ.at
 simp only [List.cons.injEq,Value.int.injEq,and_true,true_and] at hvs
 subst hvs
 refine Qag (fun hc=>?_) (fun hc=>?_)<;>simp only [b1s] at hc
 ·have hii:(i:Int).toNat=i:=by omega
  repeat (first | with_reducible refine Qmi ?_ | with_reducible refine Qmh ?_ | with_reducible refine gR (k:=?_) | first | with_reducible refine pt_i ?_ | with_reducible refine gF (k:=?_) | with_reducible refine Qa1 (by omega) (by omega) ?_ | with_reducible refine g0 (k:=?_) | with_reducible refine g1 (k:=?_) | with_reducible refine g2 (k:=?_) | with_reducible refine g3 (k:=?_) | with_reducible refine g4 (k:=?_) | with_reducible refine g5 (k:=?_) | with_reducible refine g6 (k:=?_) | with_reducible refine g7 (k:=?_) | with_reducible refine g8 (k:=?_) | with_reducible refine s0 (k:=fun _ hst=>?_) | with_reducible refine s1 (k:=fun _ hst=>?_) | with_reducible refine s2 (k:=fun _ hst=>?_) | with_reducible refine s3 (k:=fun _ hst=>?_) | with_reducible refine s4 (k:=fun _ hst=>?_) | with_reducible refine s5 (k:=fun _ hst=>?_) | with_reducible refine s6 (k:=fun _ hst=>?_) | with_reducible refine s7 (k:=fun _ hst=>?_) | with_reducible refine s8 (k:=fun _ hst=>?_) | simp only [projS,Qab])
  rw [wrap64_in (by omega) (by omega)]
  refine LI.again (k:=n-(i+1)) ⟨i+1,rfl,by omega,?_,rfl⟩ (by rw [hj];omega)
  rw [hii] at hst
  have e:mkS' (i+1)=((((((((((mkS' i).w_up i (-1)).Qbe i (-1)).Qa4 i (-1)).Qbg i false).Qdj i 1).Qbs i 0).Qhf i 0).Qb2 i 0).Qdk i 0):=by
   unfold mkS' S.w_up S.Qbe S.Qa4 S.Qbg S.Qdj S.Qbs S.Qhf S.Qb2 S.Qdk
   simp only [Qw4,upd_all]
  rw [e]
  exact hst
 ·have hin:i=n:=by omega
  subst hin
  refine ⟨F,L,rfl,hch.trans' hst.c (fun k hk=>.inr (by omega)),by omega,by omega,_,_,_,hst.i,lc_new hn,fun _ _=>rfl,fun x y=>⟨fun h=>by rcases h with (h:(-1:Int)=y) | (h:(-1:Int)=x)<;>omega,fun h=>h.elim⟩⟩
end Cut
end Go.Proofs.YtpmicakdjhoafaaGreatDoor
