/-
The law CoreTrees: the theorem of stage 16.
Conditions: those that each theorem states.
-/
import Derived.Test.YtpmicakdjhoafaaGreatDoorShPlaitlaw16CoreTrees
import Derived.Test.YtpmicakdjhoafaaGreatDoorGLawC
import Derived.Test.YtpmicakdjhoafaaGreatDoorCoreTm
set_option linter.unusedVariables false
set_option linter.unusedSimpArgs false
namespace Go.Proofs.YtpmicakdjhoafaaGreatDoor
open Go Go.RowKit
namespace Core
open Go.Proofs.YtpmicakdjhoafaaGreatDoor.Seq Go.Proofs.YtpmicakdjhoafaaGreatDoor.Cut Go.Proofs.YtpmicakdjhoafaaGreatDoor.Web
theorem LG.fresh {w:World} {bad bad':Nat→Prop} {b:Option Addr} {c n:Nat} {G:Nat→Nat} (h:LG w bad b c n G) (k:∀i,bad' i→w.heap.size≤i):LG w bad' b c n G:=
 ⟨h.v,fun g hl e hb=>by
  obtain ⟨g',e',hlt⟩:=h.v.blk hl
  rw [e'] at e;cases e
  have:=k _ hb
  omega,h.k⟩
theorem c_CoreTrees {w:World} {n:Int} {sb:Option Addr} {sl sc:Nat} {f:Nat→Nat→Int} (hg:LaidG w) (hf:AC w sb sl f) (hfw:∀i,i<sl→-2147483648≤f i 6∧f i 6≤2147483647) :
  Calls Pg Qh6 #[.int .i64 n,.slice sb sl sc] w fun e w'=>e=.returned (.bool true)∧Chg Qac w w':=by
 refine (Qkk _ _ _ _ _ (fun v' w'=>v'=.bool true∧Chg Qac w w') ?_).mono (by rintro e w' ⟨v,rfl,rfl,k⟩;exact ⟨rfl,k⟩)
 unfold Qht
 obtain ⟨N,hm0,hm1,he⟩:=size_ex n 1 9 (by omega) (by omega) (by omega)
 rw [he,wrap64_in (x:=(2:Int)*N) (by omega) (by omega),show ((2:Int)*N)=((2*N:Nat):Int) by omega,Int.toNat_natCast]
 have NN:N≤1048576:=by omega
 have hN1:1≤N:=by omega
 refine ⟨by decide,(Qv4 hN1 NN).mono ?_⟩
 rintro r w2 ⟨b,rfl,c2,hlo,hmr⟩
 refine ⟨_,_,rfl,fun _ w'=>w'=w2,Qam (fun e=>absurd rfl e) (fun _=>Qag (fun h=>by cases h) (fun _=>rfl)),?_⟩
 rintro _ w3 rfl
 refine (r_New16 (bad:=fun k=>k<w3.heap.size) hN1 NN fun k j=>j).mono ?_
 rintro r w4 ⟨lb,lc,tb,tc,wb,wc',rfl,c4,hx⟩
 refine ⟨_,_,_,_,_,_,_,_,_,_,_,rfl,Qa3 fun C w5 hC c5 r5=>Qsb r5 rfl (by simp [oneC]) fun w6 c6 rC=>?_⟩
 have s2:=c2.size
 have s4:=c4.size
 have s5:=c5.size
 have lC:=r5.lt
 have s6:=c6.size
 have hlow:=hmr.x.lowA
 have c36:Chg Qac w3 w6:=(c4.trans c5).trans' c6 fun i e=>.inr (by omega)
 have hst:LX (fun k=>k=C) w w6 b N (fun _=>false) (fun _=>[]) (ones (3*N)) (fun _=>none) (fun _=>none) (fun _=>0) (fun _=>0) lb tb wb:=by
  refine ⟨c2.trans c36,hlo,((GM.new hmr).nob c36).a,?_,fun k j=>⟨by omega,by omega⟩,fun k j i=>by have:=hlow k i;omega,fun e k=>?_⟩
  ·have h4:=(hx.old (n:=w5.heap.size)).nob c5
   refine (h4.keep c6 fun i e=>.inr (by omega)).weak fun k j=>?_
   rcases j with j | j
   ·exact .inl (hmr.x.low k j)
   ·exact .inr (by omega)
  ·unfold Laid at k;rw [Qqw] at k;cases k
 let J:Nat→List Value→World→Prop:=fun j vs w'=>∃(i:Nat) (lb:Option Addr) (lc:Nat) (tb:Option Addr) (tc:Nat) (wb:Option Addr) (wc':Nat) (lv:Nat→Bool) (tl:Nat→List Nat) (q:List (List Nat)) (B D:Nat→Option (Nat × Nat)) (ky W:Nat→Int),vs=[.int .i64 i]∧i≤50∧LX (fun k=>k=C) w w' b N lv tl q B D ky W lb tb wb∧
  Row w'.heap C Qal [.int .i64 (N:Nat),.slice lb N lc,.int .i64 (N:Nat),.slice tb N tc,.slice wb N wc']∧j=50-i
 refine ⟨fun _ w'=>∃(lb:Option Addr) (lc:Nat) (tb:Option Addr) (tc:Nat) (wb:Option Addr) (wc':Nat) (lv:Nat→Bool) (tl:Nat→List Nat) (q:List (List Nat)) (B D:Nat→Option (Nat × Nat)) (ky W:Nat→Int),LX (fun k=>k=C) w w' b N lv tl q B D ky W lb tb wb∧
  Row w'.heap C Qal [.int .i64 (N:Nat),.slice lb N lc,.int .i64 (N:Nat),.slice tb N tc,.slice wb N wc'],⟨LI J,LM J,⟨_,0,_,_,_,_,_,_,_,_,_,_,_,_,_,rfl,by omega,hst,rC,rfl⟩,?_⟩,?_⟩
 ·clear hst rC
  intro _ i w49 hJ
  obtain ⟨i,lb,lc,tb,tc,wb,wc',lv,tl,q,B,D,ky,W,hvs,hi,hst,rC,hj⟩:=hJ.at
  simp only [List.cons.injEq,Value.int.injEq,and_true,true_and] at hvs
  subst hvs
  refine Qag (fun k1=>Qag (fun k2=>?_) (fun k2=>⟨_,_,_,_,_,_,_,_,_,_,_,_,_,hst,rC⟩)) (fun k1=>⟨_,_,_,_,_,_,_,_,_,_,_,_,_,hst,rC⟩)
  have cd:=(Chg.refl Qac w49).drew
  have hsd:=hst.nob cd
  have rC:=cd.row (fun h=>h) rC
  simp only [b1s] at k1 k2
  refine Qjf rC ((hf.nob (hst.c.trans cd)).ld (by omega) ((c_do hg hsd (hfw i (by omega))).mono ?_))
  rintro e w6 ⟨_,rfl,c6,lb',lc',tb',tc',wb',wc'',lv',tl',q',B',D',ky',W',rfl,hst'⟩
  have hCb:¬b.ch C:=fun k=>hst.xo C rfl (Bk.sub k)
  refine ⟨_,_,_,_,_,_,_,_,_,_,_,_,rfl,Qsb (c6.row hCb rC) rfl (by simp [oneC]) fun w7 c7 rC'=>?_⟩
  rw [wrap64_in (by omega) (by omega)]
  exact LI.again (k:=50-(i+1)) ⟨i+1,_,_,_,_,_,_,_,_,_,_,_,_,_,rfl,by omega,hst'.put c7,rC',rfl⟩ (by rw [hj];omega)
 clear hst rC hx hlow hmr
 clear c36 c4 c5 c6 r5 s4 s5 s6 J
 rintro _ w7 ⟨lb,lc,tb,tc,wb,wc',lv,tl,q,B,D,ky,W,hst,rC⟩
 refine ⟨by omega,by omega,by omega,Qa3 fun Fb w8 hF c8 rF=>?_⟩
 rw [Qbi] at rF
 have s8:=c8.size
 have lF:=rF.lt
 have lC7:=rC.lt
 have hlow:=hst.a.toMR.x.lowA
 have gm:=(hst.a.nob c8).a
 have cb:=gm.cb
 have hM:=cb.mp
 have s7:=hst.c.size
 have cw8:=hst.c.trans c8
 have hk:=hst.k
 have hx:XR w8 (fun k=>(b.ch k∨k=C)∨(w7.heap.size≤k∧k<w8.heap.size)) N lv tl W lb tb wb:=(hst.x.old (n:=w8.heap.size)).nob c8
 have rC:=c8.row (fun h=>h) rC
 clear hst c8
 refine Qrp rC ((r_All hx.t cb hN1 NN).mono ?_)
 rintro r w9 ⟨xb,l,xc,X,rfl,c9,tX,hl,fcs⟩
 have gm:=(gm.nob c9).a
 have hx:=hx.nob c9
 have rC:=c9.row (fun h=>h) rC
 have rF:=c9.row (fun h=>h) rF
 have cw9:=cw8.trans c9
 have s9:=c9.size
 clear c9 cw8
 have xlt:∀{j x},j<l→x∈X j→x∈dl tl N:=fun {j x} hj hx=>by obtain ⟨d,o⟩:=fcs.o j hj;exact o.m x hx
 have f1:∀{fc:Nat→Nat} {x v:Nat},x<2*N→(recs (fun y=>[.int .i64 (fc y:Nat)]) (2*N)).set x (.int .i64 (v:Nat))=recs (fun y=>[.int .i64 (upd fc x v y:Nat)]) (2*N):=fun {fc x v} hx=>by
  have:=Qe1 (k:=0) (sz:=1) (fun y=>[.int .i64 (fc y:Nat)]) (fun _=>rfl) (g:=fun y=>[.int .i64 (upd fc x v y:Nat)]) (v:=.int .i64 (v:Nat)) hx Nat.zero_lt_one (fun j hj=>by show [Value.int .i64 _]=_;rw [Qai _ _ hj]) (by show [Value.int .i64 _]=_;rw [Qab];rfl)
  rwa [Nat.mul_one,Nat.add_zero] at this
 have f2:∀{fc:Nat→Nat} {x:Nat},x<2*N→(recs (fun y=>[.int .i64 (fc y:Nat)]) (2*N))[x]?=some (.int .i64 (fc x:Nat)):=fun {fc x} hx=>by
  have:=Qix (k:=0) (fun y=>[.int .i64 (fc y:Nat)]) (sz:=1) (fun _=>rfl) hx Nat.zero_lt_one
  rw [Nat.mul_one,Nat.add_zero] at this
  rw [this];rfl
 let J:Nat→List Value→World→Prop:=fun jj vs w'=>∃(i:Nat) (fc:Nat→Nat),vs=[.int .i64 i]∧i≤l∧Chg (·=Fb) w9 w'∧Row w'.heap Fb Qbe (recs (fun y=>[.int .i64 (fc y:Nat)]) (2*N))∧(∀x,fc x≤l)∧(∀j x,j<i→x∈X j→fc x=j)∧jj=l-i
 refine ⟨_,_,_,rfl,LI J,LM J,⟨_,0,fun _=>0,rfl,by omega,Chg.refl _ _,rF,fun _=>Nat.zero_le _,fun j x hj=>by omega,rfl⟩,?_⟩
 intro _ i w10 hJ
 obtain ⟨i,fc,hvs,hi,ck,rF,hfl,hfc,hj⟩:=hJ.at
 simp only [List.cons.injEq,Value.int.injEq,and_true,true_and] at hvs
 subst hvs
 refine Qag (fun k1=>?_) (fun k1=>?_)<;>simp only [b1s] at k1
 ·have hil:i<l:=by omega
  have hxl:(X i).length≤2*N:=by obtain ⟨d,o⟩:=fcs.o i hil;exact o.len hM.toND
  have hxn:(X i).Nodup:=by obtain ⟨d,o⟩:=fcs.o i hil;exact o.n
  let J2:Nat→List Value→World→Prop:=fun jj vs w'=>∃(k:Nat) (fc:Nat→Nat),vs=[.int .i64 k]∧k≤(X i).length∧Chg (·=Fb) w9 w'∧Row w'.heap Fb Qbe (recs (fun y=>[.int .i64 (fc y:Nat)]) (2*N))∧(∀x,fc x≤l)∧(∀j x,j<i→x∈X j→fc x=j)∧(∀x∈(X i).take k,fc x=i)∧jj=(X i).length-k
  refine ⟨LI J2,LM J2,⟨_,0,fc,rfl,by omega,ck,rF,hfl,hfc,by simp,rfl⟩,?_⟩
  intro _ k w11 hJ2
  obtain ⟨k,fc,hvs,hkl,ck,rF,hfl,hfc,hfi,hj2⟩:=hJ2.at
  simp only [List.cons.injEq,Value.int.injEq,and_true,true_and] at hvs
  subst hvs
  have tX':=tX.keep ck fun i e=>by omega
  refine tX'.rd hil fun eb ec v1 v2 v3=>Qag (fun k2=>?_) (fun k2=>?_)<;>simp only [b1s] at k2
  ·have hkX:k<(X i).length:=by omega
   obtain ⟨x,hx'⟩:∃x,(X i)[k]?=some x:=⟨_,List.getElem?_eq_getElem hkX⟩
   have hxm:=List.mem_of_getElem? hx'
   have hx2:=hM.lt x (xlt hil hxm)
   refine tX'.rd hil fun eb ec v1 v2 v3=>rdI v1 hx' (Qbu hx2 ?_)
   rw [Nat.zero_add,Nat.mul_one]
   refine Qdg rF (by rw [Qap _ (sz:=1) (fun _=>rfl)];omega) rfl fun w12 c12 rF'=>?_
   rw [f1 hx2] at rF'
   rw [wrap64_in (x:=(k:Int)+1) (by omega) (by omega)]
   refine LI.again (k:=(X i).length-(k+1)) ⟨k+1,upd fc x i,rfl,by omega,ck.trans c12,rF',fun y=>?_,fun j y hj hy=>?_,fun y hy=>?_,rfl⟩ (by rw [hj2];omega)
   ·by_cases h:y=x
    ·rw [h,Qab];omega
    ·rw [Qai _ _ h];exact hfl y
   ·have h:y≠x:=by rintro rfl;have:=fcs.u j i y (by omega) hil hy hxm;omega
    rw [Qai _ _ h];exact hfc j y hj hy
   ·by_cases h:y=x
    ·rw [h,Qab]
    ·rw [Qai _ _ h]
     have ht:(X i).take (k+1)=(X i).take k++[x]:=by rw [List.take_add_one,hx'];rfl
     rw [ht,List.mem_append,List.mem_singleton] at hy
     exact hfi y (hy.resolve_right h)
  ·have:k=(X i).length:=by omega
   subst this
   rw [List.take_length] at hfi
   rw [wrap64_in (x:=(i:Int)+1) (by omega) (by omega)]
   refine LI.again (k:=l-(i+1)) ⟨i+1,fc,rfl,by omega,ck,rF,hfl,fun j y hj hy=>?_,rfl⟩ (by rw [hj];omega)
   by_cases h:j=i
   ·subst h;exact hfi y hy
   ·exact hfc j y (by omega) hy
 have:i=l:=by omega
 subst this
 have gm:=gm.keep ck fun k e j=>by have:=hlow k j;omega
 have hx:=hx.keep ck fun k e=>.inr (by have:k=Fb:=e;omega)
 have rC:=ck.row (by omega) rC
 have cw10:Chg Qac w w10:=cw9.trans' ck fun k e=>.inr (by have:k=Fb:=e;omega)
 have s10:=ck.size
 clear tX ck hj hJ J
 have fsame:∀{x y},x∈dl tl N→y∈dl tl N→(fc x=fc y↔SF q x y):=fun {x y} hx hy=>by
  obtain ⟨j1,a1,a2⟩:=fcs.a x hx
  obtain ⟨j2,b1,b2⟩:=fcs.a y hy
  have:=hM.lt x hx
  rw [hfc j1 x a1 a2,hfc j2 y b1 b2,fcs.same a1 b1 a2 b2,cb.pf (by omega)]
 refine Qjf rC ((r_Edges hx hM NN).mono ?_)
 rintro r w11 ⟨eb,ec,_,rfl,c11,ev,oe,ab,ac,rfl,va,oa,_⟩
 have gm:=(gm.nob c11).a
 have hx:=hx.nob c11
 have rC:=c11.row (fun h=>h) rC
 have rF:=c11.row (fun h=>h) rF
 have cw11:=cw10.trans c11
 refine ⟨_,_,_,_,_,_,rfl,(Qy4 (bad:=fun _=>False) NN fun k h=>h.elim).mono ?_⟩
 rintro r w12 ⟨tbb,tcc,rfl,c12,lg1⟩
 refine ⟨_,_,_,rfl,?_⟩
 rw [show ((i:Nat):Int)+1=((i+1:Nat):Int) by omega,wrap64_in (x:=((i+1:Nat):Int)) (by omega) (by omega)]
 refine (Qy4 (bad:=fun _=>False) (by omega) fun k h=>h.elim).mono ?_
 rintro r w13 ⟨sbb,scc,rfl,c13,lg2⟩
 have lg1:=lg1.nob c13
 have c123:=c12.trans c13
 refine ⟨_,_,_,rfl,by omega,by omega,?_,Qa3 fun Mk w14 hMk c14 rM=>?_⟩
 ·have:=List.length_filter_le (fun e=>decide (2*e∈dl tl N)) (List.range N)
  rw [List.length_range] at this
  have:(eL tl N).length≤N:=this
  omega
 rw [Qbi,Int.toNat_natCast] at rM
 simp only [Int.toNat_natCast]
 have s11:=c11.size
 have s123:=c123.size
 have s14:=c14.size
 have lM:=rM.lt
 have ce:Chg Qac w11 w14:=c123.trans c14
 have gm:=(gm.nob ce).a
 have cw14:=cw11.trans ce
 have t14:TF w14 (fun k=>((b.ch k∨k=C)∨(w7.heap.size≤k∧k<w8.heap.size))∨(w13.heap.size≤k∧k<w14.heap.size)) tb N tl:=((hx.t.nob c123).old (n:=w14.heap.size)).nob c14
 have rC:=ce.row (fun h=>h) rC
 have rF:=ce.row (fun h=>h) rF
 have evM:∀g,0<(eL tl N).length→bk eb=some g→g<Mk:=fun g hl e=>by
  obtain ⟨g',e',hlt⟩:=VA.blk ev hl
  rw [e'] at e;cases e;omega
 have vaM:∀g,0<(eL tl N).length→bk ab=some g→g<Mk:=fun g hl e=>by
  obtain ⟨g',e',hlt⟩:=VA.blk va hl
  rw [e'] at e;cases e;omega
 have ev:=ev.nob ce
 have va:=va.nob ce
 have lg1:=(lg1.fresh (bad':=(·=Mk)) fun k e=>by omega).nob c14
 have lg2:=(lg2.fresh (bad':=(·=Mk)) fun k e=>by omega).nob c14
 have hFM:Fb≠Mk:=by omega
 have hwM:w.heap.size≤Mk:=by omega
 have hCM:C≠Mk:=by omega
 have hbM:∀k,b.has k→k≠Mk:=fun k j=>by have:=hlow k j;omega
 clear hx oe oa c11 c12 c13 c123 c14 ce cw10 cw11 s10
 have evK:∀{w':World},Chg (·=Mk) w14 w'→EV w' tl N W eb:=fun {w'} k=>VA.keep ev k fun g hl e h=>by have:=evM g hl e;omega
 have vaK:∀{w':World},Chg (·=Mk) w14 w'→VA w' ab (eL tl N).length 1 (ivs (eL tl N)):=fun {w'} k=>VA.keep va k fun g hl e h=>by have:=vaM g hl e;omega
 have gmK:∀{w':World},Chg (·=Mk) w14 w'→GM w'.heap b N lv tl q B D ky:=fun {w'} k=>gm.keep k fun i e j=>hbM i j e
 have rFK:∀{w':World},Chg (·=Mk) w14 w'→Row w'.heap Fb Qbe (recs (fun y=>[.int .i64 (fc y:Nat)]) (2*N)):=fun {w'} k=>k.row hFM rF
 have rdF:∀{w':World} {x:Nat} {K:Int→Prop},Row w'.heap Fb Qbe (recs (fun y=>[.int .i64 (fc y:Nat)]) (2*N))→x<2*N→K (fc x:Nat)→ixS (some ⟨Fb,0,none⟩) (2*N) ((x:Nat):Int) 1 fun a=>ldI .i64 a w' K:=fun {w' x K} r hx k=>Qbu hx (by rw [Nat.zero_add,Nat.mul_one];exact Qak r (f2 hx) k)
 have atE:∀{k e:Nat},(eL tl N)[k]?=some e→e<N∧Laid tl N e:=fun {k e} h=>Qww.1 (List.mem_of_getElem? h)
 have ogN:∀{d:Nat},d∈dl tl N→og tl N d<N:=fun {d} hd=>by
  obtain ⟨v,hv,hd⟩:=Qbp.1 hd
  rw [hM.ogE hv hd];exact hv
 have exE:∀{k:Nat},k<(eL tl N).length→∃e,(eL tl N)[k]?=some e:=fun {k} h=>⟨_,List.getElem?_eq_getElem h⟩
 have hml:(eL tl N).length≤N:=by
  have:=List.length_filter_le (fun e=>decide (2*e∈dl tl N)) (List.range N)
  rwa [List.length_range] at this
 let J:Nat→List Value→World→Prop:=fun jj vs w'=>∃(k:Nat) (t1:Option Addr) (u1:Nat) (t2:Option Addr) (u2:Nat) (G H:Nat→Nat) (mk:Nat→Bool),vs=[.slice t1 N u1,.slice t2 (i+1) u2,.int .i64 k]∧k≤(eL tl N).length∧Chg (·=Mk) w14 w'∧LG w' (·=Mk) t1 u1 N G∧LG w' (·=Mk) t2 u2 (i+1) H∧
  Row w'.heap Mk Qmr (recs (bc mk) (eL tl N).length)∧(∀j e,j<k→(eL tl N)[j]?=some e→mk j=(B e).isSome)∧(∀x y,x<N→y<N→(G x=G y↔LK [] (rs (fun z=>z∈(eL tl N).take k∧True) B) x y))∧(∀x y,x∈dl tl N→y∈dl tl N→(H (fc x)=H (fc y)↔LK q (rs (fun z=>z∈(eL tl N).take k∧True) D) x y))∧jj=(eL tl N).length-k
 refine ⟨LI J,LM J,⟨_,0,tbb,tcc,sbb,scc,id,id,fun _=>false,rfl,by omega,Chg.refl _ _,lg1,lg2,rM,fun j e hj=>by omega,fun x y hx hy=>?_,fun x y hx hy=>?_,rfl⟩,?_⟩
 ·rw [Qvk];exact ⟨fun h=>(show x=y from h) ▸ LK.refl,Qtz⟩
 ·rw [Qvk,cb.lk1 (by have:=hM.lt x hx;omega)];exact fsame hx hy
 clear lg1 lg2 rM
 intro _ a1 a2 a3 b1 b2 b3 kk w15 hJ
 obtain ⟨k,t1,u1,t2,u2,G,H,mk,hvs,hkm,ck,lg1,lg2,rM,hmk,hG,hH,hj⟩:=hJ.at
 simp only [List.cons.injEq,Value.slice.injEq,Value.int.injEq,and_true,true_and] at hvs
 obtain ⟨⟨rfl,hN2,rfl⟩,⟨rfl,rfl,rfl⟩,rfl⟩:=hvs
 replace hN2:=hN2.symm
 subst hN2
 refine Qag (fun k1=>?_) (fun k1=>?_)<;>simp only [b1s] at k1
 ·have hkL:k<(eL tl N).length:=by omega
  obtain ⟨e,he'⟩:=exE hkL
  obtain ⟨heN,hle⟩:=atE he'
  have hodd:=hM.odd hle
  obtain ⟨w2a,w2b⟩:=wrap2 heN NN
  refine rdI (vaK ck) he' ((Qyn (gmK ck)).mono ?_)
  rintro r w16 ⟨rfl,z,rfl,_,hz⟩
  have hE:=eE_of heN hle
  have hz:=hz hE
  rw [Int.toNat_natCast] at hz
  refine ⟨_,_,rfl,Qam (fun e=>absurd hE e) fun _=>Qbu hkL ?_⟩
  rw [Nat.zero_add,Nat.mul_one]
  refine Qdg rM (by rw [Qap _ Qxd];omega) rfl fun w17 c17 rM'=>?_
  rw [bc_set hkL] at rM'
  have c18:Chg Qac w17 w17.drew:=(Chg.refl Qac w17).drew
  generalize w17.drew=w18 at *
  have ck18:=(ck.trans c17).trans c18.weak
  have lg1:=(lg1.keep c17 fun i e=>e).nob c18
  have lg2:=(lg2.keep c17 fun i e=>e).nob c18
  have rM18:=c18.row (fun h=>h) rM'
  have s18:=ck18.size
  have hmk':∀j e',j<k+1→(eL tl N)[j]?=some e'→upd mk k z j=(B e').isSome:=fun j e' hj h=>by
   by_cases hjk:j=k
   ·subst hjk
    rw [he'] at h;cases h
    rw [Qab,hz]
   ·rw [Qai _ _ hjk];exact hmk j e' (by omega) h
  have hin:∀{p:Nat→Prop} {X:Nat→Option (Nat × Nat)} {u v:Nat},LK [] (rs (fun z=>z∈(eL tl N).take k∧True) X) u v→LK [] (upd X e none) u v:=fun {p X u v} h=>h.mono (fun _ _ h=>h) fun i' r hh=>by
   obtain ⟨⟨h1,_⟩,h2⟩:=Qxw hh
   have:i'≠e:=by
    rintro rfl
    obtain ⟨j,hj⟩:=List.getElem?_of_mem h1
    have hj1:=(List.getElem?_eq_some_iff.1 hj).1
    rw [List.length_take] at hj1
    rw [List.getElem?_take_of_lt (by omega)] at hj
    have:=(List.getElem?_inj hkL Qps (j:=j)).1 (by rw [he',hj])
    omega
   rw [Qai _ _ this];exact h2
  have hinq:∀{X:Nat→Option (Nat × Nat)} {u v:Nat},LK q (rs (fun z=>z∈(eL tl N).take k∧True) X) u v→LK q (upd X e none) u v:=fun {X u v} h=>h.mono (fun _ _ h=>h) fun i' r hh=>by
   obtain ⟨⟨h1,_⟩,h2⟩:=Qxw hh
   have:i'≠e:=by
    rintro rfl
    obtain ⟨j,hj⟩:=List.getElem?_of_mem h1
    have hj1:=(List.getElem?_eq_some_iff.1 hj).1
    rw [List.length_take] at hj1
    rw [List.getElem?_take_of_lt (by omega)] at hj
    have:=(List.getElem?_inj hkL Qps (j:=j)).1 (by rw [he',hj])
    omega
   rw [Qai _ _ this];exact h2
  rw [wrap64_in (x:=(k:Int)+1) (by omega) (by omega)]
  refine Qag (fun hzt=>?_) (fun hzt=>?_)
  ·rw [hz] at hzt
   obtain ⟨p,hB⟩:=Option.isSome_iff_exists.1 hzt
   obtain ⟨_,rfl,_⟩:=cb.bB e p hB
   have hD:D e=none:=(cb.ex e).resolve_left (by rw [hB];simp)
   refine (evK ck18).ra he' ((evK ck18).rb he' ((Qvr lg1 (ogN hle) (ogN hodd) NN (fun k e=>by omega)).mono ?_))
   rintro r w19 ⟨t1',u1',z',G',rfl,c19,hz',lg1',hG'⟩
   have hne:G (og tl N (2*e))≠G (og tl N (2*e+1)):=fun h=>gm.cj'.fB e _ _ hB (hin (p:=fun _=>True) ((hG _ _ (ogN hle) (ogN hodd)).1 h))
   refine ⟨_,_,_,_,rfl,Qag (fun h=>by rw [hz'.2 hne] at h;cases h) fun _=>?_⟩
   refine LI.again (k:=(eL tl N).length-(k+1)) ⟨k+1,_,_,_,_,G',H,upd mk k z,rfl,by omega,ck18.trans c19.weak,lg1',lg2.nob c19,c19.row (fun h=>h) rM18,hmk',fun x y hx hy=>?_,fun x y hx hy=>?_,rfl⟩ (by rw [hj];omega)
   ·rw [hG',Qy0 Qps he' trivial hB,hG x y hx hy,hG x _ hx (ogN hle),hG _ y (ogN hodd) hy,hG x _ hx (ogN hodd),hG _ y (ogN hle) hy]
   ·rw [Qtt he' (fun h=>by rw [hD] at h;cases h.2)];exact hH x y hx hy
  ·have hB:B e=none:=by
    cases hB:B e with
    | none=>rfl
    | some p=>rw [hz,hB] at hzt;cases hzt
   have hD:=gm.tied hle hB
   refine rdI (vaK ck18) he' ?_
   rw [w2a]
   refine rdF (rFK ck18) (by omega) (rdI (vaK ck18) he' ?_)
   rw [w2b]
   refine rdF (rFK ck18) (by omega) ((Qvr lg2 (by have:=hfl (2*e);omega) (by have:=hfl (2*e+1);omega) (by omega) (fun k e=>by omega)).mono ?_)
   rintro r w19 ⟨t2',u2',z',H',rfl,c19,hz',lg2',hH'⟩
   have hne:H (fc (2*e))≠H (fc (2*e+1)):=fun h=>gm.cj'.fD e _ _ hD (hinq ((hH _ _ hle hodd).1 h))
   refine ⟨_,_,_,_,rfl,Qag (fun h=>by rw [hz'.2 hne] at h;cases h) fun _=>?_⟩
   refine LI.again (k:=(eL tl N).length-(k+1)) ⟨k+1,_,_,_,_,G,H',upd mk k z,rfl,by omega,ck18.trans c19.weak,lg1.nob c19,lg2',c19.row (fun h=>h) rM18,hmk',fun x y hx hy=>?_,fun x y hx hy=>?_,rfl⟩ (by rw [hj];omega)
   ·rw [Qtt he' (fun h=>by rw [hB] at h;cases h.2)];exact hG x y hx hy
   ·rw [hH',Qy0 Qps he' trivial hD,hH x y hx hy,hH x _ hx hle,hH _ y hodd hy,hH x _ hx hodd,hH _ y hle hy]
 have:k=(eL tl N).length:=by omega
 subst this
 rw [List.take_length,rs_all (fun e r h=>⟨Qww.2 ⟨hM.Qbv (cb.bB e r h).1,(cb.bB e r h).1⟩,trivial⟩)] at hG
 rw [List.take_length,rs_all (fun e r h=>⟨Qww.2 ⟨hM.Qbv (cb.bD e r h).1,(cb.bD e r h).1⟩,trivial⟩)] at hH
 refine Qrp (ck.row hCM rC) ((Qy6 (t14.keep ck fun k e=>.inr (by have:k=Mk:=e;omega)) hM hN1 NN).mono ?_)
 rintro r w20 ⟨_,GG,rfl,c20,lgg,hGG⟩
 obtain ⟨gb,gc,rfl,lgg2⟩:=LA.lg lgg
 refine ⟨_,_,_,rfl,?_⟩
 have ck20:Chg (·=Mk) w14 w20:=ck.trans c20.weak
 have gm:=gmK ck20
 have ev:=evK ck20
 have va:=vaK ck20
 have rF:=rFK ck20
 have lg1:=lg1.nob c20
 have lg2:=lg2.nob c20
 have rM:=c20.row (fun h=>h) rM
 have cw20:Chg Qac w w20:=cw14.trans' ck20 fun k e=>.inr (by have:k=Mk:=e;omega)
 clear evK vaK gmK rFK ck ck20 t14 c20 evM vaM rC hJ hj J cw14
 let J:Nat→List Value→World→Prop:=fun jj vs w'=>∃k:Nat,vs=[.int .i64 k]∧k≤(eL tl N).length∧Chg Qac w20 w'∧jj=(eL tl N).length-k
 refine ⟨LI J,LM J,⟨_,0,rfl,by omega,Chg.refl _ _,rfl⟩,?_⟩
 intro _ kk w21 hJ
 obtain ⟨k,hvs,hkm,ck,hj⟩:=hJ.at
 simp only [List.cons.injEq,Value.int.injEq,and_true,true_and] at hvs
 subst hvs
 refine Qag (fun k1=>?_) (fun k1=>c_sure16.mono (by rintro r w13 ⟨rfl,c13⟩;exact ⟨_,rfl,rfl,(cw20.trans ck).trans c13⟩))<;>simp only [b1s] at k1
 have hkL:k<(eL tl N).length:=by omega
 obtain ⟨e,he'⟩:=exE hkL
 obtain ⟨heN,hle⟩:=atE he'
 have hodd:=hM.odd hle
 obtain ⟨w2a,w2b⟩:=wrap2 heN NN
 have again:∀{w':World},Chg Qac w20 w'→LI J [.int .i64 (IntKind.wrap .i64 ((k:Int)+1))] w'∧LM J [.int .i64 (IntKind.wrap .i64 ((k:Int)+1))] w' < LM J [.int .i64 k] w21:=fun {w'} h=>by
  rw [wrap64_in (x:=(k:Int)+1) (by omega) (by omega)]
  exact LI.again (k:=(eL tl N).length-(k+1)) ⟨k+1,rfl,by omega,h,rfl⟩ (by rw [hj];omega)
 have cd:Chg Qac w20 w21.drew:=ck.trans (Chg.refl Qac w21).drew
 generalize w21.drew=w22 at *
 refine (ev.nob cd).ra he' ((lg1.nob cd).rd (ogN hle) ((ev.nob cd).rb he' ((lg1.nob cd).rd (ogN hodd) (Qag (fun h=>?_) fun _=>?_))))
 ·exfalso
  rw [(hG _ _ (ogN hle) (ogN hodd)).2 (gm.cj'.hang hle)] at h
  simp at h
 let J2:Nat→List Value→World→Prop:=fun jj vs w'=>∃j:Nat,vs=[.int .i64 j]∧j≤(eL tl N).length∧Chg Qac w20 w'∧jj=(eL tl N).length-j
 refine ⟨LI J2,LM J2,⟨_,0,rfl,by omega,cd,rfl⟩,?_⟩
 intro _ jj w23 hJ2
 obtain ⟨j,hvs,hjm,ck2,hj2⟩:=hJ2.at
 simp only [List.cons.injEq,Value.int.injEq,and_true,true_and] at hvs
 subst hvs
 refine Qag (fun k2=>?_) (fun k2=>?_)<;>simp only [b1s] at k2
 ·have hjL:j<(eL tl N).length:=by omega
  obtain ⟨e2,he2⟩:=exE hjL
  obtain ⟨he2N,hl2⟩:=atE he2
  obtain ⟨v2a,v2b⟩:=wrap2 he2N NN
  have cd2:Chg Qac w20 w23.drew:=ck2.trans (Chg.refl Qac w23).drew
  have more:∀{w':World},Chg Qac w20 w'→LI J2 [.int .i64 (IntKind.wrap .i64 ((j:Int)+1))] w'∧LM J2 [.int .i64 (IntKind.wrap .i64 ((j:Int)+1))] w' < LM J2 [.int .i64 j] w23:=fun {w'} h=>by
   rw [wrap64_in (x:=(j:Int)+1) (by omega) (by omega)]
   exact LI.again (k:=(eL tl N).length-(j+1)) ⟨j+1,rfl,by omega,h,rfl⟩ (by rw [hj2];omega)
  generalize w23.drew=w24 at *
  refine (ev.nob cd2).ra he' ((lgg2.nob cd2).rd (ogN hle) ((ev.nob cd2).ra he2 ((lgg2.nob cd2).rd (ogN hl2) (Qag (fun h=>?_) fun _=>more cd2))))
  refine rdI (va.nob cd2) he' ?_
  rw [w2a]
  refine rdF (cd2.row (fun h=>h) rF) (by omega) ((lg2.nob cd2).rd (by have:=hfl (2*e);omega) (rdI (va.nob cd2) he2 ?_))
  rw [v2a]
  refine rdF (cd2.row (fun h=>h) rF) (by omega) ((lg2.nob cd2).rd (by have:=hfl (2*e2);omega) (Qag (fun h2=>?_) fun _=>more cd2))
  exfalso
  have h3:GG (og tl N (2*e))=GG (og tl N (2*e2)):=by
   have:((GG (og tl N (2*e)):Nat):Int)=(GG (og tl N (2*e2)):Nat):=by simpa using h
   omega
  have h4:=(hGG _ _ (ogN hle) (ogN hl2)).1 h3
  rw [←gm.cj'.gc,←gm.nearD hle hl2,←hH _ _ hle hl2] at h4
  rw [h4] at h2
  simp at h2
 clear hJ2 hj2 J2 cd
 refine (Qy4 (bad:=fun _=>False) NN fun k h=>h.elim).mono ?_
 rintro r w24 ⟨t3,u3,rfl,c24,lg3⟩
 refine ⟨_,_,_,rfl,?_⟩
 refine (Qy4 (bad:=fun _=>False) (by omega) fun k h=>h.elim).mono ?_
 rintro r w25 ⟨t4,u4,rfl,c25,lg4⟩
 refine ⟨_,_,_,rfl,?_⟩
 have lg3:=lg3.nob c25
 have ck5:=(ck2.trans c24).trans c25
 clear c24 c25 ck2
 have lsE:∀{a c d d':Nat},(eL tl N)[a]?=some d→(eL tl N)[c]?=some d'→((W d<W d'∨(W d=W d'∧a<c))↔ky d<ky d'):=fun {a c d d'} h1 h2=>by
  obtain ⟨n1,l1⟩:=atE h1
  obtain ⟨n2,l2⟩:=atE h2
  rw [hk d l1,hk d' l2,eL_lt h1 h2]
  omega
 let J3:Nat→List Value→World→Prop:=fun jj vs w'=>∃(j:Nat) (t1:Option Addr) (u1:Nat) (t2:Option Addr) (u2:Nat) (G H:Nat→Nat),vs=[.slice t1 N u1,.slice t2 (i+1) u2,.int .i64 j]∧j≤(eL tl N).length∧Chg Qac w20 w'∧LG w' (fun _=>False) t1 u1 N G∧LG w' (fun _=>False) t2 u2 (i+1) H∧
  (∀x y,x<N→y<N→(G x=G y↔LK [] (rs (fun z=>z∈(eL tl N).take j∧ky z<ky e) B) x y))∧(∀x y,x∈dl tl N→y∈dl tl N→(H (fc x)=H (fc y)↔LK q (rs (fun z=>z∈(eL tl N).take j∧ky e<ky z) D) x y))∧jj=(eL tl N).length-j
 refine ⟨LI J3,LM J3,⟨_,0,t3,u3,t4,u4,id,id,rfl,by omega,ck5,lg3,lg4,fun x y hx hy=>?_,fun x y hx hy=>?_,rfl⟩,?_⟩
 ·rw [Qvk];exact ⟨fun h=>(show x=y from h) ▸ LK.refl,Qtz⟩
 ·rw [Qvk,cb.lk1 (by have:=hM.lt x hx;omega)];exact fsame hx hy
 clear lg3 lg4 ck5
 intro _ a1 a2 a3 b1 b2 b3 kk w26 hJ3
 obtain ⟨j,t1,u1,t2,u2,G3,H3,hvs,hjm,ck6,lg3,lg4,hG3,hH3,hj3⟩:=hJ3.at
 simp only [List.cons.injEq,Value.slice.injEq,Value.int.injEq,and_true,true_and] at hvs
 obtain ⟨⟨rfl,hN2,rfl⟩,⟨rfl,rfl,rfl⟩,rfl⟩:=hvs
 replace hN2:=hN2.symm
 subst hN2
 refine Qag (fun k2=>?_) (fun k2=>?_)<;>simp only [b1s] at k2
 ·have hjL:j<(eL tl N).length:=by omega
  obtain ⟨e2,he2⟩:=exE hjL
  obtain ⟨he2N,hl2⟩:=atE he2
  have hodd2:=hM.odd hl2
  obtain ⟨v2a,v2b⟩:=wrap2 he2N NN
  have hmj:=hmk j e2 hjL he2
  have mkj:∀{w':World} {K:Bool→Prop},Chg Qac w20 w'→K (mk j)→ixS (some ⟨Mk,0,none⟩) (eL tl N).length ((j:Nat):Int) 1 fun a=>ldB a w' K:=fun {w' K} h kk=>Qbu hjL (by rw [Nat.zero_add,Nat.mul_one];exact Qx4 (n:=mk j) (h.row (fun h=>h) rM) (Quh hjL) kk)
  refine ⟨fun vs w'=>∃t1' u1' G',vs=[.slice t1' N u1']∧Chg Qac w26 w'∧LG w' (fun _=>False) t1' u1' N G'∧(∀x y,x<N→y<N→(G' x=G' y↔LK [] (rs (fun z=>z∈(eL tl N).take (j+1)∧ky z<ky e) B) x y)),mkj ck6 (Qag (fun h=>(r_Less (ev.nob ck6) he2 he').mono ?_) fun h=>⟨_,_,G3,rfl,Chg.refl _ _,lg3,fun x y hx hy=>?_⟩),?_⟩
  ·rintro r w27 ⟨rfl,c27⟩
   have cd:=ck6.trans c27
   refine ⟨_,rfl,Qag (fun h3=>?_) fun h3=>⟨_,_,G3,rfl,c27,lg3.nob c27,fun x y hx hy=>?_⟩⟩
   ·have h3:=(lsE he2 he').1 (of_decide_eq_true h3)
    rw [hmj] at h
    obtain ⟨p,hB⟩:=Option.isSome_iff_exists.1 h
    obtain ⟨_,rfl,_⟩:=cb.bB e2 p hB
    have c28:Chg Qac w27 w27.drew:=(Chg.refl Qac w27).drew
    have cd8:=cd.trans c28
    have lg8:=(lg3.nob c27).nob c28
    generalize w27.drew=w28 at *
    refine (ev.nob cd8).ra he2 ((ev.nob cd8).rb he2 ((Qvr lg8 (ogN hl2) (ogN hodd2) NN fun _ h=>h.elim).mono ?_))
    rintro r w29 ⟨t1',u1',z',G',rfl,c29,_,lg1',hG'⟩
    refine ⟨_,_,_,_,rfl,_,_,G',rfl,(c27.trans c28).trans c29,lg1',fun x y hx hy=>?_⟩
    rw [hG',Qy0 (p:=fun z=>ky z<ky e) Qps he2 h3 hB,hG3 x y hx hy,hG3 x _ hx (ogN hl2),hG3 _ y (ogN hodd2) hy,hG3 x _ hx (ogN hodd2),hG3 _ y (ogN hl2) hy]
   ·rw [Qtt (p:=fun z=>ky z<ky e) he2 (fun h4=>of_decide_eq_false h3 ((lsE he2 he').2 h4.1))];exact hG3 x y hx hy
  ·rw [Qtt (p:=fun z=>ky z<ky e) he2 (fun h4=>by rw [←hmj,h] at h4;cases h4.2)];exact hG3 x y hx hy
  rintro _ a1 a2 a3 w27 ⟨t1',u1',G',hvs,c27,lg3',hG3'⟩
  simp only [List.cons.injEq,Value.slice.injEq,and_true,true_and] at hvs
  obtain ⟨rfl,hN2,rfl⟩:=hvs
  replace hN2:=hN2.symm
  subst hN2
  have ck7:=ck6.trans c27
  have lg4':=lg4.nob c27
  refine ⟨fun vs w'=>∃z,vs=[.bool z]∧Chg Qac w27 w'∧(z=true↔mk j=false∧ky e<ky e2),mkj ck7 (Qag (fun h=>(r_Less (ev.nob ck7) he' he2).mono ?_) fun h=>⟨false,rfl,Chg.refl _ _,⟨fun h=>(by cases h),fun h5=>(by rw [h5.1] at h;cases h)⟩⟩),?_⟩
  ·rintro r w28 ⟨rfl,c28⟩
   refine ⟨_,rfl,_,rfl,c28,?_⟩
   rw [decide_eq_true_iff,lsE he' he2]
   have:mk j=false:=by simpa using h
   exact ⟨fun h=>⟨this,h⟩,fun h=>h.2⟩
  rintro _ zz w28 ⟨z,hvs,c28,hz⟩
  simp only [List.cons.injEq,Value.bool.injEq,and_true] at hvs
  subst hvs
  have ck8:=ck7.trans c28
  have lg3':=lg3'.nob c28
  have lg4':=lg4'.nob c28
  rw [wrap64_in (x:=(j:Int)+1) (by omega) (by omega)]
  refine Qag (fun h=>?_) (fun h=>?_)
  ·obtain ⟨h1,h2⟩:=hz.1 h
   have hB:B e2=none:=by
    cases hB:B e2 with
    | none=>rfl
    | some p=>rw [hmj,hB] at h1;cases h1
   have hD:=gm.tied hl2 hB
   have c29:Chg Qac w28 w28.drew:=(Chg.refl Qac w28).drew
   have cd9:=ck8.trans c29
   have lg9:=lg4'.nob c29
   have lg39:=lg3'.nob c29
   generalize w28.drew=w29 at *
   refine rdI (va.nob cd9) he2 ?_
   rw [v2a]
   refine rdF (cd9.row (fun h=>h) rF) (by omega) (rdI (va.nob cd9) he2 ?_)
   rw [v2b]
   refine rdF (cd9.row (fun h=>h) rF) (by omega) ((Qvr lg9 (by have:=hfl (2*e2);omega) (by have:=hfl (2*e2+1);omega) (by omega) fun _ h=>h.elim).mono ?_)
   rintro r w30 ⟨t2',u2',z',H',rfl,c30,_,lg2',hH'⟩
   refine ⟨_,_,_,_,rfl,LI.again (k:=(eL tl N).length-(j+1)) ⟨j+1,_,_,_,_,G',H',rfl,by omega,cd9.trans c30,lg39.nob c30,lg2',hG3',fun x y hx hy=>?_,rfl⟩ (by rw [hj3];omega)⟩
   rw [hH',Qy0 (p:=fun z=>ky e<ky z) Qps he2 h2 hD,hH3 x y hx hy,hH3 x _ hx hl2,hH3 _ y hodd2 hy,hH3 x _ hx hodd2,hH3 _ y hl2 hy]
  ·refine LI.again (k:=(eL tl N).length-(j+1)) ⟨j+1,_,_,_,_,G',H3,rfl,by omega,ck8,lg3',lg4',hG3',fun x y hx hy=>?_,rfl⟩ (by rw [hj3];omega)
   rw [Qtt (p:=fun z=>ky e<ky z) he2 (fun h4=>by
    have h5:mk j=false:=by
     rw [hmj]
     rcases cb.ex e2 with h6 | h6
     ·rw [h6];rfl
     ·rw [h6] at h4;cases h4.2
    rw [hz.2 ⟨h5,h4.1⟩] at h;cases h)]
   exact hH3 x y hx hy
 have:j=(eL tl N).length:=by omega
 subst this
 rw [List.take_length] at hG3 hH3
 have cd6:Chg Qac w20 w26.drew:=ck6.trans (Chg.refl Qac w26).drew
 have lg3:=lg3.nob (Chg.refl Qac w26).drew
 have lg4:=lg4.nob (Chg.refl Qac w26).drew
 generalize w26.drew=w27 at *
 have hmj:=hmk k e hkL he'
 have mkj:∀{K:Bool→Prop},K (mk k)→ixS (some ⟨Mk,0,none⟩) (eL tl N).length ((k:Nat):Int) 1 fun a=>ldB a w27 K:=fun {K} kk=>Qbu hkL (by rw [Nat.zero_add,Nat.mul_one];exact Qx4 (n:=mk k) (cd6.row (fun h=>h) rM) (Quh hkL) kk)
 have tail:∀{Y Z:Prop},(mk k=true→Y)→(mk k=false→Z)→ixS (some ⟨Mk,0,none⟩) (eL tl N).length ((k:Nat):Int) 1 fun a=>ldB a w27 fun z=>bif z then Y else Z:=fun {Y Z} h1 h2=>mkj (Qag h1 h2)
 have last:mk k=true→ixS ab (eL tl N).length (k:Int) 1 fun a=>ldI .i64 a w27 fun n222=>ixS (some ⟨Fb,0,none⟩) (2*N) (IntKind.wrap .i64 (2*n222)) 1 fun a223=>ldI .i64 a223 w27 fun n224=>ixS b1 (i+1) n224 1 fun a225=>ldI .i64 a225 w27 fun n226=>ixS ab (eL tl N).length (k:Int) 1 fun a227=>ldI .i64 a227 w27 fun n228=>ixS (some ⟨Fb,0,none⟩) (2*N) (IntKind.wrap .i64 ((IntKind.wrap .i64 (2*n228))+1)) 1 fun a229=>ldI .i64 a229 w27 fun n230=>ixS b1 (i+1) n230 1 fun a231=>ldI .i64 a231 w27 fun n232=>bif (n226 != n232) then (Value.bool false=.bool true∧Chg Qac w w27) else (LI J [.int .i64 (IntKind.wrap .i64 ((k:Int)+1))] w27∧LM J [.int .i64 (IntKind.wrap .i64 ((k:Int)+1))] w27<LM J [.int .i64 k] w21):=fun h=>by
  rw [hmj] at h
  obtain ⟨p,hB⟩:=Option.isSome_iff_exists.1 h
  refine rdI (va.nob cd6) he' ?_
  rw [w2a]
  refine rdF (cd6.row (fun h=>h) rF) (by omega) (lg4.rd (by have:=hfl (2*e);omega) (rdI (va.nob cd6) he' ?_))
  rw [w2b]
  refine rdF (cd6.row (fun h=>h) rF) (by omega) (lg4.rd (by have:=hfl (2*e+1);omega) (Qag (fun h2=>?_) fun _=>again cd6))
  exfalso
  rw [(hH3 _ _ hle hodd).2 (gm.more hle hB)] at h2
  simp at h2
 refine mkj (Qag (fun h=>?_) fun h=>mkj (Qag last fun _=>again cd6))
 have hmf:mk k=false:=by simpa using h
 have hB:B e=none:=by
  cases hB:B e with
  | none=>rfl
  | some p=>rw [hmj,hB] at hmf;cases hmf
 refine (ev.nob cd6).ra he' (lg3.rd (ogN hle) ((ev.nob cd6).rb he' (lg3.rd (ogN hodd) (Qag (fun h2=>?_) fun _=>mkj (Qag last fun _=>again cd6)))))
 exfalso
 rw [(hG3 _ _ (ogN hle) (ogN hodd)).2 (gm.less hle hB)] at h2
 simp at h2
end Core
end Go.Proofs.YtpmicakdjhoafaaGreatDoor
