/-
The exported call of layer 4 that lists a sequence.
Conditions: those that each theorem states.
-/
import Derived.Test.YtpmicakdjhoafaaGreatDoorGAsk
import Derived.Test.YtpmicakdjhoafaaGreatDoorGMem
set_option linter.unusedVariables false
set_option linter.unusedSimpArgs false
namespace Go.Proofs.YtpmicakdjhoafaaGreatDoor
open Go
namespace Seq
def road:List Fr→List Nat
 | []=>[]
 | f::c=>if f.d then f.p::road c else road c
def pre:List Fr→List Nat
 | []=>[]
 | f::c=>if f.d then pre c else pre c++(f.sib.seq++[f.p])
def post:List Fr→List Nat
 | []=>[]
 | f::c=>if f.d then f.p::f.sib.seq++post c else post c
theorem Qwd (c:List Fr):∀u:T,Clean c→(plug c u).seq=pre c++u.seq++post c:=by
 induction c with
 | nil=>intro u _;simp [plug,pre,post]
 | cons f c ih=>
  intro u h
  have hb:f.b=false:=h f (by simp)
  rw [plug,ih _ (fun g hg=>h g (by simp [hg]))]
  unfold Fr.fill
  cases hd:f.d<;>simp [pre,post,hd,hb,T.seq]
theorem road_back (c:List Fr):∀(u:T) (y:Nat) (q:List Nat),Clean c→road c=y::q→∃l r c2,plug c u=plug c2 (.node l y false r)∧Clean c2∧road c2=q∧pre c++u.seq=pre c2++l.seq:=by
 induction c with
 | nil=>intro u y q _ h;cases h
 | cons f c ih=>
  intro u y q hc h
  have hb:f.b=false:=hc f (by simp)
  have hc':Clean c:=fun g hg=>hc g (by simp [hg])
  unfold road at h
  cases hd:f.d with
  | true=>
   rw [if_pos hd] at h
   injection h with h1 h2
   subst h1
   exact ⟨u,f.sib,c,by simp [plug,Fr.fill,hd,hb],hc',h2,by simp [pre,hd]⟩
  | false=>
   rw [if_neg (by simp [hd])] at h
   obtain ⟨l,r,c2,h1,h2,h3,h4⟩:=ih (f.fill u) y q hc' h
   refine ⟨l,r,c2,h1,h2,h3,?_⟩
   rw [←h4]
   simp [pre,hd,Fr.fill,hb,T.seq]
section
variable {w:World} {F L n:Nat} {v:Nat→Int} {q:List (List Nat)} {A B:List Nat} {a b x:Nat}
abbrev ivs (A:List Nat):List Value:=A.map fun x:Nat=>.int .i64 x
abbrev rvs (A:List Nat):List Value:=A.map fun x:Nat=>.int .i32 x
theorem c_List {x:Nat} (h:AF w.heap F L n v (A::q)) (hx:x∈A) :
  Calls Pg Qcg #[.pointer (some ⟨F,0,none⟩),.int .i64 x] w fun e w'=>∃ob oc,e=.returned (.tuple #[.slice ob A.length oc,errV 0])∧Own w' w.heap.size Qbl 1 ob A.length oc (ivs A)∧AS w w' F L n v (A::q):=by
 obtain ⟨hnd,hlt,_,_,hn,_⟩:=h.nodup
 have hxn:=hlt A (by simp) x hx
 have hlts:=h.lt
 refine (Qgd _ _ _ (fun v' w'=>∃ob oc,v'=.tuple #[.slice ob A.length oc,errV 0]∧Own w' w.heap.size Qbl 1 ob A.length oc (ivs A)∧AS w w' F L n v (A::q)) ?_).mono (by rintro e w' ⟨v,rfl,ob,oc,rfl,k⟩;exact ⟨ob,oc,rfl,k⟩)
 unfold Qfr
 refine (Qws h hx).mono ?_
 rintro e w4 ⟨rfl,s0,l0,r0,ts,hst0,k0,hs0,hpm⟩
 refine ⟨_,_,rfl,Qan (fun e=>absurd rfl e) (fun _=>?_)⟩
 have hA:A.length≤8388608:=by
  have hl:=k0.tr.len
  rw [←hs0]
  have h1:=l0.Qcr.length_eq
  have h2:=r0.Qcr.length_eq
  simp [T.ls] at hl
  simp [h1,h2];omega
 have hseq0:(T.node l0 x false r0).seq=A:=by simpa [T.seq] using hs0
 let J:Nat→List Value→World→Prop:=fun j vs w'=>∃(b8:Option Addr) (l8 c8:Nat) (b10:Option Addr) (l10 c10:Nat) (c:List Fr) (u:T) (s:S),
  vs=[.slice b8 l8 c8,.int .i32 u.rt,.slice b10 l10 c10]∧St w w' F L n s∧Fo n s v (plug c u::ts)∧(plug c u).seq=A∧Clean c∧
  Own w' w.heap.size Qbb 1 b8 l8 c8 (rvs (road c).reverse)∧Own w' w.heap.size Qbl 1 b10 l10 c10 (ivs (pre c))∧Apart b8 b10∧j=A.length-(pre c).length
 refine ⟨LI J,LM J,⟨_,none,0,0,none,0,0,[],_,s0,(by rw [wrap32_in (by omega) (by omega)];rfl),hst0,k0,hseq0,(by intro f hf;cases hf),Own.nil,Own.nil,Apart.nil,rfl⟩,?_⟩
 intro _ b8 l8 c8 n9 b10 l10 c10 w11 hJ
 obtain ⟨b8',l8',c8',b10',l10',c10',c,u,s,hvs,hst,k,hs,hcl,hro,hou,hap,hj⟩:=hJ.at
 simp only [List.cons.injEq,Value.slice.injEq,Value.int.injEq,and_true,true_and] at hvs
 obtain ⟨⟨rfl,rfl,rfl⟩,rfl,rfl,rfl,rfl⟩:=hvs
 have hroL:=hro.len
 have houL:=hou.len
 simp only [List.length_map,List.length_reverse,Nat.mul_one] at hroL houL
 have hsplit:=Qwd c u hcl
 have hlenA:A.length=(pre c).length+u.seq.length+(post c).length:=by rw [←hs,hsplit];simp;omega
 refine ⟨fun vs w'=>w'=w11∧(u.rt≠-1∨0<l8),?_,?_⟩
 ·refine Qag (fun h1=>?_) (fun h1=>?_)<;>simp only [b1s] at h1
  ·exact ⟨rfl,.inl h1⟩
  ·refine Qag (fun h2=>?_) (fun h2=>?_)<;>simp only [b1s] at h2
   ·exact ⟨rfl,.inr (by omega)⟩
   ·have hu:u=.nil:=by
     cases u with
     | nil=>rfl
     | node=>simp [T.rt] at h1
    subst hu
    have hr0:road c=[]:=List.length_eq_zero_iff.1 (by omega)
    have hpost:∀c:List Fr,road c=[]→post c=[]:=by
     intro c
     induction c with
     | nil=>intro _;rfl
     | cons f c ih=>
      intro hr
      unfold road at hr
      split at hr
      ·cases hr
      ·rename_i hd;unfold post;rw [if_neg hd];exact ih hr
    have hpA:pre c=A:=by rw [←hs,hsplit,hpost c hr0];simp [T.seq]
    rw [hpA] at hou houL
    refine ⟨b10,c10,by rw [houL];rfl,by rw [houL];exact hou,s,_,hst,k,?_⟩
    rw [List.map_cons,hs];exact hpm.cons _
 ·rintro _ w13 ⟨rfl,hgo⟩
  let J2:Nat→List Value→World→Prop:=fun j vs w'=>∃(b16:Option Addr) (l16 c16:Nat) (c':List Fr) (u':T) (s':S),
   vs=[.slice b16 l16 c16,.int .i32 u'.rt]∧St w w' F L n s'∧Fo n s' v (plug c' u'::ts)∧(plug c' u').seq=A∧Clean c'∧
   Own w' w.heap.size Qbb 1 b16 l16 c16 (rvs (road c').reverse)∧Own w' w.heap.size Qbl 1 b10 l10 c10 (ivs (pre c'))∧Apart b16 b10∧pre c'=pre c∧(u'≠.nil∨road c'≠[])∧j=u'.ls.length
  refine ⟨LI J2,LM J2,⟨_,b8,l8,c8,c,u,s,rfl,hst,k,hs,hcl,hro,hou,hap,rfl,?_,rfl⟩,?_⟩
  ·rcases hgo with h1 | h1
   ·exact .inl (by rintro rfl;exact h1 rfl)
   ·exact .inr (by intro e;rw [e] at hroL;simp at hroL;omega)
  clear hst k hs hro hap hsplit hcl hgo hroL
  rename_i w11 hJ
  intro _ b16 l16 c16 n17 w18 hJ2
  obtain ⟨b16',l16',c16',c',u',s',hvs,hst,k,hs,hcl,hro,hou,hap,hpre,hne,hj2⟩:=hJ2.at
  simp only [List.cons.injEq,Value.slice.injEq,Value.int.injEq,and_true,true_and] at hvs
  obtain ⟨⟨rfl,rfl,rfl⟩,rfl⟩:=hvs
  have hroL:=hro.len
  simp only [List.length_map,List.length_reverse,Nat.mul_one] at hroL
  have hroN:(road c').length≤8388608:=by
   have h1:(road c').length≤(cls c').length:=by
    have:∀c:List Fr,(road c).length≤(cls c).length:=by
     intro c
     induction c with
     | nil=>simp [road,cls]
     | cons f c ih=>simp only [road,cls];split<;>simp<;>omega
    exact this c'
   have h2:=k.tr.len
   rw [(Qdf c' _).length_eq,List.length_append] at h2
   omega
  refine Qag (fun hc=>?_) (fun hc=>?_)<;>simp only [b1s] at hc
  ·cases u' with
   | nil=>exact absurd rfl hc
   | node l y b r=>
    have hyn:y<n:=k.tr.bd y (by rw [(Qdf c' _).mem_iff];simp [T.ls])
    have hyy:(y:Int).toNat=y:=by omega
    obtain ⟨_,⟨a1,a2⟩,a3,a4⟩:=k.wf y hyn
    rw [show (T.node l y b r).rt=(y:Int) from rfl] at *
    refine (Qsq hst.i (by omega) (by omega) (by rw [hyy];exact a1) (by rw [hyy];exact a2) (by rw [hyy];exact a3) (by rw [hyy];exact a4)).mono ?_
    rintro e w19 ⟨rfl,hst19⟩
    refine ⟨rfl,?_⟩
    have hg:=Qwj k.tr
    have k:=k.gd hg
    have hs:=hg.seq.trans hs
    obtain ⟨l',r',hsh⟩:=Qi5 l y b r
    have hperm:=Qnf l y b r
    rw [hsh] at k hs hperm
    have hlen:=hperm.length_eq
    simp only [T.ls,List.length_append,List.length_cons] at hlen
    have hro:=hro.keep hst19.c (fun g hg (e:g=L)=>by have:=hro.Qfb hg;omega)
    have hou:=hou.keep hst19.c (fun g hg (e:g=L)=>by have:=hou.Qfb hg;omega)
    have hst:=hst.trans hst19
    refine Qa9 fun hrow=>?_
    have hro:=hro.alloc (.cells #[.int .i32 y] Qbb)
    have hou:=hou.alloc (.cells #[.int .i32 y] Qbb)
    have hst:=hst.alloc (.cells #[.int .i32 y] Qbb)
    obtain ⟨b45,c45,w24,hrun,hown,hch,hwh⟩:=Qrd (ty:=Qbo) Qt3 hro hrow rfl (by simp [oneC]) hst.c.size (by omega) (by omega)
    refine ⟨_,_,_,w24,hrun,?_⟩
    have hst:=hst.own (hch.mono fun i _ hi=>(hro.Qfb hi).1)
    have hou':=hou.keep hch (fun g hg h2=>hap g h2 hg)
    have hap:=hap.app hwh (fun k hk=>(hou.Qfb hk).2)
    have hou:=hou'
    obtain ⟨⟨hN,_⟩,_⟩:=(Qdr c' _).1 k.tr.rep
    have hleft:(pushS s' y).left (y:Int).toNat=l'.rt:=by rw [hyy];exact hN.left
    repeat (first | with_reducible refine pt_i ?_ | with_reducible refine gF (k:=?_) | with_reducible refine Qa1 (by omega) (by omega) ?_ | with_reducible refine g0 (k:=?_) | with_reducible refine g1 (k:=?_) | with_reducible refine g2 (k:=?_) | with_reducible refine g3 (k:=?_) | with_reducible refine g4 (k:=?_) | with_reducible refine g5 (k:=?_) | with_reducible refine g6 (k:=?_) | with_reducible refine g7 (k:=?_) | with_reducible refine g8 (k:=?_) | with_reducible refine s0 (k:=fun _ hst=>?_) | with_reducible refine s1 (k:=fun _ hst=>?_) | with_reducible refine s2 (k:=fun _ hst=>?_) | with_reducible refine s3 (k:=fun _ hst=>?_) | with_reducible refine s4 (k:=fun _ hst=>?_) | with_reducible refine s5 (k:=fun _ hst=>?_) | with_reducible refine s6 (k:=fun _ hst=>?_) | with_reducible refine s7 (k:=fun _ hst=>?_) | with_reducible refine s8 (k:=fun _ hst=>?_) | simp only [projS,Qab])
    rw [hleft]
    refine LI.again (k:=l'.ls.length) ⟨_,_,_,⟨true,y,false,r'⟩::c',l',_,rfl,hst,?_,?_,?_,?_,?_,hap,?_,?_,rfl⟩ ?_
    ·exact k
    ·exact hs
    ·intro f hf;rcases List.mem_cons.1 hf with rfl | hf
     ·rfl
     ·exact hcl f hf
    ·simp only [road,if_true,rvs,List.reverse_cons,List.map_append,List.map_cons,List.map_nil];exact hown
    ·simpa [pre] using hou
    ·simpa [pre] using hpre
    ·exact .inr (by simp [road])
    ·rw [hj2];simp only [T.ls,List.length_append,List.length_cons];omega
  ·have hu:u'=.nil:=by
    cases u' with
    | nil=>rfl
    | node=>simp [T.rt] at hc
   subst hu
   have hne:=hne.resolve_left (fun h=>h rfl)
   obtain ⟨y,qr,hrd⟩:=List.exists_cons_of_ne_nil hne
   obtain ⟨l,r,c2,hp1,hcl2,hrd2,hpre2⟩:=road_back c' .nil y qr hcl hrd
   rw [hp1] at k hs
   have hyn:y<n:=k.tr.bd y (by rw [(Qdf c2 _).mem_iff];simp [T.ls])
   have hyy:(y:Int).toNat=y:=by omega
   have hl16:l16=qr.length+1:=by rw [←hroL,hrd];simp
   subst hl16
   have hw1:IntKind.i64.wrap (((qr.length+1:Nat):Int)-1)=((qr.length:Nat):Int):=by rw [hrd] at hroN;simp at hroN;rw [wrap64_in (by omega) (by omega)];omega
   rw [hw1]
   obtain ⟨g,cs,rfl,hgb,hgr,hgx,hgc,_⟩:=hro.get (by omega)
   refine Qb3 (by omega) ?_
   refine Qaj (n:=y) hgr ?_ ?_
   ·rw [Qr6 hgx (by omega),hrd,←hrd2]
    simp [hrd2]
   refine ⟨by omega,by omega,?_⟩
   have hcap:=hro.cap
   refine Qa9 fun hrow=>?_
   rw [wrap64_in (by omega) (by omega)] at hrow ⊢
   have hro:=hro.alloc (.cells #[.int .i64 y] Qbl)
   have hou:=hou.alloc (.cells #[.int .i64 y] Qbl)
   have hst:=hst.alloc (.cells #[.int .i64 y] Qbl)
   have hpreL:(pre c').length+1≤A.length:=by
    have h1:=Qwd c2 (.node l y false r) hcl2
    rw [hs] at h1
    have h2:=congrArg List.length h1
    have h3:=congrArg List.length hpre2
    simp [T.seq] at h2 h3
    omega
   have houL:=hou.len
   simp only [List.length_map,Nat.mul_one] at houL
   obtain ⟨b61,c61,w34,hrun,hown,hch,hwh⟩:=Qrd (ty:=Qam) Qke hou hrow rfl (by simp [oneC]) hst.c.size (by omega) (by omega)
   refine ⟨_,_,_,w34,hrun,?_⟩
   have hst:=hst.own (hch.mono fun i _ hi=>(hou.Qfb hi).1)
   have hap2:=(Apart.app hap.symm hwh (fun k hk=>(hro.Qfb hk).2)).symm
   have hro:=hro.keep hch (fun g hg h2=>hap g hg h2)
   obtain ⟨⟨hN,_⟩,_⟩:=(Qdr c2 _).1 k.tr.rep
   have hright:s'.right (y:Int).toNat=r.rt:=by rw [hyy];exact hN.right
   repeat (first | with_reducible refine pt_i ?_ | with_reducible refine gF (k:=?_) | with_reducible refine Qa1 (by omega) (by omega) ?_ | with_reducible refine g0 (k:=?_) | with_reducible refine g1 (k:=?_) | with_reducible refine g2 (k:=?_) | with_reducible refine g3 (k:=?_) | with_reducible refine g4 (k:=?_) | with_reducible refine g5 (k:=?_) | with_reducible refine g6 (k:=?_) | with_reducible refine g7 (k:=?_) | with_reducible refine g8 (k:=?_) | with_reducible refine s0 (k:=fun _ hst=>?_) | with_reducible refine s1 (k:=fun _ hst=>?_) | with_reducible refine s2 (k:=fun _ hst=>?_) | with_reducible refine s3 (k:=fun _ hst=>?_) | with_reducible refine s4 (k:=fun _ hst=>?_) | with_reducible refine s5 (k:=fun _ hst=>?_) | with_reducible refine s6 (k:=fun _ hst=>?_) | with_reducible refine s7 (k:=fun _ hst=>?_) | with_reducible refine s8 (k:=fun _ hst=>?_) | simp only [projS,Qab])
   rw [hright]
   have hro2:=hro.resl (m:=qr.length) (by omega)
   refine LI.again (k:=A.length-(pre (⟨false,y,false,l⟩::c2)).length) ⟨_,_,_,_,_,_,⟨false,y,false,l⟩::c2,r,_,rfl,hst,k,hs,?_,?_,?_,?_,rfl⟩ ?_
   ·intro f hf;rcases List.mem_cons.1 hf with rfl | hf
    ·rfl
    ·exact hcl2 f hf
   ·have e:rvs (road (⟨false,y,false,l⟩::c2)).reverse=(rvs (road c').reverse).take qr.length:=by
     rw [hrd];simp [road,hrd2,rvs]
    rw [e]
    have e1:Int.toNat ((qr.length:Nat):Int)-0=qr.length:=by omega
    rw [e1]
    exact hro2
   ·have e:ivs (pre (⟨false,y,false,l⟩::c2))=ivs (pre c')++[.int .i64 y]:=by
     have:pre (⟨false,y,false,l⟩::c2)=pre c'++[y]:=by
      simp only [T.seq,List.append_nil] at hpre2
      rw [hpre2];simp [pre]
     rw [this];simp [ivs]
    rw [e];exact hown
   ·intro k h1 h2;rw [Own.resl_bk] at h1;exact hap2 k h1 h2
   ·have:pre (⟨false,y,false,l⟩::c2)=pre c'++[y]:=by
     simp only [T.seq,List.append_nil] at hpre2
     rw [hpre2];simp [pre]
    rw [hj,this,←hpre];simp;omega
end
end Seq
end Go.Proofs.YtpmicakdjhoafaaGreatDoor
namespace Go.Proofs.YtpmicakdjhoafaaGreatDoor
open Go
namespace Seq
def mkS' (i:Nat):S:=⟨fun j=>if j<i then -1 else 0,fun j=>if j<i then -1 else 0,fun j=>if j<i then -1 else 0,fun _=>false,fun j=>if j<i then 1 else 0,fun _=>0,fun _=>0,fun _=>0,fun _=>0⟩
theorem Qw4 (i:Nat) (a b:Int):upd (fun j=>if j<i then a else b) i a=fun j=>if j<i+1 then a else b:=by
 funext j
 unfold upd
 by_cases h:j=i
 ·subst h;rw [if_pos rfl,if_pos (by omega)]
 ·rw [if_neg h]
  show (if j<i then a else b)=_
  by_cases h2:j<i
  ·rw [if_pos h2,if_pos (by omega)]
  ·rw [if_neg h2,if_neg (by omega)]
theorem upd_all {α:Type} (i:Nat) (a:α):upd (fun _=>a) i a=fun _=>a:=by
 funext j;unfold upd;split<;>rfl
theorem Qbt (z:List Value) (n:Nat):(Qav z.toArray n).toList=recs (fun _=>z) n:=by
 unfold Qav recs
 induction n with
 | zero=>rfl
 | succ n ih=>
  rw [List.range_succ,List.flatMap_append,←ih,List.replicate_succ']
  simp
def ones (n:Nat):List (List Nat):=(List.range n).map fun x=>[x]
theorem fo_new {n:Nat} (hn:n≤8388608):Fo n (mkS' n) (fun _=>0) ((List.range n).map fun x=>.node .nil x false .nil):=by
 refine ⟨fun _=>⟨by omega,by omega⟩,?_,?_,hn⟩
 ·intro t ht
  obtain ⟨x,hx,rfl⟩:=List.mem_map.1 ht
  have hx:=List.mem_range.1 hx
  refine ⟨⟨?_,trivial,trivial⟩,by intro h;cases h⟩
  refine ⟨?_,?_,?_,?_,?_,⟨?_,?_,?_,?_⟩⟩
  all_goals simp [mkS',hx,T.rt,T.ls,vsum,IsMn,IsMx,w64]
  all_goals rfl
 ·have:∀l:List Nat,(l.map fun x=>T.node .nil x false .nil).flatMap T.ls=l:=by
   intro l;induction l with
   | nil=>rfl
   | cons x l ih=>rw [List.map_cons,List.flatMap_cons,ih];rfl
  rw [this]
theorem c_New {w:World} {n:Nat} (h1:1≤n) (hn:n≤8388608) :
  Calls Pg Qqd #[.int .i64 n] w fun e w'=>∃F L,e=.returned (.tuple #[.pointer (some ⟨F,0,none⟩),errV 0])∧Chg Qac w w'∧w.heap.size≤F∧w.heap.size≤L∧AF w'.heap F L n (fun _=>0) (ones n):=by
 refine (Qsk _ _ (fun v' w'=>∃F L,v'=.tuple #[.pointer (some ⟨F,0,none⟩),errV 0]∧Chg Qac w w'∧w.heap.size≤F∧w.heap.size≤L∧AF w'.heap F L n (fun _=>0) (ones n)) ?_).mono (by rintro e w' ⟨v,rfl,F,L,rfl,k⟩;exact ⟨F,L,rfl,k⟩)
 unfold Qsw
 refine ⟨fun _ w'=>w'=w,?_,?_⟩
 ·refine Qag (fun h1=>?_) (fun h1=>?_)<;>simp only [b1s] at h1
  ·omega
  ·refine Qag (fun h2=>?_) (fun h2=>?_)<;>simp only [b1s] at h2
   ·omega
   ·rfl
 rintro _ w2 rfl
 have hnn:Int.toNat (n:Int)=n:=by omega
 refine ⟨by omega,by omega,by omega,?_⟩
 rw [hnn]
 refine Qa9 fun hL=>Qa9 fun hF=>?_
 have hL:=hL.alloc (.cells #[.slice (some ⟨w2.heap.size,0,none⟩) n n] Qjt)
 rw [Qbt] at hL
 have hch:Chg Qac w2 ((w2.alloc (.cells (Qav #[.int .i32 0,.int .i32 0,.int .i32 0,.bool false,.int .i32 0,.int .i64 0,.int .i64 0,.int .i64 0,.int .i64 0] n) Qe2)).alloc (.cells #[.slice (some ⟨w2.heap.size,0,none⟩) n n] Qjt)):=((Chg.refl _ _).alloc _).alloc _
 have hs1:(w2.alloc (.cells (Qav #[.int .i32 0,.int .i32 0,.int .i32 0,.bool false,.int .i32 0,.int .i64 0,.int .i64 0,.int .i64 0,.int .i64 0] n) Qe2)).heap.size=w2.heap.size+1:=by show (w2.heap.push _).size=_;simp
 rw [hs1] at hF ⊢
 generalize (w2.alloc (.cells (Qav #[.int .i32 0,.int .i32 0,.int .i32 0,.bool false,.int .i32 0,.int .i64 0,.int .i64 0,.int .i64 0,.int .i64 0] n) Qe2)).alloc (.cells #[.slice (some ⟨w2.heap.size,0,none⟩) n n] Qjt)=w6 at *
 have hF0:w2.heap.size+1<w6.heap.size:=hF.lt
 have hi:IsF w6.heap (w2.heap.size+1) w2.heap.size n (mkS' 0):=⟨hF,by
  have:encS (mkS' 0)=fun _=>[.int .i32 0,.int .i32 0,.int .i32 0,.bool false,.int .i32 0,.int .i64 0,.int .i64 0,.int .i64 0,.int .i64 0]:=by
   funext i;simp [encS,mkS']
  rw [this];exact hL,by omega⟩
 generalize hFF:w2.heap.size+1=F at *
 generalize hLL:w2.heap.size=L at *
 have hst:=St.start hi
 repeat (first | with_reducible refine pt_i ?_ | with_reducible refine gF (k:=?_) | with_reducible refine Qa1 (by omega) (by omega) ?_ | with_reducible refine g0 (k:=?_) | with_reducible refine g1 (k:=?_) | with_reducible refine g2 (k:=?_) | with_reducible refine g3 (k:=?_) | with_reducible refine g4 (k:=?_) | with_reducible refine g5 (k:=?_) | with_reducible refine g6 (k:=?_) | with_reducible refine g7 (k:=?_) | with_reducible refine g8 (k:=?_) | with_reducible refine s0 (k:=fun _ hst=>?_) | with_reducible refine s1 (k:=fun _ hst=>?_) | with_reducible refine s2 (k:=fun _ hst=>?_) | with_reducible refine s3 (k:=fun _ hst=>?_) | with_reducible refine s4 (k:=fun _ hst=>?_) | with_reducible refine s5 (k:=fun _ hst=>?_) | with_reducible refine s6 (k:=fun _ hst=>?_) | with_reducible refine s7 (k:=fun _ hst=>?_) | with_reducible refine s8 (k:=fun _ hst=>?_) | simp only [projS,Qab])
 let J:Nat→List Value→World→Prop:=fun j vs w'=>∃i:Nat,vs=[.int .i64 i]∧i≤n∧St w6 w' F L n (mkS' i)∧j=n-i
 refine ⟨LI J,LM J,⟨_,0,rfl,by omega,hst,rfl⟩,?_⟩
 intro _ i w11 hJ
 obtain ⟨i,hvs,hin,hst,hj⟩:=hJ.at
 simp only [List.cons.injEq,Value.int.injEq,and_true,true_and] at hvs
 subst hvs
 refine Qag (fun hc=>?_) (fun hc=>?_)<;>simp only [b1s] at hc
 ·have hii:(i:Int).toNat=i:=by omega
  repeat (first | with_reducible refine pt_i ?_ | with_reducible refine gF (k:=?_) | with_reducible refine Qa1 (by omega) (by omega) ?_ | with_reducible refine g0 (k:=?_) | with_reducible refine g1 (k:=?_) | with_reducible refine g2 (k:=?_) | with_reducible refine g3 (k:=?_) | with_reducible refine g4 (k:=?_) | with_reducible refine g5 (k:=?_) | with_reducible refine g6 (k:=?_) | with_reducible refine g7 (k:=?_) | with_reducible refine g8 (k:=?_) | with_reducible refine s0 (k:=fun _ hst=>?_) | with_reducible refine s1 (k:=fun _ hst=>?_) | with_reducible refine s2 (k:=fun _ hst=>?_) | with_reducible refine s3 (k:=fun _ hst=>?_) | with_reducible refine s4 (k:=fun _ hst=>?_) | with_reducible refine s5 (k:=fun _ hst=>?_) | with_reducible refine s6 (k:=fun _ hst=>?_) | with_reducible refine s7 (k:=fun _ hst=>?_) | with_reducible refine s8 (k:=fun _ hst=>?_) | simp only [projS,Qab])
  rw [wrap64_in (by omega) (by omega)]
  refine LI.again (k:=n-(i+1)) ⟨i+1,rfl,by omega,?_,rfl⟩ (by rw [hj];omega)
  rw [hii] at hst
  have e:mkS' (i+1)=((((((((((mkS' i).w_up i (-1)).Qbe i (-1)).Qa4 i (-1)).Qbg i false).Qdj i 1).Qbs i 0).Qhf i 0).Qb2 i 0).Qdk i 0):=by
   unfold mkS' S.w_up S.Qbe S.Qa4 S.Qbg S.Qdj S.Qbs S.Qhf S.Qb2 S.Qdk
   simp only [Qw4,upd_all]
  rw [e]
  exact hst
 ·have hin:i=n:=by omega
  subst hin
  refine ⟨F,L,rfl,hch.trans' hst.c (fun k hk=>.inr (by omega)),by omega,by omega,_,_,hst.i,fo_new hn,?_⟩
  unfold ones
  rw [List.map_map]
  exact List.Perm.refl _
end Seq
end Go.Proofs.YtpmicakdjhoafaaGreatDoor
namespace Go.Proofs.YtpmicakdjhoafaaGreatDoor
open Go
namespace Seq
end Seq
end Go.Proofs.YtpmicakdjhoafaaGreatDoor
