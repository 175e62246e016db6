/-
A law's arguments opened: a map as a plain list.
Conditions: those that each theorem states.
-/
import Derived.Test.YtfeekmmfdkfgmaaGreatDoorOpens
import Derived.Test.YtfeekmmfdkfgmaaGreatDoorHref
set_option linter.unusedVariables false
set_option linter.unusedSimpArgs false
namespace Go.Proofs.YtfeekmmfdkfgmaaGreatDoor
open Go Go.ChangeShapes Go.WideShapes Go.RowKit Go.Deep
set_option linter.unnecessarySimpa false
section
variable {H:Type} {enc:TypeId × Value→H} {P:Program} {w:World} {base:Nat} {spare:Nat→Bool} {held:Bool} {r:Reach} {b0:Nat}
def FN (P:Program) (k:IntKind) (fs:Array Field) (j o:Nat):Prop:=∃g:Field,fs[j]?=some g∧g.offset=o∧P.underlying g.type=some (.int k)∧P.cellsOf g.type=1
def F2 (P:Program) (k:IntKind) (fs:Array Field) (j o:Nat):Prop:=∃(g:Field) (e:TypeId),fs[j]?=some g∧g.offset=o∧P.underlying g.type=some (.array 2 e)∧P.cellsOf g.type=2∧P.underlying e=some (.int k)∧P.cellsOf e=1
def FS (P:Program) (e:TypeId) (fs:Array Field) (j o:Nat):Prop:=∃g:Field,fs[j]?=some g∧g.offset=o∧P.underlying g.type=some (.slice e)∧P.cellsOf g.type=1
section
variable {e:TypeId} {fs:Array Field} {fuel:Nat} {cs:List Value} {x:DataW H × List MemPlace} {k:IntKind} {j o:Nat}
theorem fld (he:P.underlying e=some (.struct fs)) (h:DataW.trod enc P w base spare held fuel e cs=some x) {g:Field} (hg:fs[j]?=some g):∃fuel' y,DataW.trod enc P w base spare held fuel' g.type ((cs.drop g.offset).take (P.cellsOf g.type))=some y:=by
 obtain ⟨xs,m,rfl,_,hl,hxl,hf⟩:=DataW.trod_struct he h
 have hj:=hf j g hg
 have hjx:j<xs.length:=by rw [hxl];exact (Array.getElem?_eq_some_iff.1 hg).1
 rw [List.getElem?_eq_getElem hjx] at hj
 exact ⟨_,_,hj⟩
theorem FN.at (hh:FN P k fs j o) (he:P.underlying e=some (.struct fs)) (h:DataW.trod enc P w base spare held fuel e cs=some x):∃z,cs[o]?=some (.int k z)∧(Lit.int k z).wf=true:=by
 obtain ⟨g,k1,k2,k3,k4⟩:=hh
 obtain ⟨f',y,hy⟩:=fld he h k1
 rw [k2,k4] at hy
 obtain ⟨z,e1,_,hwf⟩:=DataW.trod_int k3 hy
 refine ⟨z,?_,hwf⟩
 have:=congrArg (fun l:List Value=>l[0]?) e1
 simpa using this
theorem F2.at (hh:F2 P k fs j o) (he:P.underlying e=some (.struct fs)) (h:DataW.trod enc P w base spare held fuel e cs=some x) {i:Nat} (hi:i<2):∃z,cs[o+i]?=some (.int k z)∧(Lit.int k z).wf=true:=by
 obtain ⟨g,e2,k1,k2,k3,k4,k5,k6⟩:=hh
 obtain ⟨f',y,hy⟩:=fld he h k1
 rw [k2,k4] at hy
 obtain ⟨ys,m2,_,_,hl2,hyl,hf2⟩:=DataW.trod_array k3 hy
 have hi2:=hf2 i hi
 rw [k6] at hi2
 rw [List.getElem?_eq_getElem (by omega)] at hi2
 obtain ⟨z,e1,_,hwf⟩:=DataW.trod_int k5 hi2
 refine ⟨z,?_,hwf⟩
 have:=congrArg (fun l:List Value=>l[0]?) e1
 simp only [Nat.mul_one] at this
 rw [List.getElem?_take_of_lt (by omega),List.getElem?_drop,List.getElem?_take_of_lt (by omega),List.getElem?_drop] at this
 simpa using this
theorem FS.at {e':TypeId} (hh:FS P e' fs j o) (he:P.underlying e=some (.struct fs)) (h:DataW.trod enc P w base spare held fuel e cs=some x) {sz:Nat} (hc:P.cellsOf e'=sz) (hsz:0<sz) {Q:List Value→Prop}
  (hQ:∀fuel cs x,DataW.trod enc P w base spare held fuel e' cs=some x→Q cs) :
  ∃b l c,cs[o]?=some (.slice b l c)∧(l=0∨∃a,b=some a∧a.block<w.heap.size∧∀i,i<l→∃cs',Q cs'∧∀k,k<sz→w.cell? ((a.add (i*sz)).add k)=cs'[k]?):=by
 obtain ⟨g,k1,k2,k3,k4⟩:=hh
 obtain ⟨f',y,hy⟩:=fld he h k1
 rw [k2,k4] at hy
 have at0:∀{v:Value},(cs.drop o).take 1=[v]→cs[o]?=some v:=fun {v} e1=>by
  have:=congrArg (fun l:List Value=>l[0]?) e1
  simpa using this
 rcases open_slice k3 hy with ⟨hcs,_⟩ | ⟨a,len,cap,m,n,D,Pl,hcs,hb,hl,hmx,hm,_,hel⟩
 ·exact ⟨_,_,_,at0 hcs,.inl rfl⟩
 ·have hml:len≤m:=by rw [hm];split<;>omega
  refine ⟨_,_,_,at0 hcs,?_⟩
  by_cases h0:len=0
  ·exact .inl h0
  ·refine .inr ⟨a,rfl,?_,fun i hi=>?_⟩
   ·obtain ⟨cs',h1,_⟩:=hel 0 (by omega)
    have:=World.cells?_block h1 (by omega)
    rw [Qga] at this;exact this
   ·obtain ⟨cs',h1,h2⟩:=hel i (by omega)
    rw [hc] at h1
    exact ⟨cs',hQ _ _ _ h2,fun k hk=>(World.cells?_some h1).2.2 k hk⟩
end
def icell (w:World) (a:Addr):Int:=match w.cell? a with | some (.int _ x)=>x | _=>0
open Core in
theorem open_model {t tp te:TypeId} {fs fp fe:Array Field} (ht:P.underlying t=some (.struct fs)) (hc:P.cellsOf t=4) (h0:FN P .i64 fs 0 0) (h1:FS P tp fs 1 1) (h2:FS P tp fs 2 2) (h3:FS P te fs 3 3)
  (hp:P.underlying tp=some (.struct fp)) (hpc:P.cellsOf tp=2) (p0:FN P .u32 fp 0 0) (p1:FN P .i64 fp 1 1) (he:P.underlying te=some (.struct fe)) (hec:P.cellsOf te=5) (e0:F2 P .u32 fe 0 0) (e1:F2 P .u32 fe 1 2) (e2:FN P .i32 fe 2 4)
  {v:Value} {d:DataW H} {ps:List MemPlace} (hv:Value.okWide P w r b0 t v) (h:DataW.Trod enc P w base spare held t v d ps):∃M:Mdl,v=M.val∧MV0 w M:=by
 simp only [Value.okWide,ht] at hv
 obtain ⟨cs,rfl,hsz,_⟩:=hv
 obtain ⟨fuel,h⟩:=h
 rw [hc] at hsz
 have hpl:∀fuel cs x,DataW.trod enc P w base spare held fuel tp cs=some x→∃z y:Int,cs[0]?=some (.int .u32 z)∧cs[1]?=some (.int .i64 y)∧0≤z∧z<4294967296:=fun fuel cs x h=>by
  obtain ⟨z,hz,wz⟩:=p0.at hp h
  obtain ⟨y,hy,_⟩:=p1.at hp h
  simp only [Lit.wf,Bool.and_eq_true,decide_eq_true_eq] at wz
  exact ⟨z,y,hz,hy,wz.1,Int.lt_of_le_of_lt wz.2 (by decide)⟩
 have hed:∀fuel cs x,DataW.trod enc P w base spare held fuel te cs=some x→(∀j,j<4→∃z:Int,cs[j]?=some (.int .u32 z)∧0≤z∧z<4294967296)∧∃y:Int,cs[4]?=some (.int .i32 y)∧-2147483648≤y∧y≤2147483647:=fun fuel cs x h=>by
  have u:∀{z:Int},(Lit.int .u32 z).wf=true→0≤z∧z<4294967296:=fun {z} wz=>by
   simp only [Lit.wf,Bool.and_eq_true,decide_eq_true_eq] at wz
   exact ⟨wz.1,Int.lt_of_le_of_lt wz.2 (by decide)⟩
  refine ⟨fun j hj=>?_,?_⟩
  ·match j,hj with
   | 0,_=>obtain ⟨z,hz,wz⟩:=e0.at he h (i:=0) (by omega);exact ⟨z,hz,u wz⟩
   | 1,_=>obtain ⟨z,hz,wz⟩:=e0.at he h (i:=1) (by omega);exact ⟨z,hz,u wz⟩
   | 2,_=>obtain ⟨z,hz,wz⟩:=e1.at he h (i:=0) (by omega);exact ⟨z,hz,u wz⟩
   | 3,_=>obtain ⟨z,hz,wz⟩:=e1.at he h (i:=1) (by omega);exact ⟨z,hz,u wz⟩
  ·obtain ⟨y,hy,wy⟩:=e2.at he h
   simp only [Lit.wf,Bool.and_eq_true,decide_eq_true_eq] at wy
   exact ⟨y,hy,wy⟩
 obtain ⟨N,hN,_⟩:=h0.at ht h
 obtain ⟨vb,vl,vc,hvs,hv⟩:=h1.at ht h hpc (by omega) hpl
 obtain ⟨eb,el,ec,hes,hE⟩:=h2.at ht h hpc (by omega) hpl
 obtain ⟨lb,ll,lc,hls,hL⟩:=h3.at ht h hec (by omega) hed
 have places:∀{b:Option Addr} {l:Nat},(l=0∨∃a,b=some a∧a.block<w.heap.size∧∀i,i<l→∃cs':List Value,(∃z y:Int,cs'[0]?=some (.int .u32 z)∧cs'[1]?=some (.int .i64 y)∧0≤z∧z<4294967296)∧∀k,k<2→w.cell? ((a.add (i*2)).add k)=cs'[k]?)→
   ∃X:List (Int × Int),X.length=l∧CV w b X.length 2 (X.flatMap pz)∧∀p∈X,0≤p.1∧p.1<4294967296:=by
  intro b l hh
  by_cases hl:l=0
  ·exact ⟨[],hl.symm,.inl rfl,fun p hp=>by cases hp⟩
  rcases hh with hh | ⟨a,rfl,ha,hh⟩
  ·exact absurd hh hl
  have key:∀i,i<l→w.cell? ((a.add (i*2)).add 0)=some (.int .u32 (icell w ((a.add (i*2)).add 0)))∧w.cell? ((a.add (i*2)).add 1)=some (.int .i64 (icell w ((a.add (i*2)).add 1)))∧0≤icell w ((a.add (i*2)).add 0)∧icell w ((a.add (i*2)).add 0)<4294967296:=by
   intro i hi
   obtain ⟨cs',⟨z,y,hz,hy,b1,b2⟩,hk⟩:=hh i hi
   have k0:=(hk 0 (by omega)).trans hz
   have k1:=(hk 1 (by omega)).trans hy
   have i0:icell w ((a.add (i*2)).add 0)=z:=by unfold icell;rw [k0]
   have i1:icell w ((a.add (i*2)).add 1)=y:=by unfold icell;rw [k1]
   rw [i0,i1]
   exact ⟨k0,k1,b1,b2⟩
  refine ⟨(List.range l).map fun i=>(icell w ((a.add (i*2)).add 0),icell w ((a.add (i*2)).add 1)),by simp,.inr ⟨a,rfl,ha,fun i k hi hk=>?_⟩,fun p hp=>?_⟩
  ·have hi:i<l:=by simpa using hi
   have hX:((List.range l).map fun i=>(icell w ((a.add (i*2)).add 0),icell w ((a.add (i*2)).add 1)))[i]?=some (icell w ((a.add (i*2)).add 0),icell w ((a.add (i*2)).add 1)):=by
    rw [List.getElem?_map,List.getElem?_range hi];rfl
   rw [Qz1 hX hk]
   obtain ⟨k0,k1,_⟩:=key i hi
   match k,hk with
   | 0,_=>exact k0
   | 1,_=>exact k1
  ·obtain ⟨i,hi,rfl⟩:=List.mem_map.1 hp
   exact (key i (List.mem_range.1 hi)).2.2
 obtain ⟨X,rfl,cx,bx⟩:=places hv
 obtain ⟨Y,rfl,cy,by'⟩:=places hE
 have edges:∃(fr nx:Nat→Nat) (W:Nat→Int),CV w lb ll 5 (recs (mcl fr nx W) ll)∧(∀d,d<2*ll→fr d<4294967296∧nx d<4294967296)∧∀e,e<ll→-2147483648≤W e∧W e≤2147483647:=by
  by_cases hl:ll=0
  ·subst hl
   exact ⟨fun _=>0,fun _=>0,fun _=>0,.inl rfl,fun d hd=>by omega,fun e he=>by omega⟩
  rcases hL with hh | ⟨a,rfl,ha,hh⟩
  ·exact absurd hh hl
  have key:∀i,i<ll→(∀j,j<4→w.cell? ((a.add (i*5)).add j)=some (.int .u32 (icell w ((a.add (i*5)).add j)))∧0≤icell w ((a.add (i*5)).add j)∧icell w ((a.add (i*5)).add j)<4294967296)∧
    w.cell? ((a.add (i*5)).add 4)=some (.int .i32 (icell w ((a.add (i*5)).add 4)))∧-2147483648≤icell w ((a.add (i*5)).add 4)∧icell w ((a.add (i*5)).add 4)≤2147483647:=by
   intro i hi
   obtain ⟨cs',⟨hz,y,hy,b1⟩,hk⟩:=hh i hi
   refine ⟨fun j hj=>?_,?_⟩
   ·obtain ⟨z,hz,b2⟩:=hz j hj
    have k0:=(hk j (by omega)).trans hz
    have i0:icell w ((a.add (i*5)).add j)=z:=by unfold icell;rw [k0]
    rw [i0];exact ⟨k0,b2⟩
   ·have k1:=(hk 4 (by omega)).trans hy
    have i1:icell w ((a.add (i*5)).add 4)=y:=by unfold icell;rw [k1]
    rw [i1];exact ⟨k1,b1⟩
  refine ⟨fun d=>(icell w ((a.add (d/2*5)).add (d % 2))).toNat,fun d=>(icell w ((a.add (d/2*5)).add (2+d % 2))).toNat,fun e=>icell w ((a.add (e*5)).add 4),.inr ⟨a,rfl,ha,fun i k hi hk=>?_⟩,fun d hd=>?_,fun e he=>(key e he).2.2⟩
  ·rw [Qjq hi hk]
   obtain ⟨kf,kw,_⟩:=key i hi
   have f0:=kf 0 (by omega)
   have f1:=kf 1 (by omega)
   have f2:=kf 2 (by omega)
   have f3:=kf 3 (by omega)
   have d0:2*i/2=i:=by omega
   have d1:(2*i+1)/2=i:=by omega
   have m0:2*i % 2=0:=by omega
   have m1:(2*i+1) % 2=1:=by omega
   unfold mcl
   simp only [d0,d1,m0,m1]
   match k,hk with
   | 0,_=>rw [f0.1];simp;omega
   | 1,_=>rw [f1.1];simp;omega
   | 2,_=>rw [f2.1];simp;omega
   | 3,_=>rw [f3.1];simp;omega
   | 4,_=>rw [kw];rfl
  ·obtain ⟨kf,_⟩:=key (d/2) (by omega)
   have f0:=kf (d % 2) (by omega)
   have f2:=kf (2+d % 2) (by omega)
   constructor
   ·show (icell w ((a.add (d/2*5)).add (d % 2))).toNat<_;omega
   ·show (icell w ((a.add (d/2*5)).add (2+d % 2))).toNat<_;omega
 obtain ⟨fr,nx,W,cl,bd,bw⟩:=edges
 refine ⟨⟨N,X,Y,ll,fr,nx,W,vb,vc,eb,ec,lb,lc⟩,?_,⟨cx,cy,cl,bx,by',bd,bw⟩⟩
 obtain ⟨l⟩:=cs
 match l,hsz with
 | [c0,c1,c2,c3],_=>
  have e0:(Value.agg #[c0,c1,c2,c3]).cells.toList=[c0,c1,c2,c3]:=rfl
  rw [e0] at hN hvs hes hls
  simp at hN hvs hes hls
  rw [hN,hvs,hes,hls]
end
end Go.Proofs.YtfeekmmfdkfgmaaGreatDoor
