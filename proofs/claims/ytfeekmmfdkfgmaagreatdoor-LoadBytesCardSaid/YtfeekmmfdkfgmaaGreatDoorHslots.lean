import Derived.Test.YtfeekmmfdkfgmaaGreatDoorBytes
import Derived.Test.YtfeekmmfdkfgmaaGreatDoorSn
import Derived.Tactics
import Derived.Tactics2
import Derived.Defers
import Derived.Laws.Pointers
import Derived.Laws.LoneSync
import Derived.RegionTactic
import Derived.RegionCalls
import Derived.ChangeAlike
import Derived.Test.YtfeekmmfdkfgmaaGreatDoorHsh
import Derived.Test.YtfeekmmfdkfgmaaGreatDoorGLoad
import Derived.Test.YtfeekmmfdkfgmaaGreatDoorGCoreB
import Derived.Test.YtfeekmmfdkfgmaaGreatDoorGCoreC
import Derived.Test.YtfeekmmfdkfgmaaGreatDoorGMem
import Derived.MapKept
import Derived.Laws.IdiomRangeMap
/-
Words of 64 bits by their bits; the lowest bit that is set (math/bits' TrailingZeros64).
Conditions: those that each theorem states.
-/
set_option linter.unusedVariables false
set_option linter.unusedSimpArgs false
namespace Go.Proofs.YtfeekmmfdkfgmaaGreatDoor
open Go Go.RowKit
set_option linter.unnecessarySimpa false
namespace Core
open Go.Proofs.YtfeekmmfdkfgmaaGreatDoor.Seq
def wd (p:Nat→Bool):Nat→Nat
 | 0=>0
 | k+1=>wd p k+(if p k then 2 ^ k else 0)
theorem Q83 (p:Nat→Bool):∀k,wd p k<2 ^ k
 | 0=>by simp [wd]
 | k+1=>by have:=Q83 p k;rw [wd,Nat.pow_succ];split<;>omega
theorem Qzk (p:Nat→Bool):∀k i,(wd p k).testBit i=(decide (i<k)&&p i)
 | 0,i=>by simp [wd]
 | k+1,i=>by
  have h:=Q83 p k
  have ih:=Qzk p k
  rw [wd]
  split
  ·rename_i hp
   rw [Nat.add_comm,show 2 ^ k+wd p k=2 ^ k*1+wd p k by omega,Nat.testBit_two_pow_mul_add 1 h i,ih]
   by_cases hi:i<k
   ·simp [hi,show i<k+1 by omega]
   ·rw [if_neg hi]
    by_cases e:i=k
    ·subst e;simp [hp]
    ·rw [show decide (i<k+1)=false by simp;omega]
     obtain ⟨m,hm⟩:∃m,i-k=m+1:=⟨i-k-1,by omega⟩
     rw [hm,Nat.testBit_succ];simp
  ·rename_i hp
   rw [Nat.add_zero,ih]
   by_cases e:i=k
   ·subst e;simp at hp;simp [hp]
   ·rw [show decide (i<k+1)=decide (i<k) from decide_eq_decide.2 (by omega)]
theorem Zhk {p:Nat→Bool} {M:Nat} (hM:M<2 ^ 64) (h:∀i,i<64→M.testBit i=p i):M=wd p 64:=by
 apply Nat.eq_of_testBit_eq
 intro i
 rw [Qzk]
 by_cases hi:i<64
 ·simp [hi,h i hi]
 ·rw [Nat.testBit_lt_two_pow (Nat.lt_of_lt_of_le hM (Nat.pow_le_pow_right (by decide) (by omega)))];simp [hi]
theorem Q3i {p q:Nat→Bool} (h:∀i,i<64→p i=q i):wd p 64=wd q 64:=Zhk (Q83 p 64) fun i hi=>by rw [Qzk];simp [hi,h i hi]
theorem b64 (p:Nat→Bool):BitVec.ofInt (IntKind.bits .u64) (wd p 64:Nat)=BitVec.ofNat 64 (wd p 64):=BitVec.ofInt_natCast ..
theorem Qpn (p:Nat→Bool) (i:Nat):(BitVec.ofNat 64 (wd p 64)).getLsbD i=(decide (i<64)&&p i):=by
 rw [BitVec.getLsbD_ofNat,Qzk];cases decide (i<64)<;>simp
theorem Q71 {p:Nat→Bool} {x:BitVec 64} (h:∀i,i<64→x.getLsbD i=p i):x.toNat=wd p 64:=
 Zhk x.isLt fun i hi=>by rw [←h i hi];rfl
theorem w_wd (p:Nat→Bool):IntKind.wrap .u64 ((wd p 64:Nat):Int)=(wd p 64:Nat):=by
 have:=Q83 p 64
 exact wrap_u64 (by omega) (by omega)
theorem Q6f {i:Nat} (hi:i<64):IntKind.wrap .u64 ((1:Int)*2 ^ (min (Int.toNat (i:Int)) (IntKind.bits .u64)))=(wd (fun j=>decide (j=i)) 64:Nat):=by
 have e1:min (Int.toNat (i:Int)) (IntKind.bits .u64)=i:=by rw [show IntKind.bits .u64=64 from rfl];omega
 have e2:(2:Nat) ^ i=wd (fun j=>decide (j=i)) 64:=by
  refine Zhk (Nat.pow_lt_pow_right (by decide) hi) fun j _=>?_
  rw [Nat.testBit_two_pow]
  by_cases e:i=j
  ·subst e;simp
  ·simp [e,Ne.symm e]
 rw [e1,Int.one_mul,show (2:Int) ^ i=((2 ^ i:Nat):Int) by push_cast;rfl,e2,w_wd]
theorem Zae {p:Nat→Bool} {i:Nat} (hi:i<64):IntKind.wrap .u64 (((BitVec.ofInt (IntKind.bits .u64) (wd p 64:Nat) ||| BitVec.ofInt (IntKind.bits .u64) (IntKind.wrap .u64 ((1:Int)*2 ^ (min (Int.toNat (i:Int)) (IntKind.bits .u64))))).toNat:Int))=(wd (upd p i true) 64:Nat):=by
 rw [Q6f hi,b64,b64]
 have:(BitVec.ofNat 64 (wd p 64) ||| BitVec.ofNat 64 (wd (fun j=>decide (j=i)) 64)).toNat=wd (upd p i true) 64:=Q71 fun j hj=>by
  rw [BitVec.getLsbD_or,Qpn,Qpn]
  unfold upd
  by_cases e:j=i
  ·simp [hj,e,hi]
  ·simp [hj,e]
 exact (congrArg (fun m:Nat=>IntKind.wrap .u64 (m:Int)) this).trans (w_wd _)
theorem Zbu {p:Nat→Bool} {i:Nat} (hi:i<64):((IntKind.wrap .u64 (((BitVec.ofInt (IntKind.bits .u64) (Int.fdiv (wd p 64:Nat) (2 ^ (min (Int.toNat (i:Int)) (IntKind.bits .u64)))) &&& BitVec.ofInt (IntKind.bits .u64) (1:Int)).toNat:Int)))==1)=p i:=by
 have e1:min (Int.toNat (i:Int)) (IntKind.bits .u64)=i:=by rw [show IntKind.bits .u64=64 from rfl];omega
 rw [e1,show (2:Int) ^ i=((2 ^ i:Nat):Int) by push_cast;rfl,Int.fdiv_eq_ediv_of_nonneg _ (Int.natCast_nonneg _),←Int.natCast_ediv]
 have hlt:wd p 64/2 ^ i<2 ^ 64:=Nat.lt_of_le_of_lt (Nat.div_le_self _ _) (Q83 p 64)
 have e2:(BitVec.ofInt (IntKind.bits .u64) ((wd p 64/2 ^ i:Nat):Int) &&& BitVec.ofInt (IntKind.bits .u64) (1:Int)).toNat=if p i then 1 else 0:=by
  rw [show IntKind.bits .u64=64 from rfl,BitVec.ofInt_natCast,BitVec.toNat_and,BitVec.toNat_ofNat,Nat.mod_eq_of_lt hlt,show (BitVec.ofInt 64 (1:Int)).toNat=1 from by decide,Nat.and_one_is_mod]
  have h:=Qzk p 64 i
  rw [Nat.testBit_eq_decide_div_mod_eq] at h
  simp only [hi,decide_true,Bool.true_and] at h
  cases hp:p i<;>rw [hp] at h<;>simp at h ⊢<;>omega
 rw [e2]
 cases p i<;>decide
end Core
end Go.Proofs.YtfeekmmfdkfgmaaGreatDoor
namespace Go.Proofs.YtfeekmmfdkfgmaaGreatDoor
open Go
set_option linter.unnecessarySimpa false
set_option maxRecDepth 100000
set_option maxHeartbeats 1600000
namespace Once
theorem Q6n (a:Addr) (x y:Int) (w:World) (hc:w.cell? a=some (.int .i64 x)) (hz:w.frozen? a=false) (h0:-9223372036854775808≤x+y) (h1:x+y≤9223372036854775807) :
  Calls Tryz.prog 239 #[.pointer (some a),.int .i64 y] w fun e w'=>e=.returned (.int .i64 (x+y))∧w'=w.setCell a (.int .i64 (x+y)):=by
 have hs:(Op.intArith .add .i64 x y).run Tryz.prog w=.ok (.int .i64 (x+y)) w:=by
  have:IntKind.i64.wrap (x+y)=x+y:=by rw [IntKind.wrap_i64];omega
  simp [Op.intArith,go_sem,this]
 have hadd:=run_call_add (P:=Tryz.prog) Tryz.func279 (by kernel_rfl) (by kernel_rfl) (by kernel_rfl) .i64 (by kernel_rfl) hc hz hs
 go_enter Tryz.func239,Tryz.ntmps239
 go_wp2
 go_ret
 exact ⟨rfl,rfl⟩
end Once
end Go.Proofs.YtfeekmmfdkfgmaaGreatDoor
namespace Go.Proofs.YtfeekmmfdkfgmaaGreatDoor
open Go Go.RowKit
set_option linter.unnecessarySimpa false
namespace Core
set_option linter.ambiguousOpen false
open Seq Cut Web
def cT (T:Nat→Bool):Nat→Nat
 | 0=>0
 | k+1=>cT T k+(if T k then 1 else 0)
theorem Zcx (T:Nat→Bool):∀n,cT T n≤n
 | 0=>Nat.le_refl _
 | k+1=>by have:=Zcx T k;rw [cT];split<;>omega
theorem Q4t {T T':Nat→Bool}:∀{n},(∀i,i<n→T i=T' i)→cT T n=cT T' n
 | 0,_=>rfl
 | k+1,h=>by rw [cT,cT,Q4t fun i hi=>h i (by omega),h k (by omega)]
theorem Q8w {T:Nat→Bool} {i:Nat}:∀{n},i<n→T i=false→cT (upd T i true) n=cT T n+1
 | k+1,hi,h=>by
  rw [cT,cT]
  rcases Nat.lt_succ_iff_lt_or_eq.1 hi with h1 | rfl
  ·rw [Q8w h1 h,Qag T true (by omega:k≠i)];omega
  ·rw [Qab,h,Q4t (T':=T) fun j hj=>Qag T true (by omega)];simp
def wT (T:Nat→Bool) (n:Nat):Nat→Bool:=fun i=>if i<n then T i else true
structure SL (h:Array Obj) (S L W n:Nat) (T:Nat→Bool):Prop where
 r:∃c,Row h S 336 [.int .i64 n,.int .i64 (cT T n:Nat),.slice (some ⟨L,0,none⟩) 1 c]
 l:∃rest,Row h L 338 (.slice (some ⟨W,0,none⟩) 1 1::rest)
 w:Row h W 127 [.int .u64 (wd (wT T n) 64:Nat)]
 n0:1≤n
 n1:n≤64
section
variable {w w':World} {S L W n i:Nat} {T:Nat→Bool}
theorem SL.lt (h:SL w.heap S L W n T):S<w.heap.size∧L<w.heap.size∧W<w.heap.size:=by
 obtain ⟨c,r⟩:=h.r
 obtain ⟨x,l⟩:=h.l
 exact ⟨r.lt,l.lt,h.w.lt⟩
theorem SL.ne (h:SL w.heap S L W n T):S≠L∧S≠W∧L≠W:=by
 obtain ⟨c,r⟩:=h.r
 obtain ⟨x,l⟩:=h.l
 refine ⟨fun e=>?_,fun e=>?_,fun e=>?_⟩
 ·subst e;exact absurd (r.inj l).2 (by decide)
 ·subst e;exact absurd (r.inj h.w).2 (by decide)
 ·subst e;exact absurd (l.inj h.w).2 (by decide)
theorem SL.keep {X:Nat→Prop} (h:SL w.heap S L W n T) (k:Chg X w w') (hS:¬X S∧¬X L∧¬X W):SL w'.heap S L W n T:=by
 obtain ⟨c,r⟩:=h.r
 obtain ⟨x,l⟩:=h.l
 exact ⟨⟨c,k.row hS.1 r⟩,⟨x,k.row hS.2.1 l⟩,k.row hS.2.2 h.w,h.n0,h.n1⟩
theorem SL.nob (h:SL w.heap S L W n T) (k:Chg Qaa w w'):SL w'.heap S L W n T:=h.keep k ⟨fun h=>h,fun h=>h,fun h=>h⟩
end
def wl (Y:Nat→Nat→Bool) (i:Nat):List Value:=[.int .u64 (wd (Y i) 64:Nat)]
theorem Q9y {Y:Nat→Nat→Bool} (x:Nat):(wl Y x).length=1:=rfl
def lsl (B L:Nat→Nat) (j:Nat):List Value:=[.slice (some ⟨B j,0,none⟩) (L j) (L j)]
theorem Ziu {B L:Nat→Nat} (x:Nat):(lsl B L x).length=1:=rfl
structure SK (w:World) (lo hi S n t:Nat) (b:Option Addr) (l c:Nat) (B L:Nat→Nat) (Y:Nat→Nat→Nat→Bool):Prop where
 r:Row w.heap S 336 [.int .i64 n,.int .i64 t,.slice b l c]
 o:Own w lo 338 1 b l c (recs (lsl B L) l)
 ob:∀g,bk b=some g→g<hi
 w:∀j,j<l→Row w.heap (B j) 127 (recs (wl (Y j)) (L j))∧lo≤B j∧B j<hi
 l0:L 0=(n+63)/64
 ls:∀j,j+1<l→L (j+1)=(L j+63)/64
 bi:∀i j,i<l→j<l→B i=B j→i=j
 s:lo≤S∧S<hi
structure SG (w:World) (lo hi S n:Nat) (T:Nat→Bool):Prop where
 ex:∃b l c B L Y,SK w lo hi S n (cT T n) b l c B L Y∧(1≤l∧l≤1048576)∧∀i k,i<L 0→k<64→Y 0 i k=wT T n (64*i+k)
 hi:hi≤w.heap.size
 n0:1≤n
 n1:n≤1048576
section
variable {w w':World} {lo hi S n t i:Nat} {T:Nat→Bool} {b:Option Addr} {l c:Nat} {B L:Nat→Nat} {Y:Nat→Nat→Nat→Bool}
theorem SK.ne (h:SK w lo hi S n t b l c B L Y) {j:Nat} (hj:j<l):B j≠S∧∀g,bk b=some g→g≠B j∧g≠S:=by
 obtain ⟨rw,_,_⟩:=h.w j hj
 obtain ⟨g,cs,rfl,_,rg,_,_,_⟩:=h.o.get (by omega)
 refine ⟨fun e=>?_,fun g' hg'=>?_⟩
 ·rw [e] at rw;exact absurd (rw.inj h.r).2 (by decide)
 ·simp only [Q4x,Option.some.injEq] at hg'
  subst hg'
  refine ⟨fun e=>?_,fun e=>?_⟩
  ·rw [←e] at rw;exact absurd (rw.inj rg).2 (by decide)
  ·have:=h.r;rw [←e] at this;exact absurd (this.inj rg).2 (by decide)
theorem SK.keep {X:Nat→Prop} (h:SK w lo hi S n t b l c B L Y) (k:Chg X w w') (hX:∀g,X g→¬(lo≤g∧g<hi)):SK w' lo hi S n t b l c B L Y:=
 ⟨k.row (fun e=>hX _ e h.s) h.r,h.o.keep k fun g hg e=>hX _ e ⟨(h.o.Qar hg).1,h.ob g hg⟩,h.ob,fun j hj=>⟨k.row (fun e=>hX _ e (h.w j hj).2) (h.w j hj).1,(h.w j hj).2⟩,h.l0,h.ls,h.bi,h.s⟩
theorem SG.keep {X:Nat→Prop} (h:SG w lo hi S n T) (k:Chg X w w') (hX:∀g,X g→¬(lo≤g∧g<hi)):SG w' lo hi S n T:=by
 obtain ⟨b,l,c,B,L,Y,sk,h1,h2⟩:=h.ex
 exact ⟨⟨b,l,c,B,L,Y,sk.keep k hX,h1,h2⟩,Nat.le_trans h.hi k.size,h.n0,h.n1⟩
theorem SG.nob (h:SG w lo hi S n T) (k:Chg Qaa w w'):SG w' lo hi S n T:=h.keep k fun _ h=>h.elim
theorem Q7h {p:Int} (h:SG w lo hi S n T):Calls Pg 187 #[.pointer (some ⟨S,0,none⟩),.int .i64 p] w fun r w'=>r=.returned (errV (if 0≤p∧p<n then 0 else 12))∧w'=w:=by
 obtain ⟨b,l,c,B,L,Y,sk,_,_⟩:=h.ex
 have r:=sk.r
 refine (Qik _ _).go ?_
 unfold Qf4 nr
 refine Qac (fun k=>by cases k) (fun _=>Qac (fun k=>?_) (fun k=>?_))<;>simp only [b1s] at k
 ·rw [if_neg (by omega)];exact ⟨rfl,rfl⟩
 refine pt_i (Qaf (n:=(n:Int)) r rfl (Qac (fun k2=>?_) (fun k2=>?_)))<;>simp only [b1s] at k2
 ·rw [if_neg (by omega)];exact ⟨rfl,rfl⟩
 ·rw [if_pos (by omega)];exact ⟨rfl,rfl⟩
theorem td64 {d:Nat}:Int.tdiv (d:Int) 64=((d/64:Nat):Int):=by rw [Int.tdiv_eq_ediv_of_nonneg (by omega)];omega
theorem tm64 {d:Nat}:Int.tmod (d:Int) 64=((d % 64:Nat):Int):=by rw [Int.tmod_eq_emod_of_nonneg (by omega)];omega
theorem SK.lv (h:SK w lo hi S n t b l c B L Y) {j:Nat} (hj:j<l) {K:Option Addr→Nat→Nat→Prop} (k:K (some ⟨B j,0,none⟩) (L j) (L j)):ixS b l (j:Int) 1 fun a=>ldS a w K:=by
 obtain ⟨g,cs,rfl,_,rg,ht,_,_⟩:=h.o.get (by omega)
 refine Qat hj (Qai rg ?_ k)
 rw [show 0+j*1=j*1+0 by omega,Qi9 ht (by omega),Qdb (sz:=1) (lsl B L) Ziu hj (by omega)]
 rfl
theorem SK.rd (h:SK w lo hi S n t b l c B L Y) {j i:Nat} (hj:j<l) (hi':i<L j) {K:Int→Prop} (k:K (wd (Y j i) 64:Nat)):ixS (some ⟨B j,0,none⟩) (L j) (i:Int) 1 fun a=>ldI .u64 a w K:=by
 refine Qat hi' (Qaf (n:=(wd (Y j i) 64:Nat)) (h.w j hj).1 ?_ k)
 rw [show 0+i*1=i*1+0 by omega,Qdb (sz:=1) (wl (Y j)) Q9y hi' (by omega)]
 rfl
theorem SK.st (h:SK w lo hi S n t b l c B L Y) {j i:Nat} {p:Nat→Bool} (hj:j<l) (hi':i<L j) {K:World→Prop} (k:∀w',SK w' lo hi S n t b l c B L (upd Y j (upd (Y j) i p))→Chg (·=B j) w w'→K w'):ixS (some ⟨B j,0,none⟩) (L j) (i:Int) 1 fun a=>sto a (.int .u64 (wd p 64:Nat)) w K:=by
 obtain ⟨rj,b1,b2⟩:=h.w j hj
 obtain ⟨e1,e2⟩:=h.ne hj
 refine Qat hi' (Qao rj (by rw [Qah (sz:=1) (wl (Y j)) Q9y];omega) rfl fun w' c' r'=>k w' ⟨c'.row (fun e=>e1 e.symm) h.r,h.o.keep c' fun g hg e=>(e2 g hg).1 e,h.ob,fun j' hj'=>⟨?_,(h.w j' hj').2⟩,h.l0,h.ls,h.bi,h.s⟩ c')
 by_cases e:j'=j
 ·subst e
  rw [Qab]
  rw [show 0+i*1=i*1+0 by omega,Qca (sz:=1) (wl (Y j')) Q9y (g:=wl (upd (Y j') i p)) hi' (by omega) (fun k hk=>by unfold wl;rw [Qag _ _ hk]) (by unfold wl;rw [Qab];rfl)] at r'
  exact r'
 ·rw [Qag _ _ e]
  exact c'.row (fun k=>e (h.bi j' j hj' hj k)) (h.w j' hj').1
theorem Zks {p:Int} (h:SG w lo hi S n T):Calls Pg 188 #[.pointer (some ⟨S,0,none⟩),.int .i64 p] w fun r w'=>r=.returned (.bool (decide (0≤p∧p<n)&&T p.toNat))∧Chg Qaa w w':=by
 obtain ⟨b,l,c,B,L,Y,sk,⟨hl,hll⟩,hY⟩:=h.ex
 have hn:=h.n1
 refine (Qjt _ _).go ?_
 unfold Qhl nr
 refine (Q7h h).mono ?_
 rintro e w3 ⟨rfl,rfl⟩
 by_cases hp:0≤p∧p<n
 ·rw [if_pos hp]
  obtain ⟨q,rfl⟩:∃q:Nat,p=q:=⟨p.toNat,by omega⟩
  refine ⟨_,rfl,.inl rfl,Qac (fun _=>pt_i ?_) (fun k=>by cases k)⟩
  have hq:q/64<L 0:=by rw [sk.l0];omega
  rw [Qad]
  refine Qai sk.r rfl ?_
  have:=sk.lv (j:=0) (by omega) (K:=fun x y z=>x=some ⟨B 0,0,none⟩∧y=L 0∧z=L 0) ⟨rfl,rfl,rfl⟩
  refine SK.lv sk (j:=0) (by omega) ⟨by decide,?_⟩
  rw [td64,tm64,wrap64_in (by omega) (by omega)]
  refine sk.rd (by omega) hq ⟨by decide,by omega,?_,Chg.refl _ _⟩
  rw [Zbu (by omega),hY _ _ hq (by omega)]
  unfold wT
  rw [show 64*(q/64)+q % 64=q by omega,if_pos (by omega),decide_eq_true hp];rfl
 ·rw [if_neg hp]
  refine ⟨_,rfl,.inr ⟨_,_,rfl⟩,Qac (fun k=>by cases k) (fun _=>⟨?_,Chg.refl _ _⟩)⟩
  rw [decide_eq_false hp];rfl
theorem Zkq (h:SG w lo hi S n T) (hi':i<n) (hT:T i=false):Calls Pg 189 #[.pointer (some ⟨S,0,none⟩),.int .i64 i] w fun r w'=>r=.returned (.tuple #[])∧SG w' lo hi S n (upd T i true)∧Chg (fun k=>lo≤k∧k<hi) w w':=by
 obtain ⟨b,l,c,B,L,Y,sk,⟨hl,hll⟩,hY⟩:=h.ex
 have hn:=h.n1
 have hhi:=h.hi
 refine (Qjs _ _).go ?_
 unfold Qhk nr
 refine pt_i ?_
 rw [Qad]
 have hle:=Zcx T n
 refine (Once.Q6n ⟨S,0+1,none⟩ (cT T n:Nat) 1 w (by rw [sk.r.cell];rfl) (sk.r.frozen _) (by omega) (by omega)).mono ?_
 rintro e w4 ⟨rfl,rfl⟩
 have hc1:Chg (fun k=>k=S) w (w.setCell ⟨S,0+1,none⟩ (.int .i64 ((cT T n:Nat)+1))):=(Chg.refl _ _).setCell _ _ (.inl rfl)
 have r1:Row (w.setCell ⟨S,0+1,none⟩ (.int .i64 ((cT T n:Nat)+1))).heap S 336 [.int .i64 n,.int .i64 (cT (upd T i true) n:Nat),.slice b l c]:=by
  rw [Q8w hi' hT];exact sk.r.set 1 _
 generalize w.setCell ⟨S,0+1,none⟩ (.int .i64 ((cT T n:Nat)+1))=w4 at *
 have sk4:SK w4 lo hi S n (cT (upd T i true) n) b l c B L Y:=⟨r1,sk.o.keep hc1 fun g hg e=>((sk.ne hl).2 g hg).2 e,sk.ob,fun j hj=>⟨hc1.row (sk.ne hj).1 (sk.w j hj).1,(sk.w j hj).2⟩,sk.l0,sk.ls,sk.bi,sk.s⟩
 have c4:Chg (fun k=>lo≤k∧k<hi) w w4:=hc1.mono fun k _ e=>by rw [e];exact sk.s
 refine ⟨_,rfl,pt_i ?_⟩
 rw [Qad]
 let J:Nat→List Value→World→Prop:=fun jj vs w'=>∃(a j:Nat) (Z:Nat→Nat→Nat→Bool),vs=[.int .i64 a,.int .i64 j]∧j≤l∧(j<l→a/64<L j)∧a<1048576∧SK w' lo hi S n (cT (upd T i true) n) b l c B L Z∧(j=0→a=i∧Z=Y)∧(0<j→∀x k,x<L 0→k<64→Z 0 x k=wT (upd T i true) n (64*x+k))∧Chg (fun k=>lo≤k∧k<hi) w w'∧jj=l-j
 refine Qai r1 rfl ⟨LI J,LM J,⟨_,i,0,Y,rfl,by omega,fun _=>by rw [sk.l0];omega,by omega,sk4,fun _=>⟨rfl,rfl⟩,fun k=>by omega,c4,rfl⟩,?_⟩
 intro _ n10 n11 w12 hJ
 obtain ⟨a,j,Z,hvs,hj,ha,haN,skz,hz0,hz1,ck,hjj⟩:=hJ.at
 simp only [vj] at hvs
 obtain ⟨rfl,rfl⟩:=hvs
 have fin:0<j→SG w12 lo hi S n (upd T i true):=fun hp=>⟨⟨b,l,c,B,L,Z,skz,⟨hl,hll⟩,hz1 hp⟩,Nat.le_trans hhi ck.size,h.n0,h.n1⟩
 refine Qac (fun hlt=>?_) (fun hlt=>?_)<;>simp only [b1s] at hlt
 ·have hjl:j<l:=by omega
  have hal:=ha hjl
  refine skz.lv hjl ⟨by decide,?_⟩
  rw [td64,tm64,wrap64_in (by omega) (by omega)]
  refine SK.rd (w:=w12.drew) (skz.keep (X:=Qaa) (Chg.refl _ _).drew fun _ h=>h.elim) hjl hal ⟨by decide,by omega,?_⟩
  rw [Zae (by omega)]
  refine SK.st (w:=w12.drew) (skz.keep (X:=Qaa) (Chg.refl _ _).drew fun _ h=>h.elim) hjl hal fun w18 sk18 c18=>⟨by decide,?_⟩
  have hB:=(skz.w j hjl).2
  have ck18:Chg (fun k=>lo≤k∧k<hi) w w18:=ck.drew.trans (c18.mono fun k _ e=>by rw [e];exact hB)
  have hz:∀x k,x<L 0→k<64→(upd Z j (upd (Z j) (a/64) (upd (Z j (a/64)) (a % 64) true))) 0 x k=wT (upd T i true) n (64*x+k):=by
   intro x k hx hk
   by_cases e:j=0
   ·subst e
    obtain ⟨rfl,rfl⟩:=hz0 rfl
    rw [Qab]
    by_cases e2:x=a/64
    ·subst e2
     rw [Qab]
     by_cases e3:k=a % 64
     ·subst e3
      rw [Qab]
      unfold wT
      rw [show 64*(a/64)+a % 64=a by omega,if_pos hi',Qab]
     ·rw [Qag _ _ e3,hY _ _ hx hk]
      unfold wT
      rw [Qag _ _ (by omega)]
    ·rw [Qag _ _ e2,hY _ _ hx hk]
     unfold wT
     rw [Qag _ _ (by omega)]
   ·rw [Qag _ _ (fun k=>e k.symm)]
    exact hz1 (by omega) x k hx hk
  have sg18:SG w18 lo hi S n (upd T i true):=⟨⟨b,l,c,B,L,_,sk18,⟨hl,hll⟩,hz⟩,Nat.le_trans hhi ck18.size,h.n0,h.n1⟩
  refine sk18.rd hjl hal (Qac (fun _=>⟨rfl,sg18,ck18⟩) (fun _=>⟨by decide,?_⟩))
  rw [wrap64_in (x:=(j:Int)+1) (by omega) (by omega)]
  refine LI.again (k:=l-(j+1)) ⟨a/64,j+1,_,rfl,by omega,fun k=>?_,by omega,sk18,fun k=>by omega,fun _=>hz,ck18,rfl⟩ (by rw [hjj];omega)
  rw [sk.ls j k];omega
 ·exact ⟨rfl,fin (by omega),ck⟩
theorem Zdq {p:Nat} (h:SG w lo hi S n T) (hp:p<n) (hT:T p=false):Calls Pg 113 #[.pointer (some ⟨S,0,none⟩),.int .i64 p] w fun r w'=>r=.returned (errV 0)∧SG w' lo hi S n (upd T p true)∧Chg (fun k=>lo≤k∧k<hi) w w':=by
 refine (Qil _ _).go ?_
 unfold Qf5 nr
 refine (Q7h h).mono ?_
 rintro e w3 ⟨rfl,rfl⟩
 rw [if_pos (by omega)]
 refine ⟨_,rfl,Qaj (fun k=>absurd rfl k) (fun _=>(Zks h).mono ?_)⟩
 rintro e w6 ⟨rfl,c6⟩
 rw [Int.toNat_natCast,hT,Bool.and_false]
 refine ⟨_,rfl,Qac (fun k=>by cases k) (fun _=>(Zkq (h.nob c6) hp hT).mono ?_)⟩
 rintro e w8 ⟨rfl,hS,hC⟩
 exact ⟨rfl,rfl,hS,c6.weak.trans hC⟩
def Mf (n:Nat):Nat→Nat
 | 0=>n
 | j+1=>(Mf n j+63)/64
def Ym (n:Nat) (j i k:Nat):Bool:=decide (Mf n j≤64*i+k)
theorem Zio (h0:1≤n) (h1:n≤1048576):∀j,1≤Mf n j∧Mf n j≤1048576
 | 0=>⟨h0,h1⟩
 | j+1=>by have:=Zio h0 h1 j;rw [Mf];omega
theorem Zhj {p:Nat→Bool} (h:∀i,i<64→p i=false):wd p 64=0:=by
 rw [Q3i (q:=fun _=>false) h];rfl
theorem Zbg {m:Nat} (hm:1≤m % 64):IntKind.wrap .u64 ((18446744073709551615:Int)*2 ^ (min (Int.toNat ((m % 64:Nat):Int)) (IntKind.bits .u64)))=(wd (fun k=>decide (m≤64*((m+63)/64-1)+k)) 64:Nat):=by
 have key:∀m:Fin 64,IntKind.wrap .u64 ((18446744073709551615:Int)*2 ^ (min (Int.toNat ((m.val:Nat):Int)) (IntKind.bits .u64)))=(wd (wT (fun _=>false) m.val) 64:Nat):=by
  have:(List.range 64).all (fun m=>decide (IntKind.wrap .u64 ((18446744073709551615:Int)*2 ^ (min (Int.toNat ((m:Nat):Int)) (IntKind.bits .u64)))=(wd (wT (fun _=>false) m) 64:Nat)))=true:=by kernel_rfl
  intro m;exact of_decide_eq_true (List.all_eq_true.1 this m.val (by simpa using m.isLt))
 rw [key ⟨m % 64,Nat.mod_lt _ (by decide)⟩]
 congr 1
 refine Q3i fun i hi=>?_
 unfold wT
 dsimp only
 by_cases h:i<m % 64
 ·rw [if_pos h,Eq.comm,decide_eq_false_iff_not];omega
 ·rw [if_neg h,Eq.comm,decide_eq_true_iff];omega
theorem Zkr (h0:1≤n) (h1:n≤1048576):Calls Pg 176 #[.int .i64 n] w fun r w'=>∃S,r=.returned (.tuple #[.pointer (some ⟨S,0,none⟩),errV 0])∧Chg Qaa w w'∧SG w' w.heap.size w'.heap.size S n (fun _=>false):=by
 refine (Qim _).go ?_
 unfold Qjc nr
 refine ⟨fun _ w'=>w'=w,?_,?_⟩
 ·refine Qac (fun h=>?_) (fun _=>Qac (fun h=>?_) (fun _=>rfl))<;>simp only [b1s] at h<;>omega
 rintro _ w2 rfl
 refine Qak fun S w4 hS c4 r4=>?_
 have s4:=c4.size
 have lS:=r4.lt
 have sk0:SK w4 w2.heap.size w4.heap.size S n 0 none 0 0 (fun _=>0) (fun j=>Mf n (j+1)) (Ym n):=⟨r4,Own.nil,fun g hg=>by (cases hg),fun j hj=>by omega,rfl,fun j _=>rfl,fun i j hi=>by omega,by omega,lS⟩
 let J:Nat→List Value→World→Prop:=fun jj vs w'=>∃(b:Option Addr) (l c:Nat) (B:Nat→Nat),vs=[.int .i64 (Mf n l:Nat)]∧SK w' w2.heap.size w'.heap.size S n 0 b l c B (fun j=>Mf n (j+1)) (Ym n)∧Chg Qaa w2 w'∧(∀g,bk b=some g→g≠S)∧Mf n l+l≤n∧jj=Mf n l
 refine ⟨LI J,LM J,⟨_,none,0,0,fun _=>0,rfl,sk0,c4,fun g hg=>by (cases hg),Nat.le_refl _,rfl⟩,?_⟩
 intro _ m w8 hJ
 obtain ⟨b,l,c,B,hvs,sk,ck,hbS,hml,hj⟩:=hJ.at
 simp only [vj] at hvs
 subst hvs
 obtain ⟨hm0,hm1⟩:=Zio h0 h1 l
 refine (Qxa (by omega) (by omega)).mono ?_
 rintro r w10 ⟨rfl,rfl⟩
 have hk:(((Mf n l:Nat):Int)+63)/64=((Mf n (l+1):Nat):Int):=by rw [Mf];omega
 obtain ⟨hk0,hk1⟩:=Zio h0 h1 (l+1)
 have hkm:Mf n (l+1)=(Mf n l+63)/64:=rfl
 rw [hk]
 refine ⟨_,rfl,by omega,Int.le_refl _,by omega,Qak fun W w13 hW c13 r13=>?_⟩
 rw [Int.toNat_natCast] at r13 ⊢
 rw [Qas] at r13
 have s13:=c13.size
 have lW:=r13.lt
 refine ⟨fun _ w'=>Chg (·=W) w13 w'∧Row w'.heap W 127 (recs (wl (Ym n l)) (Mf n (l+1))),?_,?_⟩
 ·have low:∀i,i<Mf n (l+1)→(i+1<Mf n (l+1)∨Mf n l % 64=0)→wl (Ym n l) i=[.int .u64 0]:=fun i hi h=>by
   unfold wl
   rw [Zhj fun k hk=>by unfold Ym;rw [decide_eq_false_iff_not];omega];rfl
  rw [tm64]
  refine ⟨by decide,Qac (fun k=>?_) (fun k=>⟨Chg.refl _ _,?_⟩)⟩<;>simp only [b1s] at k
  ·rw [wrap64_in (by omega) (by omega),show ((Mf n (l+1):Nat):Int)-1=((Mf n (l+1)-1:Nat):Int) by omega]
   refine ⟨by omega,Qat (by omega) ?_⟩
   rw [Zbg (by omega)]
   rw [Qbb (f:=fun _=>[Value.int .u64 0]) (g:=fun j=>if j=Mf n (l+1)-1 then [Value.int .u64 0] else wl (Ym n l) j) fun i hi=>by
    split
    ·rfl
    ·exact (low i hi (.inl (by omega))).symm] at r13
   have fl:∀x,((fun j=>if j=Mf n (l+1)-1 then [Value.int .u64 0] else wl (Ym n l) j) x).length=1:=fun x=>by dsimp only;split<;>rfl
   refine Qao r13 (by rw [Qah (sz:=1) _ fl];omega) rfl fun w17 c17 r17=>⟨c17,?_⟩
   rw [show 0+(Mf n (l+1)-1)*1=(Mf n (l+1)-1)*1+0 by omega,Qca (sz:=1) _ fl (g:=wl (Ym n l)) (by omega) (by omega) (fun j hj=>(if_neg hj).symm) (by unfold wl Ym;rw [if_pos rfl,hkm];rfl)] at r17
   exact r17
  ·rw [Qbb (f:=fun _=>[Value.int .u64 0]) (g:=wl (Ym n l)) fun i hi=>(low i hi (.inr (by omega))).symm] at r13
   exact r13
 rintro _ w17 ⟨c17,r17⟩
 have cc:Chg Qaa w10 w17:=c13.trans' c17 fun i e=>.inr (by omega)
 have s17:=c17.size
 rw [Qad]
 refine Qai (cc.row (fun h=>h) sk.r) rfl (Qak fun D w20 hD c20 r20=>?_)
 have s20:=c20.size
 have sk20:=(sk.keep cc fun _ h=>h.elim).keep c20 fun _ h=>h.elim
 obtain ⟨b',c',w22,hrun,ho3,hc3,hbk⟩:=Qaw (ty:=334) Q4k sk20.o r20 rfl (by intro u hu;simp at hu;subst hu;rfl) (by have:=ck.size;omega) (by omega) (by omega)
 refine ⟨b',l+1,c',w22,hrun,?_⟩
 have s22:=hc3.size
 have sb:=ck.size
 have hsS:=sk.s
 have blt:∀g,bk b=some g→g<w10.heap.size:=sk.ob
 have hr3:=hc3.row (fun e=>hbS _ e rfl) (c20.row (fun h=>h) (cc.row (fun h=>h) sk.r))
 refine Qao hr3 (by simp) rfl fun w23 c23 r23=>?_
 have s23:=c23.size
 have hbS':∀g,bk b'=some g→g≠S:=fun g hg e=>by
  rcases hbk with k | k
  ·exact hbS g (k ▸ hg) e
  ·rw [k] at hg;cases hg;omega
 have skn:SK w23 w2.heap.size w23.heap.size S n 0 b' (l+1) c' (upd B l W) (fun j=>Mf n (j+1)) (Ym n):=by
  refine ⟨r23,?_,fun g hg=>by have:=(ho3.Qar hg).2;omega,fun j hj=>?_,rfl,fun j _=>rfl,fun i j hi hj e=>?_,by omega,by omega⟩
  ·have:recs (lsl (upd B l W) fun j=>Mf n (j+1)) (l+1)=recs (lsl B fun j=>Mf n (j+1)) l++[.slice (some ⟨W,0,none⟩) (Mf n (l+1)) (Mf n (l+1))]:=by
    rw [Qd6,Qbb (f:=lsl (upd B l W) fun j=>Mf n (j+1)) (g:=lsl B fun j=>Mf n (j+1)) fun i hi=>by unfold lsl;rw [Qag _ _ (by omega)]]
    show _++[Value.slice (some ⟨upd B l W l,0,none⟩) (Mf n (l+1)) (Mf n (l+1))]=_
    rw [Qab]
   rw [this]
   exact ho3.keep c23 fun g hg e=>hbS' g hg e
  ·by_cases e:j=l
   ·subst e
    rw [Qab]
    exact ⟨c23.row (by omega) (hc3.row (fun e=>by have:=blt _ e;omega) (c20.row (fun h=>h) r17)),by omega,by omega⟩
   ·have hjl:j<l:=by omega
    rw [Qag _ _ e]
    obtain ⟨k1,k2,k3⟩:=sk.w j hjl
    exact ⟨c23.row (sk.ne hjl).1 (hc3.row (fun e=>((sk.ne hjl).2 _ e).1 rfl) (c20.row (fun h=>h) (cc.row (fun h=>h) k1))),k2,by omega⟩
  ·by_cases e1:i=l<;>by_cases e2:j=l
   ·omega
   ·subst e1
    rw [Qab,Qag _ _ e2] at e
    have:=(sk.w j (by omega)).2.2;omega
   ·subst e2
    rw [Qab,Qag _ _ e1] at e
    have:=(sk.w i (by omega)).2.2;omega
   ·rw [Qag _ _ e1,Qag _ _ e2] at e
    exact sk.bi i j (by omega) (by omega) e
 have cn:Chg Qaa w2 w23:=(((ck.trans cc).trans c20).trans' hc3 fun i e=>.inr (by have:=(sk.o.Qar e).1;omega)).trans' c23 fun i e=>.inr (by omega)
 refine Qac (fun hle=>⟨S,rfl,cn,⟨b',l+1,c',upd B l W,fun j=>Mf n (j+1),Ym n,?_,⟨by omega,by omega⟩,fun i k hi hk=>?_⟩,Nat.le_refl _,h0,h1⟩) (fun hle=>?_)<;>simp only [b1s] at hle
 ·have e0:cT (fun _=>false) n=0:=by
   have:∀n,cT (fun _=>false) n=0:=by intro n;induction n with | zero=>rfl | succ n ih=>rw [cT,ih];rfl
   exact this n
  rw [e0];exact skn
 ·unfold Ym wT Mf
  by_cases h:64*i+k<n
  ·rw [if_pos h,decide_eq_false_iff_not];omega
  ·rw [if_neg h,decide_eq_true_iff];omega
 ·refine (Qxa (by omega) (by omega)).mono ?_
  rintro r w25 ⟨rfl,rfl⟩
  rw [hk]
  exact ⟨_,rfl,LI.again (k:=Mf n (l+1)) ⟨b',l+1,c',_,rfl,skn,cn,hbS',by omega,rfl⟩ (by rw [hj];omega)⟩
end
section
variable {P:Program} {xs ys:Array Value} {X Y:Nat→Int} {kd:Nat→IntKind} {w:World}
end
def pcl (p:Nat × Nat):List Value:=[.int .u32 p.1,.int .i64 p.2]
def tkn (P:List (Nat × Nat)):Nat→Bool:=fun i=>match P[i]? with | some p=>p.2 != 0 | none=>false
def lvn (P:List (Nat × Nat)):Nat:=(P.filter fun p=>p.2==1).length
theorem Qx0:ET Pg 33 120 2 16:=ET.of (by kernel_rfl) (by kernel_rfl)
structure AQ (w:World) (A S L W n:Nat) (P:List (Nat × Nat)) (b:Option Addr) (c:Nat):Prop where
 r:Row w.heap A 188 [.int .i64 n,.slice b P.length c,.pointer (some ⟨S,0,none⟩),.int .i64 (lvn P)]
 o:Own w 0 120 2 b P.length c (P.flatMap pcl)
 len:P.length≤n
 age:∀p∈P,p.1<4294967296∧p.2<3∧(p.2=0→p.1<4294967295)
 ap:∀g,bk b=some g→g≠A∧g≠S∧g≠L∧g≠W
 n1:n≤1048576
 lt:S<w.heap.size∧L<w.heap.size∧W<w.heap.size
structure AR (w:World) (A S L W n:Nat) (P:List (Nat × Nat)) (b:Option Addr) (c:Nat):Prop extends AQ w A S L W n P b c where
 s:SL w.heap S L W n (tkn P)
section
variable {w w':World} {A S L W n c:Nat} {P:List (Nat × Nat)} {b:Option Addr}
theorem AQ.keep {X:Nat→Prop} (h:AQ w A S L W n P b c) (k:Chg X w w') (h1:¬X A) (h3:∀g,bk b=some g→¬X g):AQ w' A S L W n P b c:=
 ⟨k.row h1 h.r,h.o.keep k h3,h.len,h.age,h.ap,h.n1,Nat.lt_of_lt_of_le h.lt.1 k.size,Nat.lt_of_lt_of_le h.lt.2.1 k.size,Nat.lt_of_lt_of_le h.lt.2.2 k.size⟩
theorem AQ.nob (h:AQ w A S L W n P b c) (k:Chg Qaa w w'):AQ w' A S L W n P b c:=h.keep k (fun h=>h) fun _ _ h=>h
theorem AR.keep {X:Nat→Prop} (h:AR w A S L W n P b c) (k:Chg X w w') (h1:¬X A) (h2:¬X S∧¬X L∧¬X W) (h3:∀g,bk b=some g→¬X g):AR w' A S L W n P b c:=⟨h.toAQ.keep k h1 h3,h.s.keep k h2⟩
theorem AR.nob (h:AR w A S L W n P b c) (k:Chg Qaa w w'):AR w' A S L W n P b c:=h.keep k (fun h=>h) ⟨fun h=>h,fun h=>h,fun h=>h⟩ fun _ _ h=>h
theorem AQ.va (h:AQ w A S L W n P b c):VA w b P.length 2 (P.flatMap pcl):=VA.Qa6 h.o
theorem AQ.ix (h:AQ w A S L W n P b c) {i:Nat} {p:Nat × Nat} (hp:P[i]?=some p) {K:Addr→Prop} (k:∀g o cs,Row w.heap g 120 cs→bk b=some g→cs[o]?=some (.int .u32 p.1)→cs[o+1]?=some (.int .i64 p.2)→K ⟨g,o,none⟩):ixS b P.length (i:Int) 2 K:=by
 have hi:i<P.length:=(List.getElem?_eq_some_iff.1 hp).1
 obtain ⟨g,cs,rfl,_,rg,htk,hlc,hcl⟩:=h.o.get (by omega)
 refine Qat hi (k g _ cs rg rfl ?_ ?_)
 ·rw [Nat.zero_add,Qi9 htk (by omega)]
  exact Qku (enc:=pcl) (sz:=2) (fun _=>rfl) (j:=0) hp (by decide)
 ·rw [Nat.zero_add,Qi9 htk (by omega)]
  exact Qku (enc:=pcl) (sz:=2) (fun _=>rfl) (j:=1) hp (by decide)
theorem Zcz (h:AQ w A S L W n P b c):Calls Pg 51 #[.pointer (some ⟨A,0,none⟩)] w fun r w'=>r=.returned (.int .i64 (lvn P:Nat))∧w'=w:=by
 refine (Qjz _).go ?_
 unfold Qht nr
 exact Qac (fun h=>by cases h) (fun _=>pt_i (Qaf h.r rfl ⟨rfl,rfl⟩))
theorem Za9 {P:List (Nat × Nat)} {a b:Nat}:lvn (P++[(a,b)])=lvn P+(if b=1 then 1 else 0):=by
 unfold lvn
 by_cases h:b=1<;>simp [List.filter_append,h]
theorem Za8 {P:List (Nat × Nat)}:lvn P≤P.length:=List.length_filter_le ..
theorem Zib:∀u∈P.flatMap pcl,oneC u=true:=by
 intro u hu
 obtain ⟨p,_,hp⟩:=List.mem_flatMap.1 hu
 simp [pcl] at hp
 rcases hp with rfl | rfl<;>rfl
theorem Q7x {m c:Nat} {xs:List Value} (h:VA w b m 2 xs) (h1:∀u∈xs,oneC u=true) (hl:m≤1000000000):Calls Pg 112 #[.slice b m c] w fun r w'=>∃b' c',r=.returned (.slice b' m c')∧Own w' w.heap.size 120 2 b' m c' xs∧Chg Qaa w w'∧(b=none→b'=none∧c'=0):=by
 refine (Qb8 _ _ _).go ?_
 unfold Qbl nr
 refine Qac (fun hn=>?_) (fun hn=>?_)
 ·have hb:b=none:=by simpa using hn
  subst hb
  have h0:m=0:=by rcases h.2 with k | ⟨_,_,_,_,k,_⟩;exact k;cases k
  subst h0
  obtain rfl:xs=[]:=List.length_eq_zero_iff.1 (by simpa using h.1)
  exact ⟨_,_,rfl,Own.nil,Chg.refl _ _,fun _=>⟨rfl,rfl⟩⟩
 ·refine Qal fun r1=>?_
  have hc1:Chg Qaa w (w.alloc (.cells #[] 120)):=(Chg.refl _ _).alloc _
  have hs1:(w.alloc (.cells #[] 120)).heap.size=w.heap.size+1:=al_s _ _
  have ho:Own (w.alloc (.cells #[] 120)) w.heap.size 120 2 (some ⟨w.heap.size,0,none⟩) 0 0 []:=World.ownsRow_made w #[] 0 (Nat.le_refl _) (by unfold maxLen;omega) (by simp)
  obtain ⟨b',c',w2,hr,ho2,hc2,hw⟩:=Qfo (sc:=c) (ty:=33) Qx0 ho (h.alloc (.cells #[] 120)) h1 (by omega) (by omega) (by omega)
  rw [Nat.zero_add] at hr ho2
  exact ⟨b',_,c',w2,hr,_,_,rfl,ho2,hc1.trans' hc2 fun k hk=>.inr (by simp only [Q4x,Option.some.injEq] at hk;omega),fun e=>by subst e;cases hn⟩
theorem Qqd (h:AQ w A S L W n P b c):Calls Pg 49 #[.pointer (some ⟨A,0,none⟩)] w fun r w'=>∃b' c',r=.returned (.slice b' P.length c')∧Own w' w.heap.size 120 2 b' P.length c' (P.flatMap pcl)∧Chg Qaa w w':=by
 have hl:=h.len
 have hn:=h.n1
 refine (Qhd _).go ?_
 unfold Qe7 nr
 refine Qac (fun h=>by cases h) (fun _=>pt_i ?_)
 rw [Qad]
 refine Qai h.r rfl ((Q7x h.va Zib (by omega)).mono ?_)
 rintro r w4 ⟨b',c',rfl,ho,hc,_⟩
 exact ⟨_,_,_,rfl,_,_,rfl,ho,hc⟩
def liv (P:List (Nat × Nat)):List Nat:=(List.range P.length).filter fun i=>match P[i]? with | some p=>p.2==1 | none=>false
def livk (P:List (Nat × Nat)) (k:Nat):List Nat:=(List.range k).filter fun i=>match P[i]? with | some p=>p.2==1 | none=>false
theorem Q6m {k:Nat}:(livk P k).length≤k:=by
 have:=List.length_filter_le (fun i=>match P[i]? with | some p=>p.2==1 | none=>false) (List.range k)
 rwa [List.length_range] at this
theorem Zjx (h:AQ w A S L W n P b c):Calls Pg 41 #[.pointer (some ⟨A,0,none⟩)] w fun r w'=>∃b' c',r=.returned (.slice b' (liv P).length c')∧Own w' w.heap.size 3 1 b' (liv P).length c' (ivs (liv P))∧Chg Qaa w w':=by
 have hl:=h.len
 have hn:=h.n1
 refine (Quf _).go ?_
 unfold Qnt nr
 refine Qac (fun h=>by cases h) (fun _=>pt_i ?_)
 rw [Qad]
 refine Qai h.r rfl ?_
 let J:Nat→List Value→World→Prop:=fun j vs w'=>∃(k:Nat) (b':Option Addr) (c':Nat),vs=[.slice b' (livk P k).length c',.int .i64 k]∧k≤P.length∧Own w' w.heap.size 3 1 b' (livk P k).length c' (ivs (livk P k))∧Chg Qaa w w'∧j=P.length-k
 refine ⟨LI J,LM J,⟨_,0,none,0,rfl,Nat.zero_le _,Own.nil,Chg.refl _ _,rfl⟩,?_⟩
 intro _ sb sl sc n6 w7 hJ
 obtain ⟨k,b',c',hvs,hk,ho,hc,hj⟩:=hJ.at
 simp only [vk] at hvs
 obtain ⟨⟨rfl,rfl,rfl⟩,rfl⟩:=hvs
 have h7:=h.nob hc
 refine Qac (fun hlt=>?_) (fun hlt=>?_)<;>simp only [b1s] at hlt
 ·obtain ⟨p,hp⟩:∃p,P[k]?=some p:=⟨_,List.getElem?_eq_getElem (by omega)⟩
  have hlk:livk P (k+1)=livk P k++(if p.2=1 then [k] else []):=by
   unfold livk
   rw [List.range_succ,List.filter_append]
   congr 1
   by_cases e:p.2=1<;>simp [List.filter_cons,hp,e]
  have hle:=Q6m (P:=P) (k:=k)
  refine h7.ix hp fun g o cs rg hbg e0 e1=>Qaf rg e0 ?_
  rw [Qad]
  refine Qaf rg e1 (Qal fun r11=>?_)
  have hc11:Chg Qaa w7 (w7.alloc (.cells #[.int .u32 0,.int .i64 0] 120)):=(Chg.refl _ _).alloc _
  have hz11:=hc.size
  have hd11:=hc.trans hc11
  have ho11:=ho.keep hc11 fun _ _ h=>h
  have hs11:(w7.alloc (.cells #[.int .u32 0,.int .i64 0] 120)).heap.size=w7.heap.size+1:=al_s _ _
  have hw11:∀g,bk sb=some g→g≠w7.heap.size:=fun g hg e=>by have:=(ho.Qar hg).2;omega
  generalize w7.alloc (.cells #[.int .u32 0,.int .i64 0] 120)=w12 at *
  refine Qbg r11 (by simp) rfl fun r13=>?_
  rw [Qad]
  refine Qbg r13 (by simp) rfl fun r14=>Qaf r14 rfl ?_
  have hg14:Chg (·=w7.heap.size) w12 ((w12.setCell ⟨w7.heap.size,0,none⟩ (.int .u32 (p.1:Nat))).setCell ⟨w7.heap.size,0+1,none⟩ (.int .i64 (p.2:Nat))):=((Chg.refl (·=w7.heap.size) w12).setCell ⟨w7.heap.size,0,none⟩ _ (.inl rfl)).setCell ⟨w7.heap.size,0+1,none⟩ _ (.inl rfl)
  have ho14:=ho11.keep hg14 hw11
  have hd14:=hd11.trans' hg14 fun k e=>.inr (by omega)
  have hz14:=hg14.size
  generalize (w12.setCell ⟨w7.heap.size,0,none⟩ (.int .u32 (p.1:Nat))).setCell ⟨w7.heap.size,0+1,none⟩ (.int .i64 (p.2:Nat))=w14 at *
  rw [wrap64_in (x:=(k:Int)+1) (by omega) (by omega)]
  refine Qac (fun hp1=>Qal fun r16=>?_) (fun hp1=>?_)<;>simp only [b1s] at hp1
  ·have e1:p.2=1:=by omega
   obtain ⟨b2,c2,w19,hrun,ho2,hc2,_⟩:=Qaw (ty:=58) Qdv (ho14.alloc (.cells #[.int .i64 k] 3)) r16 rfl (by intro u hu;simp at hu;subst hu;rfl) (by rw [al_s];omega) (by omega) (by omega)
   refine ⟨b2,_,c2,w19,hrun,?_⟩
   rw [if_pos e1] at hlk
   refine LI.again (k:=P.length-(k+1)) ⟨k+1,b2,c2,?_,by omega,?_,(hd14.alloc _).trans' hc2 (fun i hi=>.inr (ho.Qar hi).1),rfl⟩ (by rw [hj];omega)
   ·rw [hlk,List.length_append];rfl
   ·rw [hlk,List.length_append];simpa [ivs] using ho2
  ·have e1:¬p.2=1:=by omega
   rw [if_neg e1,List.append_nil] at hlk
   refine LI.again (k:=P.length-(k+1)) ⟨k+1,sb,sc,?_,by omega,?_,hd14,rfl⟩ (by rw [hj];omega)
   ·rw [hlk];rfl
   ·rw [hlk];exact ho14
 ·obtain rfl:k=P.length:=by omega
  exact ⟨_,_,rfl,ho,hc⟩
end
end Core
end Go.Proofs.YtfeekmmfdkfgmaaGreatDoor
namespace Go.Proofs.YtfeekmmfdkfgmaaGreatDoor
open Go Go.RowKit Go.MapKept
set_option linter.unnecessarySimpa false
namespace Core
structure MW (h:Array Obj) (m:Nat) (M:Nat→Option Value):Prop where
 e:∃es clock,h[m]?=some (.map es clock)∧Stamped es clock∧(∀x∈es.toList,∃k:Nat,x.key=.int .i64 k∧M k=some x.val)∧∀k v,M k=some v→∃x∈es.toList,x.key=.int .i64 (k:Nat)∧x.val=v
section
variable {w w':World} {m k:Nat} {M:Nat→Option Value} {t kt et:TypeId} {z v:Value} {P:Program}
theorem MW.keep {S:Nat→Prop} (h:MW w.heap m M) (c:Chg S w w') (hS:¬S m):MW w'.heap m M:=by
 obtain ⟨es,clock,h1,h2⟩:=h.e
 have hlt:m<w.heap.size:=by
  rcases Nat.lt_or_ge m w.heap.size with h | h
  ·exact h
  ·simp [Array.getElem?_eq_none h] at h1
 exact ⟨es,clock,by rw [c.block m hlt hS];exact h1,h2⟩
theorem MW.nob (h:MW w.heap m M) (c:Chg Qaa w w'):MW w'.heap m M:=h.keep c fun h=>h
theorem MW.lt {h:Array Obj} (k:MW h m M):m<h.size:=by
 obtain ⟨es,clock,h1,h2⟩:=k.e
 rcases Nat.lt_or_ge m h.size with l | l
 ·exact l
 ·simp [Array.getElem?_eq_none l] at h1
theorem MW.new (w:World):MW (w.alloc (.map #[] 0)).heap w.heap.size (fun _=>none):=
 ⟨#[],0,heap_alloc_new _ _,stamped_empty 0,fun x hx=>by simp at hx,fun k v h=>by cases h⟩
theorem Za0 {es:Array MapEntry} (h3:∀x∈es.toList,∃k:Nat,x.key=.int .i64 k∧M k=some x.val):∀x∈es.toList,IsKey (.int .i64) x.key:=fun x hx=>by
 obtain ⟨k,h,_⟩:=h3 x hx
 rw [h];rfl
theorem Zaz (h:MW w.heap m M) (hm:P.underlying t=some (.map kt et)) (hd:P.underlying kt=some (.int .i64)) (hz:(zeroValue et).run P w=.ok z w):(Instr.lookup t (.map (some m)) (.int .i64 (k:Nat)) false).run P w=.ok ((M k).getD z) w:=by
 obtain ⟨es,clock,hb,hs,h3,h4⟩:=h.e
 have hk:IsKey (.int .i64) (.int .i64 (k:Nat)):=rfl
 rcases findNow_spec hk es.toList 0 (Za0 h3) with ⟨h1,h2⟩ | ⟨j,e,h1,h2,h5⟩
 ·have:M k=none:=by
   cases e:M k with
   | none=>rfl
   | some v=>
    obtain ⟨x,hx,hx2,_⟩:=h4 k v e
    exact absurd hx2 (h2 x hx)
  simp [Instr.lookup,run_underlying hm,MapKept.run_getObj_map hb,run_checkKey hd hk,run_findKey hd h1,hz,Result.andThen,this]
 ·have he:e∈es.toList:=List.mem_of_getElem? (by simpa using h2)
  obtain ⟨k',e1,e2⟩:=h3 e he
  rw [h5] at e1
  have:k'=k:=by cases e1;rfl
  subst this
  simp [Instr.lookup,run_underlying hm,MapKept.run_getObj_map hb,run_checkKey hd hk,run_findKey hd h1,Result.andThen,e2]
theorem Zay (h:MW w.heap m M) (hm:P.underlying t=some (.map kt et)) (hd:P.underlying kt=some (.int .i64)):∃w',(Instr.mapUpdate t (.map (some m)) (.int .i64 (k:Nat)) v).run P w=.ok () w'∧MW w'.heap m (upd M k (some v))∧Chg (·=m) w w':=by
 obtain ⟨es,clock,hb,hs,h3,h4⟩:=h.e
 have hk:IsKey (.int .i64) (.int .i64 (k:Nat)):=rfl
 have hks:=Za0 h3
 have chg:∀o,Chg (·=m) w {w with heap:=w.heap.setIfInBounds m o}:=fun o=>⟨rfl,rfl,rfl,by simp,fun i _ hi=>(heap_set hb).2 i hi⟩
 rcases findNow_spec hk es.toList 0 hks with ⟨h1,h2⟩ | ⟨j,e,h1,h2,h5⟩
 ·refine ⟨{w with heap:=w.heap.setIfInBounds m (.map (es.push ⟨.int .i64 (k:Nat),v,clock⟩) (clock+1))},by simp [Instr.mapUpdate,run_underlying hm,MapKept.run_getObj_map hb,run_checkKey hd hk,run_findKey hd h1,MapKept.run_setObj_map _ hb,Result.andThen],⟨_,_,(heap_set hb).1,stamped_push hs h2,fun x hx=>?_,fun i u hi=>?_⟩,chg _⟩
  ·simp only [Array.toList_push,List.mem_append,List.mem_singleton] at hx
   rcases hx with hx | rfl
   ·obtain ⟨i,e1,e2⟩:=h3 x hx
    refine ⟨i,e1,?_⟩
    rw [Qag _ _ (fun e=>h2 x hx (by rw [e1,e]))];exact e2
   ·exact ⟨k,rfl,Qab _ _ _⟩
  ·by_cases e:i=k
   ·subst e
    rw [Qab] at hi
    cases hi
    exact ⟨⟨.int .i64 (i:Nat),v,clock⟩,by simp,rfl,rfl⟩
   ·rw [Qag _ _ e] at hi
    obtain ⟨x,hx,e1⟩:=h4 i u hi
    exact ⟨x,by simp [hx],e1⟩
 ·have hj:es[j]?=some e:=by simpa using h2
  have hkey:∀e',es[j]?=some e'→({e' with key:=.int .i64 (k:Nat),val:=v}:MapEntry).key=e'.key:=fun e' he'=>by rw [hj] at he';cases he';exact h5.symm
  have hmod:∀x,x∈(es.modify j fun e=>{e with key:=.int .i64 (k:Nat),val:=v}).toList↔(x={e with key:=.int .i64 (k:Nat),val:=v})∨(x∈es.toList∧x.key≠.int .i64 (k:Nat)):=fun x=>by
   have hnd:=hs.2.2
   have hjl:=(Array.getElem?_eq_some_iff.1 hj).1
   constructor
   ·intro hx
    obtain ⟨i,hi⟩:=List.getElem?_of_mem hx
    rw [Array.getElem?_toList,Array.getElem?_modify] at hi
    by_cases e':j=i
    ·subst e';rw [if_pos rfl,hj] at hi;simp at hi;exact .inl hi.symm
    ·rw [if_neg e'] at hi
     right
     refine ⟨List.mem_of_getElem? (by rw [Array.getElem?_toList];exact hi),fun k2=>e' ?_⟩
     have il:=(Array.getElem?_eq_some_iff.1 hi).1
     have a1:(es.toList.map (·.key))[j]?=some (.int .i64 (k:Nat)):=by rw [List.getElem?_map,Array.getElem?_toList,hj];simp [h5]
     have a2:(es.toList.map (·.key))[i]?=some (.int .i64 (k:Nat)):=by rw [List.getElem?_map,Array.getElem?_toList,hi];simp [k2]
     exact (List.getElem?_inj (by simp;exact hjl) hnd).1 (a1.trans a2.symm)
   ·rintro (rfl | ⟨hx,k2⟩)
    ·refine List.mem_of_getElem? (i:=j) ?_
     rw [Array.getElem?_toList,Array.getElem?_modify,if_pos rfl,hj];rfl
    ·obtain ⟨i,hi⟩:=List.getElem?_of_mem hx
     refine List.mem_of_getElem? (i:=i) ?_
     rw [Array.getElem?_toList] at hi ⊢
     rw [Array.getElem?_modify,if_neg]
     ·exact hi
     ·rintro rfl
      rw [hj] at hi
      cases hi
      exact k2 h5
  refine ⟨{w with heap:=w.heap.setIfInBounds m (.map (es.modify j fun e=>{e with key:=.int .i64 (k:Nat),val:=v}) clock)},by simp [Instr.mapUpdate,run_underlying hm,MapKept.run_getObj_map hb,run_checkKey hd hk,run_findKey hd h1,hj,h5,run_keyThatStays hk,MapKept.run_setObj_map _ hb,Result.andThen],⟨_,_,(heap_set hb).1,stamped_modify hs _ _ (fun _ _=>rfl) (fun e' _ he'=>hkey e' he'),fun x hx=>?_,fun i u hi=>?_⟩,chg _⟩
  ·rcases (hmod x).1 hx with rfl | ⟨hx,k2⟩
   ·exact ⟨k,rfl,Qab _ _ _⟩
   ·obtain ⟨i,e1,e2⟩:=h3 x hx
    exact ⟨i,e1,by rw [Qag _ _ (fun e=>k2 (by rw [e1,e]))];exact e2⟩
  ·by_cases e':i=k
   ·subst e'
    rw [Qab] at hi
    cases hi
    exact ⟨_,(hmod _).2 (.inl rfl),rfl,rfl⟩
   ·rw [Qag _ _ e'] at hi
    obtain ⟨x,hx,e1,e2⟩:=h4 i u hi
    exact ⟨x,(hmod _).2 (.inr ⟨hx,fun k2=>e' (by rw [e1] at k2;cases k2;rfl)⟩),e1,e2⟩
structure MI (h:Array Obj) (m i n:Nat) (M:Nat→Option Value) (G:Nat→Prop):Prop where
 e:∃es clock seen c0,h[m]?=some (.map es clock)∧h[i]?=some (.mapIter (some m) clock seen c0)∧clock≤c0∧Stamped es clock∧(∀x∈es.toList,∃k:Nat,x.key=.int .i64 k∧M k=some x.val)∧(∀k v,M k=some v→∃x∈es.toList,x.key=.int .i64 (k:Nat)∧x.val=v)∧
  (∀x∈es.toList,∀k:Nat,x.key=.int .i64 k→seen.contains x.born=true→G k)∧n=(leftOf es seen).size
theorem MI.keep {S:Nat→Prop} {i n:Nat} {G:Nat→Prop} (h:MI w.heap m i n M G) (c:Chg S w w') (hS:¬S m∧¬S i):MI w'.heap m i n M G:=by
 obtain ⟨es,clock,seen,c0,h1,h2,h3⟩:=h.e
 have lt:∀{a:Nat} {o:Obj},w.heap[a]?=some o→a<w.heap.size:=fun {a o} h=>by
  rcases Nat.lt_or_ge a w.heap.size with l | l
  ·exact l
  ·simp [Array.getElem?_eq_none l] at h
 exact ⟨es,clock,seen,c0,by rw [c.block m (lt h1) hS.1];exact h1,by rw [c.block i (lt h2) hS.2];exact h2,h3⟩
theorem Zeh (h:MW w.heap m M) (ht:P.underlying t=some (.map kt et)):∃w',(Instr.range t (.map (some m))).run P w=.ok (.pointer (some ⟨w.heap.size,0,none⟩)) w'∧(∃n,MI w'.heap m w.heap.size n M (fun _=>False))∧Chg Qaa w w':=by
 obtain ⟨es,clock,hb,hs,h3,h4⟩:=h.e
 refine ⟨_,run_range_map w t kt et m es clock ht hb,⟨_,es,clock,#[],clock,?_,heap_alloc_new _ _,Nat.le_refl _,hs,h3,h4,fun x _ k _ hc=>by simp at hc,rfl⟩,(Chg.refl _ _).alloc _⟩
 rw [heap_alloc_old _ _ h.lt];exact hb
theorem Zin {i n:Nat} {G:Nat→Prop} {ty:TypeId} (h:MI w.heap m i n M G) :
  ((Instr.next (.pointer (some ⟨i,0,none⟩)) false ty).run P w=.ok (.tuple #[.bool false]) w∧∀k v,M k=some v→G k)∨
  ∃k v n' w',M k=some v∧(Instr.next (.pointer (some ⟨i,0,none⟩)) false ty).run P w=.ok (.tuple #[.bool true,.int .i64 (k:Nat),v]) w'∧MI w'.heap m i n' M (fun j=>G j∨j=k)∧n' < n∧Chg (·=i) w w'∧(Instr.entry (.pointer (some ⟨i,0,none⟩))).run P w'=.ok (.tuple #[.int .i64 (k:Nat),v]) w':=by
 obtain ⟨es,clock,seen,c0,hm,hi,hc,hs,h3,h4,h5,hn⟩:=h.e
 have hold:∀x∈es.toList,x.born<clock:=hs.1
 have hg1:(getObj i).run P w=.ok (.mapIter (some m) clock seen c0) w:=by simp [getObj,Sem.run,hi]
 have hg2:(getObj m).run P w=.ok (.map es clock) w:=MapKept.run_getObj_map hm
 have hmem:∀x∈(leftOf es seen).toList,x.born<clock:=fun x hx=>hold x (mem_left hx).1
 have e1:(leftOf es seen).filter (fun x=>decide (x.born<clock))=leftOf es seen:=Array.filter_eq_self.2 (fun x hx=>by simpa using hmem x (by simpa using hx))
 have e2:(leftOf es seen).filter (fun x=>decide (x.born ≥ clock))=#[]:=by
  rw [Array.filter_eq_empty_iff]
  intro x hx
  have:=hmem x (by simpa using hx)
  simp
  omega
 have e0:(es.filter fun e=>!seen.contains e.born)=leftOf es seen:=rfl
 by_cases h0:(leftOf es seen).size=0
 ·left
  have hL:leftOf es seen=#[]:=Array.eq_empty_of_size_eq_zero h0
  constructor
  ·simp only [Instr.next,Sem.run_bind,hg1,hg2,Result.andThen,next_test_false seen es clock c0 hold hc,Bool.false_eq_true,if_false,e0,e1,e2,hL]
   simp [choose,Sem.run,Question.forced]
  ·intro k v hk
   obtain ⟨x,hx,hx2,_⟩:=h4 k v hk
   refine h5 x hx k hx2 ?_
   cases hcn:seen.contains x.born with
   | true=>rfl
   | false=>
    have:x∈leftOf es seen:=Array.mem_filter.2 ⟨by simpa using hx,by rw [hcn];rfl⟩
    rw [hL] at this;simp at this
 ·right
  have hne:(leftOf es seen).isEmpty=false:=by simp [Array.isEmpty,h0]
  have hch:∃(j:Nat) (w1:World),j<(leftOf es seen).size∧(w1.heap=w.heap∧w1.os=w.os∧w1.tape=w.tape∧w1.output=w.output)∧(choose (Question.mapNext (leftOf es seen).size)).run P w=.ok j w1:=by
   by_cases hf:(leftOf es seen).size≤1
   ·exact ⟨0,w,by omega,⟨rfl,rfl,rfl,rfl⟩,by simp [choose,Sem.run,Question.forced,hf]⟩
   ·exact ⟨_,w.drew,Nat.mod_lt _ (by omega),⟨rfl,rfl,rfl,rfl⟩,by
     simp only [choose,Sem.run,Question.forced,decide_eq_true_eq,hf,if_false,Question.cut]
     rfl⟩
  obtain ⟨j,w1,hj,hal,hrun⟩:=hch
  have hx:=(mem_left (es:=es) (seen:=seen) (e:=(leftOf es seen)[j]) (by simp))
  obtain ⟨k,k1,k2⟩:=h3 _ hx.1
  have hi1:w1.heap[i]?=some (.mapIter (some m) clock seen c0):=by rw [hal.1];exact hi
  have hset:(setObj i (.mapIter (some m) clock (seen.push (leftOf es seen)[j].born) clock)).run P w1=.ok () {w1 with heap:=w1.heap.setIfInBounds i (.mapIter (some m) clock (seen.push (leftOf es seen)[j].born) clock)}:=by
   simp only [setObj,Sem.run,hi1]
  refine ⟨k,(leftOf es seen)[j].val,_,{w1 with heap:=w1.heap.setIfInBounds i (.mapIter (some m) clock (seen.push (leftOf es seen)[j].born) clock)},k2,?_,⟨es,clock,seen.push (leftOf es seen)[j].born,clock,?_,(heap_set hi1).1,Nat.le_refl _,hs,h3,h4,fun x hx2 k' hk' hc2=>?_,rfl⟩,?_,?_,?_⟩
  ·simp only [Instr.next,Sem.run_bind,hg1,hg2,Result.andThen,next_test_false seen es clock c0 hold hc,Bool.false_eq_true,if_false,e0,e1,e2,hne,Array.append_empty,Array.empty_append,Array.size_map,hrun,Array.getElem?_map,Array.getElem?_eq_getElem hj,Option.map_some,hset,←k1]
   rfl
  ·have him:m≠i:=by rintro rfl;rw [hm] at hi;cases hi
   show (w1.heap.setIfInBounds i _)[m]?=_
   rw [(heap_set hi1).2 m him,hal.1];exact hm
  ·rw [contains_push] at hc2
   rcases Bool.or_eq_true_iff.1 hc2 with h6 | h6
   ·exact .inl (h5 x hx2 k' hk' h6)
   ·right
    have hb:=beq_iff_eq.1 h6
    have hxe:x=(leftOf es seen)[j]:=by
     have hnd:=hs.2.1
     obtain ⟨a,ha⟩:=List.getElem?_of_mem hx2
     obtain ⟨b,hb2⟩:=List.getElem?_of_mem hx.1
     have a1:(es.toList.map (·.born))[a]?=some x.born:=by rw [List.getElem?_map,ha];rfl
     have a2:(es.toList.map (·.born))[b]?=some x.born:=by rw [List.getElem?_map,hb2];simp [hb]
     have al:=(List.getElem?_eq_some_iff.1 ha).1
     have:=(List.getElem?_inj (by rw [List.length_map];exact al) hnd).1 (a1.trans a2.symm)
     subst this
     rw [ha] at hb2;cases hb2;rfl
    rw [hxe,k1] at hk'
    cases hk';rfl
  ·rw [hn];exact left_shrinks es seen _ (by simp)
  ·refine ⟨hal.2.1,hal.2.2.1,hal.2.2.2,by simp [hal.1],fun a _ ha=>?_⟩
   ·show (w1.heap.setIfInBounds i _)[a]?=_
    rw [(heap_set hi1).2 a ha,hal.1]
  ·have him:m≠i:=by rintro rfl;rw [hm] at hi;cases hi
   have g1:(getObj i).run P {w1 with heap:=w1.heap.setIfInBounds i (.mapIter (some m) clock (seen.push (leftOf es seen)[j].born) clock)}=.ok (.mapIter (some m) clock (seen.push (leftOf es seen)[j].born) clock) {w1 with heap:=w1.heap.setIfInBounds i (.mapIter (some m) clock (seen.push (leftOf es seen)[j].born) clock)}:=by
    simp only [getObj,Sem.run,(heap_set hi1).1]
   have g2:(getObj m).run P {w1 with heap:=w1.heap.setIfInBounds i (.mapIter (some m) clock (seen.push (leftOf es seen)[j].born) clock)}=.ok (.map es clock) {w1 with heap:=w1.heap.setIfInBounds i (.mapIter (some m) clock (seen.push (leftOf es seen)[j].born) clock)}:=
    MapKept.run_getObj_map (by show (w1.heap.setIfInBounds i _)[m]?=_;rw [(heap_set hi1).2 m him,hal.1];exact hm)
   have hf:es.find? (·.born==(leftOf es seen)[j].born)=some (leftOf es seen)[j]:=by rw [←Array.find?_toList];exact find_born _ es.toList hs.2.1 hx.1
   simp only [Instr.entry,Sem.run_bind,g1,g2,Result.andThen,Array.back?_push,bne_self_eq_false,Bool.false_eq_true,if_false,hf,←k1]
   rfl
end
end Core
end Go.Proofs.YtfeekmmfdkfgmaaGreatDoor
namespace Go.Proofs.YtfeekmmfdkfgmaaGreatDoor
open Go Go.RowKit
set_option linter.unnecessarySimpa false
namespace Core
set_option linter.ambiguousOpen false
open Seq Cut Web
structure VR (h:Array Obj) (T TD TL TM V E:Nat) (o nx pv ls ms:Nat→Int):Prop where
 r:Row h T 296 [.slice (some ⟨TD,0,none⟩) (2*E) (2*E),.slice (some ⟨TL,0,none⟩) V V,.slice (some ⟨TM,0,none⟩) V V]
 d:Row h TD 298 (recs (dc o nx pv) (2*E))
 l:Row h TL 21 (recs (ic ls) V)
 m:Row h TM 21 (recs (ic ms) V)
 ne:T≠TD∧T≠TL∧T≠TM∧TD≠TL∧TD≠TM∧TL≠TM
structure VB (V E N:Nat) (tl:Nat→List Nat):Prop where
 v1:1≤V∧V≤N
 e1:1≤E∧E≤N
 n1:N≤1048576
 b:∀v,V≤v→tl v=[]
 lt:∀d∈dl tl N,d<2*E
def TV (h:Array Obj) (T TD TL TM V E N:Nat) (tl:Nat→List Nat):Prop:=∃o nx pv ls ms,VR h T TD TL TM V E o nx pv ls ms∧TQ N tl o nx pv ls ms∧VB V E N tl
structure TW (w₀ w:World) (T TD TL TM V E N:Nat) (tl:Nat→List Nat):Prop where
 c:Chg (fun k=>k=TD∨k=TL∨k=TM) w₀ w
 a:TV w.heap T TD TL TM V E N tl
section
variable {w₀ w w':World} {T TD TL TM V E N d e v u:Nat} {be:Int} {tl tl':Nat→List Nat} {o nx pv ls ms o' nx' pv' ls' ms':Nat→Int}
theorem VR.keep {S:Nat→Prop} (h:VR w.heap T TD TL TM V E o nx pv ls ms) (c:Chg S w w') (hS:∀k,S k→k≠T∧k≠TD∧k≠TL∧k≠TM):VR w'.heap T TD TL TM V E o nx pv ls ms:=
 ⟨c.row (fun s=>(hS _ s).1 rfl) h.r,c.row (fun s=>(hS _ s).2.1 rfl) h.d,c.row (fun s=>(hS _ s).2.2.1 rfl) h.l,c.row (fun s=>(hS _ s).2.2.2 rfl) h.m,h.ne⟩
theorem VR.nob (h:VR w.heap T TD TL TM V E o nx pv ls ms) (c:Chg Qaa w w'):VR w'.heap T TD TL TM V E o nx pv ls ms:=h.keep c fun _ h=>h.elim
theorem TV.keep {S:Nat→Prop} (h:TV w.heap T TD TL TM V E N tl) (c:Chg S w w') (hS:∀k,S k→k≠T∧k≠TD∧k≠TL∧k≠TM):TV w'.heap T TD TL TM V E N tl:=by
 obtain ⟨o,nx,pv,ls,ms,h1,h2⟩:=h
 exact ⟨o,nx,pv,ls,ms,h1.keep c hS,h2⟩
theorem TV.nob (h:TV w.heap T TD TL TM V E N tl) (c:Chg Qaa w w'):TV w'.heap T TD TL TM V E N tl:=h.keep c fun _ h=>h.elim
theorem TV.nd {h:Array Obj} (k:TV h T TD TL TM V E N tl):ND N tl:=by obtain ⟨_,_,_,_,_,_,q,_⟩:=k;exact q.nd
theorem TV.vb {h:Array Obj} (k:TV h T TD TL TM V E N tl):VB V E N tl:=by obtain ⟨_,_,_,_,_,_,_,q⟩:=k;exact q
theorem TV.lt {h:Array Obj} (k:TV h T TD TL TM V E N tl):T<h.size∧TD<h.size∧TL<h.size∧TM<h.size:=by
 obtain ⟨_,_,_,_,_,r,_⟩:=k;exact ⟨r.r.lt,r.d.lt,r.l.lt,r.m.lt⟩
theorem TV.tb {h:Array Obj} (k:TV h T TD TL TM N N N tl):TB h T TD TL TM N tl:=by
 obtain ⟨o,nx,pv,ls,ms,r,q,b⟩:=k
 exact ⟨o,nx,pv,ls,ms,⟨r.r,r.d,r.l,r.m,r.ne,by have:=b.v1;have:=b.n1;omega⟩,q⟩
theorem VR.inM (h:VR w.heap T TD TL TM V E o nx pv ls ms) (c:Chg (·=TM) w w') (r:Row w'.heap TM 21 (recs (ic ms') V)):VR w'.heap T TD TL TM V E o nx pv ls ms':=
 ⟨c.row h.ne.2.2.1 h.r,c.row h.ne.2.2.2.2.1 h.d,c.row h.ne.2.2.2.2.2 h.l,r,h.ne⟩
theorem VR.inL (h:VR w.heap T TD TL TM V E o nx pv ls ms) (c:Chg (·=TL) w w') (r:Row w'.heap TL 21 (recs (ic ls') V)):VR w'.heap T TD TL TM V E o nx pv ls' ms:=
 ⟨c.row h.ne.2.1 h.r,c.row h.ne.2.2.2.1 h.d,r,c.row (fun e=>h.ne.2.2.2.2.2 e.symm) h.m,h.ne⟩
theorem VR.inD (h:VR w.heap T TD TL TM V E o nx pv ls ms) (c:Chg (·=TD) w w') (r:Row w'.heap TD 298 (recs (dc o' nx' pv') (2*E))):VR w'.heap T TD TL TM V E o' nx' pv' ls ms:=
 ⟨c.row h.ne.1 h.r,r,c.row (fun e=>h.ne.2.2.2.1 e.symm) h.l,c.row (fun e=>h.ne.2.2.2.2.1 e.symm) h.m,h.ne⟩
theorem Zmq (hV:1≤V∧V≤N) (hE:1≤E∧E≤N) (hN:N≤1048576):Calls Pg 127 #[.int .i64 V,.int .i64 E] w fun r w'=>∃T TD TL TM,r=.returned (.tuple #[.pointer (some ⟨T,0,none⟩),errV 0])∧Chg Qaa w w'∧
  (w.heap.size≤T∧w.heap.size≤TD∧w.heap.size≤TL∧w.heap.size≤TM)∧TV w'.heap T TD TL TM V E N (fun _=>[]):=by
 refine (Qv4 _ _).go ?_
 unfold Qwe nr
 refine ⟨fun _ w'=>w'=w,?_,?_⟩
 ·refine Qac (fun h=>?_) (fun _=>Qac (fun h=>?_) (fun _=>Qac (fun h=>?_) (fun _=>Qac (fun h=>?_) (fun _=>rfl))))<;>simp only [b1s] at h<;>omega
 rintro _ w3 rfl
 rw [wrap64_in (x:=(2:Int)*E) (by omega) (by omega),show (2:Int)*E=((2*E:Nat):Int) by omega]
 have et:∀m:Nat,Int.toNat (m:Int)=m:=fun m=>rfl
 simp only [et]
 refine ⟨fun vs w'=>∃T TD TL TM,vs=[.pointer (some ⟨T,0,none⟩)]∧Chg Qaa w3 w'∧(w3.heap.size≤T∧w3.heap.size≤TD∧w3.heap.size≤TL∧w3.heap.size≤TM)∧VR w'.heap T TD TL TM V E (fun _=>0) (fun _=>0) (fun _=>0) (fun _=>0) (fun _=>0),?_,?_⟩
 ·have z0:(0:Int)≤((2*E:Nat):Int):=by omega
  have z2:(12:Int)*((2*E:Nat):Int)≤140737488355328:=by omega
  have y0:(0:Int)≤(V:Int):=by omega
  have y2:(4:Int)*(V:Int)≤140737488355328:=by omega
  have ze:=Int.le_refl ((2*E:Nat):Int)
  have ye:=Int.le_refl (V:Int)
  refine ⟨⟨z0,ze,z2,Qal fun r1=>⟨⟨y0,ye,y2,Qal fun r2=>⟨y0,ye,y2,Qal fun r3=>Qal fun r4=>?_⟩⟩,y0,ye,y2,Qal fun r2=>⟨y0,ye,y2,Qal fun r3=>Qal fun r4=>?_⟩⟩⟩,
   ⟨y0,ye,y2,Qal fun r1=>⟨⟨z0,ze,z2,Qal fun r2=>⟨y0,ye,y2,Qal fun r3=>Qal fun r4=>?_⟩⟩,y0,ye,y2,Qal fun r2=>⟨z0,ze,z2,Qal fun r3=>Qal fun r4=>?_⟩⟩⟩,
   y0,ye,y2,Qal fun r1=>⟨⟨z0,ze,z2,Qal fun r2=>⟨y0,ye,y2,Qal fun r3=>Qal fun r4=>?_⟩⟩,y0,ye,y2,Qal fun r2=>⟨z0,ze,z2,Qal fun r3=>Qal fun r4=>?_⟩⟩⟩
  all_goals
   rw [Qas] at r1 r2 r3
   refine ⟨_,_,_,_,rfl,((((Chg.refl _ _).drew.alloc _).alloc _).alloc _).alloc _,?_,r4,by first | exact ((r1.alloc _).alloc _).alloc _ | exact (r2.alloc _).alloc _ | exact r3.alloc _,by first | exact ((r1.alloc _).alloc _).alloc _ | exact (r2.alloc _).alloc _ | exact r3.alloc _,by first | exact ((r1.alloc _).alloc _).alloc _ | exact (r2.alloc _).alloc _ | exact r3.alloc _,?_⟩
   ·simp only [Q0j,Q5i];omega
   ·simp only [Q0j,Q5i];omega
 rintro _ p w4 ⟨T,TD,TL,TM,hp,hc,hb,ht⟩
 simp only [List.cons.injEq,Value.pointer.injEq,and_true] at hp
 subst hp
 refine pt_i (Qai ht.r rfl ?_)
 have hdne:=ht.ne
 let J:Nat→List Value→World→Prop:=fun j vs w'=>∃i:Nat,vs=[.int .i64 i]∧i≤2*E∧Chg (·=TD) w4 w'∧Row w'.heap TD 298 (recs (dc (fun x=>if x<i then -1 else 0) (fun _=>0) (fun _=>0)) (2*E))∧j=2*E-i
 refine ⟨LI J,LM J,⟨_,0,rfl,by omega,Chg.refl _ _,?_,rfl⟩,?_⟩
 ·refine (Qbb fun j _=>?_) ▸ ht.d
  simp [dc]
 intro _ i w5 hJ
 obtain ⟨i,hvs,hin,hc5,hd5,hj⟩:=hJ.at
 simp only [vj] at hvs
 subst hvs
 have hr5:=hc5.row (fun e=>hdne.1 e) ht.r
 refine Qac (fun hlt=>?_) (fun hlt=>?_)<;>simp only [b1s] at hlt
 ·refine pt_i (Qai hr5 rfl (Qat (by omega) ?_))
  rw [Nat.zero_add]
  refine Qbg hd5 (by rw [Qah _ Qd9];omega) rfl fun hd6=>?_
  rw [wrap64_in (by omega) (by omega)]
  refine LI.again (k:=2*E-(i+1)) ⟨i+1,rfl,by omega,hc5.setCell _ _ (.inl rfl),?_,rfl⟩ (by rw [hj];omega)
  rw [Qqx (by omega)] at hd6
  rw [Q00] at hd6
  exact hd6
 have hi:i=2*E:=by omega
 subst hi
 clear hJ hj J
 refine pt_i (Qai hr5 rfl ?_)
 have hl5:=hc5.row (fun e=>hdne.2.2.2.1 e.symm) ht.l
 have hm5:=hc5.row (fun e=>hdne.2.2.2.2.1 e.symm) ht.m
 let J:Nat→List Value→World→Prop:=fun j vs w'=>∃i:Nat,vs=[.int .i64 i]∧i≤V∧Chg (·=TL) w5 w'∧Row w'.heap TL 21 (recs (ic (fun x=>if x<i then -1 else 0)) V)∧j=V-i
 refine ⟨LI J,LM J,⟨_,0,rfl,by omega,Chg.refl _ _,?_,rfl⟩,?_⟩
 ·refine (Qbb fun j _=>?_) ▸ hl5
  simp [ic]
 intro _ i w6 hJ
 obtain ⟨i,hvs,hin,hc6,hl6,hj⟩:=hJ.at
 simp only [vj] at hvs
 subst hvs
 have hr6:=hc6.row (fun e=>hdne.2.1 e) hr5
 refine Qac (fun hlt=>?_) (fun hlt=>?_)<;>simp only [b1s] at hlt
 ·refine pt_i (Qai hr6 rfl (Qat (by omega) ?_))
  rw [Nat.zero_add,Nat.mul_one]
  refine Qbg hl6 (by rw [Qah _ Qjh];omega) rfl fun hl7=>?_
  rw [wrap64_in (by omega) (by omega)]
  refine LI.again (k:=V-(i+1)) ⟨i+1,rfl,by omega,hc6.setCell _ _ (.inl rfl),?_,rfl⟩ (by rw [hj];omega)
  rw [Qp1 (by omega),Q00] at hl7
  exact hl7
 have hi:i=V:=by omega
 subst hi
 have hd6:=hc6.row (fun e=>hdne.2.2.2.1 e) hd5
 have hm6:=hc6.row (fun e=>hdne.2.2.2.2.2 e.symm) hm5
 refine ⟨T,TD,TL,TM,rfl,(hc.trans' hc5 fun k e=>.inr (by omega)).trans' hc6 fun k e=>.inr (by omega),hb,fun _=>-1,fun _=>0,fun _=>0,fun _=>-1,fun _=>0,⟨hr6,?_,?_,hm6,hdne⟩,?_,hV,hE,hN,fun _ _=>rfl,fun x hx=>?_⟩
 ·refine (Qbb fun x hx=>?_) ▸ hd6
  simp [dc,hx]
 ·refine (Qbb fun x hx=>?_) ▸ hl6
  simp [ic,hx]
 ·have e0:dl (fun _=>[]) N=[]:=by unfold dl;simp
  exact ⟨Zf7,fun x hx _=>rfl,fun x hx=>(by rw [e0] at hx;cases hx),fun v hv _=>rfl,fun _ _ h=>absurd rfl h,fun _ _=>rfl⟩
 ·have e0:dl (fun _=>[]) N=[]:=by unfold dl;simp
  rw [e0] at hx;cases hx
theorem Zke {e:Int} (h:TV w.heap T TD TL TM V E N tl):Calls Pg 201 #[.pointer (some ⟨T,0,none⟩),.int .i64 e] w fun r w'=>r=.returned (errV (if 0≤e∧e<E then 0 else 12))∧w'=w:=by
 refine (Qjq _ _).go ?_
 unfold Qhi nr
 have hvb:=h.vb
 have h1:=hvb.e1
 have h2:=hvb.n1
 obtain ⟨o,nx,pv,ls,ms,hr,hq,_⟩:=h
 refine Qac (fun h=>by cases h) (fun _=>Qac (fun h1=>?_) (fun h1=>pt_i (Qai hr.r rfl ⟨by decide,?_⟩)))<;>simp only [b1s] at h1
 ·rw [if_neg (by omega)];exact ⟨rfl,rfl⟩
 ·rw [tdiv2,wrap64_in (by omega) (by omega)]
  refine Qac (fun h2=>?_) (fun h2=>?_)<;>simp only [b1s] at h2
  ·rw [if_neg (by omega)];exact ⟨rfl,rfl⟩
  ·rw [if_pos (by omega)];exact ⟨rfl,rfl⟩
theorem Zdj {v:Int} (h:TV w.heap T TD TL TM V E N tl):Calls Pg 231 #[.pointer (some ⟨T,0,none⟩),.int .i64 v] w fun r w'=>r=.returned (errV (if 0≤v∧v<V then 0 else 12))∧w'=w:=by
 refine (Qii _ _).go ?_
 unfold Qf2 nr
 obtain ⟨o,nx,pv,ls,ms,hr,hq,_⟩:=h
 refine Qac (fun h=>by cases h) (fun _=>Qac (fun h1=>?_) (fun h1=>pt_i (Qai hr.r rfl (Qac (fun h2=>?_) (fun h2=>?_)))))<;>simp only [b1s] at *
 ·rw [if_neg (by omega)];exact ⟨rfl,trivial⟩
 ·rw [if_neg (by omega)];exact ⟨rfl,trivial⟩
 ·rw [if_pos (by omega)];exact ⟨rfl,trivial⟩
theorem Zmr (h:TV w.heap T TD TL TM V E N tl) (he:e<E):Calls Pg 133 #[.pointer (some ⟨T,0,none⟩),.int .i64 e] w fun r w'=>r=.returned (.bool (decide (Laid tl N e)))∧w'=w:=by
 refine (Qge _ _ _ (fun v' w'=>v'=.bool (decide (Laid tl N e))∧w'=w) ?_).mono rti
 unfold Qfj nr
 refine (Zke h).mono ?_
 rintro r w3 ⟨rfl,rfl⟩
 rw [if_pos (by omega)]
 refine ⟨_,rfl,Qbu _,Qac (fun _=>?_) (fun h=>by simp [Qb4] at h)⟩
 have hvb:=h.vb
 have hv1:=hvb.e1
 have hv2:=hvb.n1
 obtain ⟨o,nx,pv,ls,ms,hr,hq,_⟩:=h
 rw [wrap64_in (by omega) (by omega),show (2:Int)*e=((2*e:Nat):Int) by omega]
 refine pt_i (Qai hr.r rfl (Qat (by omega) (Qaf (n:=o (2*e)) hr.d (by rw [Nat.zero_add];exact Qol (k:=0) (by omega) (by omega)) ⟨?_,rfl⟩)))
 congr 1
 rw [Bool.eq_iff_iff,bne_iff_ne,decide_eq_true_iff,Ne,hq.Q9f (by omega),Classical.not_not];rfl
theorem Q69 (h:TV w.heap T TD TL TM V E N tl) (hvV:v<V):Calls Pg 168 #[.pointer (some ⟨T,0,none⟩),.int .i64 v] w fun r w'=>r=.returned (.tuple #[.int .i64 (tl v).length,errV 0])∧w'=w:=by
 refine (Qij _ _).go ?_
 unfold Qf3 nr
 refine (Zdj h).mono ?_
 rintro r w3 ⟨rfl,rfl⟩
 rw [if_pos (by omega)]
 have hvb:=h.vb
 have hsz:=hvb.n1
 have hv:v<N:=by have:=hvb.v1;omega
 have hl:(tl v).length≤2*N:=Qbh (h.nd.nodup hv) fun x hx=>h.nd.lt x (Qa2.2 ⟨v,hv,hx⟩)
 obtain ⟨o,nx,pv,ls,ms,hr,hq,_⟩:=h
 refine ⟨_,rfl,Qaj (fun e=>absurd rfl e) (fun _=>pt_i (Qai hr.r rfl (Qat hvV (Qaf (n:=ms v) hr.m (by rw [Nat.zero_add,Nat.mul_one];exact Qhy hvV) ⟨?_,rfl⟩))))⟩
 rw [hq.m v hv,wrap64_in (by omega) (by omega)];rfl
theorem Zfj (h:TV w.heap T TD TL TM V E N tl) (hdE:d<2*E):Calls Pg 227 #[.pointer (some ⟨T,0,none⟩),.int .i64 (d:Nat)] w fun r w'=>∃a b c:Int,r=.returned (.tuple #[.agg #[.int .i32 a,.int .i32 b,.int .i32 c],errV (if d∈dl tl N then 0 else 13)])∧Chg Qaa w w'∧
  (d∈dl tl N→a=og tl N d∧b=sg tl N d)∧(d∉dl tl N→a=0∧b=0):=by
 refine (Qjr _ _ _ (fun v' w'=>∃a b c:Int,v'=.tuple #[.agg #[.int .i32 a,.int .i32 b,.int .i32 c],errV (if d∈dl tl N then 0 else 13)]∧Chg Qaa w w'∧
  (d∈dl tl N→a=og tl N d∧b=sg tl N d)∧(d∉dl tl N→a=0∧b=0)) ?_).mono (by rintro e w' ⟨v,rfl,a,b,c,rfl,k⟩;exact ⟨a,b,c,rfl,k⟩)
 unfold Qhj nr
 have hnd:=h.nd
 have hvb:=h.vb
 have hv1:=hvb.e1
 have hv2:=hvb.n1
 obtain ⟨o,nx,pv,ls,ms,hr,hq,_⟩:=h
 refine Qal fun ha=>?_
 have hc:Chg Qaa w (w.alloc (.cells #[.int .i32 0,.int .i32 0,.int .i32 0] 298)):=(Chg.refl _ _).alloc _
 replace hr:=hr.nob hc
 generalize w.alloc (.cells #[.int .i32 0,.int .i32 0,.int .i32 0] 298)=w3 at *
 generalize hA:w.heap.size=A at *
 have fin:∀(x y z:Int) (F:Value),(∃a b c:Int,Value.tuple #[.agg #[.int .i32 x,.int .i32 y,.int .i32 z],F]=.tuple #[.agg #[.int .i32 a,.int .i32 b,.int .i32 c],errV (if d∈dl tl N then 0 else 13)]∧(d∈dl tl N→a=og tl N d∧b=sg tl N d)∧(d∉dl tl N→a=0∧b=0))→
   sto ⟨A,0,none⟩ (.int .i32 x) w3 fun w4=>sto ((⟨A,0,none⟩:Addr).add 1) (.int .i32 y) w4 fun w5=>sto ((⟨A,0,none⟩:Addr).add 2) (.int .i32 z) w5 fun w6=>ldI .i32 ⟨A,0,none⟩ w6 fun n7=>ldI .i32 ((⟨A,0,none⟩:Addr).add 1) w6 fun n8=>ldI .i32 ((⟨A,0,none⟩:Addr).add 2) w6 fun n9=>
    ∃a b c:Int,Value.tuple #[.agg #[.int .i32 n7,.int .i32 n8,.int .i32 n9],F]=.tuple #[.agg #[.int .i32 a,.int .i32 b,.int .i32 c],errV (if d∈dl tl N then 0 else 13)]∧Chg Qaa w w6∧(d∈dl tl N→a=og tl N d∧b=sg tl N d)∧(d∉dl tl N→a=0∧b=0):=by
  rintro x y z F ⟨a,b,c,k1,k2⟩
  rw [Qad,Qad]
  refine Qbg ha (by simp) rfl fun r1=>Qbg r1 (by simp) rfl fun r2=>Qbg r2 (by simp) rfl fun r3=>Qaf (n:=x) r3 (by simp) (Qaf (n:=y) r3 (by simp) (Qaf (n:=z) r3 (by simp) ?_))
  exact ⟨a,b,c,k1,((hc.setCell _ _ (.inr (by rw [hA];exact Nat.le_refl _))).setCell _ _ (.inr (by rw [hA];exact Nat.le_refl _))).setCell _ _ (.inr (by rw [hA];exact Nat.le_refl _)),k2⟩
 refine Qac (fun h=>by cases h) (fun _=>⟨fun vs w'=>w'=w3∧vs=[.bool false],?_,?_⟩)
 ·refine Qac (fun h1=>by simp only [b1s] at h1;omega) (fun h1=>pt_i (Qai hr.r rfl ⟨rfl,?_⟩))
  congr 2;exact decide_eq_false (by omega)
 rintro _ b4 w4 ⟨rfl,hb4⟩
 simp only [List.cons.injEq,Value.bool.injEq,and_true] at hb4
 subst hb4
 refine Qac (fun h1=>by cases h1) (fun _=>?_)
 have g0:(recs (dc o nx pv) (2*E))[d*3]?=some (.int .i32 (o d)):=Qol (k:=0) hdE (by omega)
 have g1:(recs (dc o nx pv) (2*E))[d*3+1]?=some (.int .i32 (nx d)):=Qol (k:=1) hdE (by omega)
 have g2:(recs (dc o nx pv) (2*E))[d*3+2]?=some (.int .i32 (pv d)):=Qol (k:=2) hdE (by omega)
 have hx:d<2*N:=by omega
 refine pt_i (Qai hr.r rfl (Qat hdE ?_))
 rw [Nat.zero_add]
 refine Qaf (n:=o d) hr.d g0 (Qac (fun h3=>?_) (fun h3=>?_))<;>simp only [b1s] at h3
 ·have hm:=(hq.Q9f hx).1 h3
  exact fin 0 0 0 _ ⟨0,0,0,by rw [if_neg hm];rfl,fun k=>absurd k hm,fun _=>⟨rfl,rfl⟩⟩
 ·have hm:d∈dl tl N:=Classical.byContradiction fun k=>h3 ((hq.Q9f hx).2 k)
  refine pt_i (Qai hr.r rfl (Qat hdE ?_))
  rw [Nat.zero_add]
  refine Qaf (n:=o d) hr.d g0 ?_
  rw [Qad,Qad]
  refine Qaf (n:=nx d) hr.d g1 (Qaf (n:=pv d) hr.d g2 ?_)
  have k:=hq.on d hm
  exact fin _ _ _ _ ⟨o d,nx d,pv d,by rw [if_pos hm];rfl,fun _=>⟨k.1,k.2.1⟩,fun k=>absurd hm k⟩
theorem Zkf (h:TV w.heap T TD TL TM V E N tl) (hd:d∈dl tl N):Calls Pg 158 #[.pointer (some ⟨T,0,none⟩),.int .i64 (d:Nat)] w fun r w'=>r=.returned (.tuple #[.int .i64 (sg tl N d:Nat),errV 0])∧Chg Qaa w w':=by
 refine (Qfc _ _).go ?_
 unfold Qes nr
 have hvb:=h.vb
 have hv1:=hvb.e1
 have hv2:=hvb.n1
 have hs:=hvb.lt _ (h.nd.Qcs hd).1
 refine (Zfj h (hvb.lt _ hd)).mono ?_
 rintro r w6 ⟨a,b,c,rfl,hc,h1,_⟩
 obtain ⟨rfl,rfl⟩:=h1 hd
 refine ⟨_,_,_,_,rfl,Qal fun r1=>?_⟩
 rw [Qad,Qad]
 refine Qbg r1 (by simp) rfl fun r2=>Qbg r2 (by simp) rfl fun r3=>Qbg r3 (by simp) rfl fun r4=>Qaf (n:=(sg tl N d:Int)) r4 (by simp) ⟨?_,?_⟩
 ·rw [wrap64_in (by omega) (by omega),if_pos hd]
 ·have hs:=hc.size
  exact (((hc.alloc _).setCell _ _ (.inr hs)).setCell _ _ (.inr hs)).setCell _ _ (.inr hs)
theorem Qw5 (h:TV w.heap T TD TL TM V E N tl) (hdE:d<2*E):Calls Pg 159 #[.pointer (some ⟨T,0,none⟩),.int .i64 (d:Nat)] w fun r w'=>r=.returned (.tuple #[.int .i64 (og tl N d:Nat),errV (if d∈dl tl N then 0 else 13)])∧Chg Qaa w w':=by
 refine (Qei _ _).go ?_
 unfold Qdy nr
 have hvb:=h.vb
 have hv2:=hvb.n1
 refine (Zfj h hdE).mono ?_
 rintro r w6 ⟨a,b,c,rfl,hc,h1,h2⟩
 have ha:a=og tl N d∧og tl N d<1048576:=by
  by_cases hd:d∈dl tl N
  ·have:=(Qbm hd).1
   exact ⟨(h1 hd).1,by omega⟩
  ·rw [Q5b hd];exact ⟨(h2 hd).1,by omega⟩
 obtain ⟨rfl,ha⟩:=ha
 refine ⟨_,_,_,_,rfl,Qal fun r1=>?_⟩
 rw [Qad,Qad]
 refine Qbg r1 (by simp) rfl fun r2=>Qbg r2 (by simp) rfl fun r3=>Qbg r3 (by simp) rfl fun r4=>Qaf (n:=(og tl N d:Int)) r4 (by simp) ⟨?_,?_⟩
 ·rw [wrap64_in (by omega) (by omega)]
 ·have hs:=hc.size
  exact (((hc.alloc _).setCell _ _ (.inr hs)).setCell _ _ (.inr hs)).setCell _ _ (.inr hs)
theorem Q5z (h:TV w.heap T TD TL TM V E N tl):Calls Pg 216 #[.pointer (some ⟨T,0,none⟩)] w fun r w'=>r=.returned (.tuple #[.int .i64 (V:Nat),.int .i64 (E:Nat)])∧Chg Qaa w w':=by
 refine (Qiu _).go ?_
 unfold Qgz nr
 have hvb:=h.vb
 have hv1:=hvb.e1
 have hv2:=hvb.n1
 obtain ⟨o,nx,pv,ls,ms,hr,hq,_⟩:=h
 have hR:Row w.drew.heap T 296 _:=hr.r
 refine Qac (fun h=>by cases h) (fun _=>pt_i ?_)
 rw [Qad]
 refine Qai hR rfl (pt_i (Qai hR rfl ⟨by decide,?_⟩))
 rw [tdiv2,wrap64_in (by omega) (by omega)]
 exact ⟨rfl,(Chg.refl _ _).drew⟩
theorem Zmo (h:TV w.heap T TD TL TM V E N tl) (hvV:v<V) (hd:d∉dl tl N) (hdE:d<2*E) (hb:(∃b,b∈tl v∧(b:Int)=be)∨(be=-1∧(tl v=[]∨∃b,tl v=[b]))) :
  Calls Pg 147 #[.pointer (some ⟨T,0,none⟩),.int .i32 d,.agg #[.int .i64 v,.int .i64 be]] w fun r w'=>r=.returned (.tuple #[])∧TW w w' T TD TL TM V E N (put1 tl v be d):=by
 refine (Qkw _ _ _ _).go ?_
 unfold Qiy nr
 have hvb:=h.vb
 have hsz:=hvb.n1
 have hv:v<N:=by have:=hvb.v1;omega
 have hd2:d<2*N:=by have:=hvb.e1;omega
 have hvb':VB V E N (put1 tl v be d):=⟨hvb.v1,hvb.e1,hvb.n1,fun u hu=>by rw [Qsr (by omega)];exact hvb.b u hu,fun x hx=>by
  rcases (Qc5 hv).1 hx with rfl | hx
  ·exact hdE
  ·exact hvb.lt x hx⟩
 obtain ⟨o,nx,pv,ls,ms,hr,hq,_⟩:=h
 have hne:=hr.ne
 have hbd:∀{b},b∈tl v→b<2*N:=fun h=>hq.nd.lt _ (Qa2.2 ⟨v,hv,h⟩)
 have hbe:-1≤be∧be<2*N:=by
  rcases hb with ⟨b,h1,rfl⟩ | ⟨rfl,_⟩
  ·have:=hbd h1;omega
  ·omega
 have key:(tl v=[]∧(if be=-1 then ls v else be)=-1)∨∃b,b∈tl v∧(if be=-1 then ls v else be)=(b:Nat)∧∀z,sg (put1 tl v be d) N z=sw d (sg tl N b) (sg tl N z):=by
  rcases hb with ⟨b,h1,rfl⟩ | ⟨rfl,h1 | ⟨b,h1⟩⟩
  ·exact .inr ⟨b,h1,if_neg (by omega),fun z=>hq.nd.Qzs hv hd hd2 h1 rfl⟩
  ·exact .inl ⟨h1,by rw [if_pos rfl];exact hq.l0 v hv h1⟩
  ·obtain ⟨x,hx,e1⟩:=hq.l1 v hv (by rw [h1];simp)
   rw [h1,List.mem_singleton] at hx
   subst hx
   have hm:x∈tl v:=by rw [h1];simp
   have e2:sg tl N x=x:=by rw [hq.nd.sgE hv hm,h1,Qwh]
   exact .inr ⟨x,hm,by rw [if_pos rfl];exact e1,fun z=>by rw [e2];exact hq.nd.Q58 hv hd hd2 h1 (by omega)⟩
 have hms:0≤ms v∧ms v≤2097152:=by
  have h1:=hq.m v hv
  have h2:(tl v).length≤2*N:=Qbh (hq.nd.nodup hv) fun x hx=>hq.nd.lt x (Qa2.2 ⟨v,hv,hx⟩)
  omega
 refine Qak fun A w5 hA c5 ra=>?_
 rw [Qad]
 refine Qaf (n:=be) ra rfl ?_
 rw [wrap32_in (by omega) (by omega)]
 refine ⟨fun vs w'=>vs=[.int .i32 (if be=-1 then ls v else be)]∧Chg Qaa w5 w',?_,?_⟩
 ·refine Qac (fun k=>pt_i ?_) (fun k=>?_)<;>simp only [b1s] at k
  ·have c6:Chg Qaa w5 w5.drew:=(Chg.refl _ _).drew
   have hr2:=(hr.nob c5).nob c6
   have ra2:=c6.row (fun h=>h) ra
   generalize w5.drew=w6 at *
   rw [Qad]
   refine Qai hr2.r rfl (Qaf (n:=v) ra2 rfl (Qat hvV (Qaf (n:=ls v) hr2.l (by rw [Nat.zero_add,Nat.mul_one];exact Qhy hvV) ⟨?_,c6⟩)))
   rw [if_pos k]
  ·exact ⟨by rw [if_neg k],Chg.refl _ _⟩
 rintro _ b' w7 ⟨hb',c7⟩
 simp only [vj] at hb'
 subst hb'
 generalize (if be=-1 then ls v else be)=b' at *
 have c8:Chg Qaa w w7.drew:=c5.trans c7.drew
 have hr2:=hr.nob c8
 have ra2:=(c7.drew).row (fun h=>h) ra
 generalize w7.drew=w8 at *
 clear hb c7 c5
 have hA2:A≠TM∧A≠TD∧A≠TL:=by
  have:=hr.m.lt;have:=hr.d.lt;have:=hr.l.lt
  omega
 refine pt_i ?_
 rw [Qad]
 refine Qai hr2.r rfl (Qaf (n:=v) ra2 rfl (Qat hvV (Qaf (n:=ms v) hr2.m (by rw [Nat.zero_add,Nat.mul_one];exact Qhy hvV) (Qat hvV ?_))))
 rw [Nat.zero_add,Nat.mul_one,wrap32_in (by omega) (by omega)]
 refine Qao hr2.m (by rw [Qah _ Qjh];omega) rfl fun w9 c9 rm=>?_
 rw [Qp1 hvV] at rm
 have hr3:=hr2.inM c9 rm
 have ra3:=c9.row hA2.1 ra2
 have c10:Chg (fun k=>k=TD∨k=TL∨k=TM) w w9:=c8.weak.trans (c9.mono fun _ _ e=>.inr (.inr e))
 clear hr2 ra2 c8 c9 rm
 have hdn:∀x,x∈dl tl N→x≠d:=fun x hx e=>hd (e ▸ hx)
 have hvi:IntKind.i32.wrap (v:Int)=v:=wrap32_in (by omega) (by omega)
 refine Qac (fun k=>pt_i ?_) (fun k=>pt_i ?_)<;>simp only [b1s] at k
 ·obtain ⟨h0,_⟩:=key.resolve_right (by rintro ⟨b,_,h,_⟩;omega)
  have c11:Chg Qaa w9 w9.drew:=(Chg.refl _ _).drew
  have hr4:=hr3.nob c11
  have ra4:=c11.row (fun h=>h) ra3
  have c12:=c10.trans c11.weak
  generalize w9.drew=w10 at *
  refine Qai hr4.r rfl (Qaf (n:=v) ra4 rfl (Qat hdE ?_))
  rw [Nat.zero_add,Qad,Qad,hvi]
  refine Qao hr4.d (by rw [Qah _ Qd9];omega) rfl fun w11 c13 r1=>?_
  rw [Qqx hdE] at r1
  refine Qao r1 (by rw [Qah _ Qd9];omega) rfl fun w12 c14 r2=>?_
  rw [Qwp hdE] at r2
  refine Qao r2 (by rw [Qah _ Qd9];omega) rfl fun w13 c15 r3=>pt_i ?_
  rw [Qwo hdE] at r3
  have c16:=(c13.trans c14).trans c15
  have hr5:=hr4.inD c16 r3
  have ra5:=c16.row hA2.2.1 ra4
  have c17:Chg Qaa w13 w13.drew:=(Chg.refl _ _).drew
  have hr6:=hr5.nob c17
  have ra6:=c17.row (fun h=>h) ra5
  have c18:=(c12.trans (c16.mono fun _ _ e=>.inl e)).trans c17.weak
  generalize w13.drew=w14 at *
  rw [Qad]
  refine Qai hr6.r rfl (Qaf (n:=v) ra6 rfl (Qat hvV ?_))
  rw [Nat.zero_add,Nat.mul_one]
  refine Qao hr6.l (by rw [Qah _ Qjh];omega) rfl fun w15 c19 r4=>⟨rfl,c18.trans (c19.mono fun _ _ e=>.inr (.inl e)),?_⟩
  rw [Qp1 hvV] at r4
  refine ⟨_,_,_,_,_,hr6.inL c19 r4,hq.put hv hd hd2 (fun x hx=>?_) (fun u hu=>Qag _ _ hu) ⟨d,?_,Qab _ _ _⟩,hvb'⟩
  ·have e1:∀z,sg (put1 tl v be d) N z=sg tl N z:=fun z=>hq.nd.Qso hv hd hd2 h0
   simp only [e1]
   rcases (Qc5 hv).1 hx with rfl | hx
   ·rw [Qab,Qab,Qsp hd];exact ⟨rfl,x,(Qc5 hv).2 (.inl rfl),rfl,Qsp hd⟩
   ·rw [Qag _ _ (hdn x hx),Qag _ _ (hdn x hx)]
    obtain ⟨_,h2,p,h3,h4⟩:=hq.on x hx
    exact ⟨h2,p,(Qc5 hv).2 (.inr h3),h4⟩
  ·rw [Qzx,Qfp.mem_iff];simp
 ·obtain ⟨b,hbm,e1,hsg⟩:=key.resolve_left (fun h=>k h.2)
  subst e1
  have hbl:b∈dl tl N:=Qa2.2 ⟨v,hv,hbm⟩
  have hb2:=hvb.lt _ hbl
  have hs2:=hvb.lt _ (hq.nd.Qcs hbl).1
  have hsl:=(hq.nd.Qcs hbl).1
  have e2:=(hq.on b hbl).2.1
  refine Qai hr3.r rfl (Qat hb2 ?_)
  rw [Nat.zero_add,Qad]
  refine Qaf (n:=nx b) hr3.d (Qol (k:=1) hb2 (by omega)) (pt_i ?_)
  rw [e2]
  have c11:Chg Qaa w9 w9.drew:=(Chg.refl _ _).drew
  have hr4:=hr3.nob c11
  have ra4:=c11.row (fun h=>h) ra3
  have c12:=c10.trans c11.weak
  generalize w9.drew=w10 at *
  refine Qai hr4.r rfl (Qaf (n:=v) ra4 rfl (Qat hdE ?_))
  rw [Nat.zero_add,Qad,Qad,hvi]
  refine Qao hr4.d (by rw [Qah _ Qd9];omega) rfl fun w11 c13 r1=>?_
  rw [Qqx hdE] at r1
  refine Qao r1 (by rw [Qah _ Qd9];omega) rfl fun w12 c14 r2=>?_
  rw [Qwp hdE] at r2
  refine Qao r2 (by rw [Qah _ Qd9];omega) rfl fun w13 c15 r3=>pt_i ?_
  rw [Qwo hdE] at r3
  have c16:=(c13.trans c14).trans c15
  have hr5:=hr4.inD c16 r3
  have c17:Chg Qaa w13 w13.drew:=(Chg.refl _ _).drew
  have hr6:=hr5.nob c17
  have c18:=(c12.trans (c16.mono fun _ _ e=>.inl e)).trans c17.weak
  generalize w13.drew=w14 at *
  refine Qai hr6.r rfl (pt_i (Qai hr6.r rfl (Qat hb2 ?_)))
  rw [Nat.zero_add,Qad]
  refine Qao hr6.d (by rw [Qah _ Qd9];omega) rfl fun w15 c19 r4=>Qat hs2 ?_
  rw [Qwp hb2] at r4
  rw [Nat.zero_add,Qad]
  refine Qao r4 (by rw [Qah _ Qd9];omega) rfl fun w16 c20 r5=>⟨rfl,c18.trans ((c19.trans c20).mono fun _ _ e=>.inl e),?_⟩
  rw [Qwo hs2] at r5
  refine ⟨_,_,_,_,_,hr6.inD (c19.trans c20) r5,hq.put hv hd hd2 (fun x hx=>?_) (fun u hu=>rfl) ?_,hvb'⟩
  ·rw [hsg]
   have hsd:sg tl N d=d:=Qsp hd
   have hsbd:=hdn _ hsl
   rcases (Qc5 hv).1 hx with rfl | hx
   ·rw [Qag _ _ (hdn b hbl).symm,Qab,hsd,sw_l,Qag _ _ hsbd.symm,Qab]
    exact ⟨rfl,b,(Qc5 hv).2 (.inr hbl),rfl,by rw [hsg,sw_r]⟩
   ·have hxd:=hdn x hx
    obtain ⟨_,h2,p,h3,h4,h5⟩:=hq.on x hx
    constructor
    ·by_cases hxb:x=b
     ·rw [hxb,Qab,sw_r]
     ·rw [Qag _ _ hxb,Qag _ _ hxd,h2,sw_o (hdn _ (hq.nd.Qcs hx).1) (fun e=>hxb (hq.nd.Qxh hx hbl e))]
    ·by_cases hxs:x=sg tl N b
     ·refine ⟨d,(Qc5 hv).2 (.inl rfl),by rw [hxs,Qab],?_⟩
      rw [hsg,hsd,sw_l,hxs]
     ·refine ⟨p,(Qc5 hv).2 (.inr h3),?_,?_⟩
      ·rw [Qag _ _ hxs,Qag _ _ hxd];exact h4
      ·rw [hsg,h5,sw_o hxd hxs]
  ·obtain ⟨x,hx,h1⟩:=hq.l1 v hv (fun e=>by rw [e] at hbm;cases hbm)
   exact ⟨x,by rw [Qzx,Qfp.mem_iff];simp [hx],h1⟩
end
end Core
end Go.Proofs.YtfeekmmfdkfgmaaGreatDoor
