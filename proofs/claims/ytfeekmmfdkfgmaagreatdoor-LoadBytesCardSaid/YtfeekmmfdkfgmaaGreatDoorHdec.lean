import Derived.Test.YtfeekmmfdkfgmaaGreatDoorHload
import Derived.Laws.BytesArg
import Derived.Test.YtfeekmmfdkfgmaaGreatDoorHsh
/-
Bytes taken off in front (layer 17's program): numbers, places, edges; once there is nothing left, all are 0.
Conditions: those that each theorem states.
-/
set_option linter.unusedVariables false
set_option linter.unusedSimpArgs false
namespace Go.Proofs.YtfeekmmfdkfgmaaGreatDoor
open Go Go.RowKit
set_option linter.unnecessarySimpa false
namespace Core
set_option linter.ambiguousOpen false
open Seq Cut Web
section
variable {α β:Type} {f:List Nat→Option (α × List Nat)}
def rep (f:List Nat→Option (α × List Nat)):Nat→List Nat→Option (List α × List Nat)
 | 0,xs=>some ([],xs)
 | n+1,xs=>(f xs).bind fun e=>(rep f n e.2).bind fun l=>some (e.1::l.1,l.2)
theorem Qhu:∀{n:Nat} {xs:List Nat},rep f (n+1) xs=(rep f n xs).bind fun l=>(f l.2).bind fun e=>some (l.1++[e.1],e.2)
 | 0,xs=>by
  simp only [rep,Option.bind_some]
  cases f xs<;>rfl
 | n+1,xs=>by
  rw [rep]
  conv=>rhs;rw [rep]
  cases f xs with
  | none=>rfl
  | some e=>
   simp only [Option.bind_some]
   rw [Qhu]
   cases rep f n e.2 with
   | none=>rfl
   | some l=>
    simp only [Option.bind_some]
    cases f l.2 with
    | none=>rfl
    | some e=>rfl
theorem Q30 {i n:Nat} {xs:List Nat} (h:rep f i xs=none) (hn:i≤n):rep f n xs=none:=by
 induction hn with
 | refl=>exact h
 | step _ ih=>rw [Qhu,ih];rfl
theorem Q31 {k:Nat} (hf:∀{xs r:List Nat} {e:α},f xs=some (e,r)→r.length+k≤xs.length):∀{n:Nat} {xs r:List Nat} {l:List α},rep f n xs=some (l,r)→r.length+k*n≤xs.length∧l.length=n
 | 0,xs,r,l,h=>by
  cases h
  exact ⟨by omega,rfl⟩
 | n+1,xs,r,l,h=>by
  rw [rep] at h
  obtain ⟨⟨e,ys⟩,h1,h⟩:=Option.bind_eq_some_iff.1 h
  obtain ⟨⟨l',r'⟩,h2,h⟩:=Option.bind_eq_some_iff.1 h
  cases h
  have k1:=hf h1
  obtain ⟨k2,k3⟩:=Q31 hf h2
  dsimp only at k1 k2 ⊢
  rw [Nat.mul_succ,List.length_cons]
  omega
def Gd (o:Option (α × List Nat)) (b:Bool) (v:α) (xs:List Nat) (b':Bool):Prop:=(b'=false→b=false∧o=some (v,xs))∧(b'=true→b=true∨o=none)
theorem Gd.pure {b:Bool} {v:α} {xs:List Nat}:Gd (some (v,xs)) b v xs b:=⟨fun h=>⟨h,rfl⟩,fun h=>.inl h⟩
theorem Gd.bind {o:Option (α × List Nat)} {g:α × List Nat→Option (β × List Nat)} {b b1 b2:Bool} {v:α} {u:β} {xs ys:List Nat} (h:Gd o b v xs b1) (k:Gd (g (v,xs)) b1 u ys b2):Gd (o.bind g) b u ys b2:=by
 refine ⟨fun e=>?_,fun e=>?_⟩
 ·obtain ⟨e1,k1⟩:=k.1 e
  obtain ⟨e0,k0⟩:=h.1 e1
  exact ⟨e0,by rw [k0];exact k1⟩
 ·rcases k.2 e with e1 | k1
  ·rcases h.2 e1 with e0 | k0
   ·exact .inl e0
   ·exact .inr (by rw [k0];rfl)
  ·cases hb:b1 with
   | true=>
    rcases h.2 hb with e0 | k0
    ·exact .inl e0
    ·exact .inr (by rw [k0];rfl)
   | false=>exact .inr (by rw [(h.1 hb).2];exact k1)
end
theorem Qg2 {k v:Nat} {xs r:List Nat} (h:rdN k xs=some (v,r)):r.length+k=xs.length:=by
 unfold rdN at h
 split at h
 ·cases h
 ·cases h
  rw [List.length_drop];omega
def rdPl (xs:List Nat):Option ((Nat × Nat) × List Nat):=(rdN 4 xs).bind fun a=>(rdN 1 a.2).bind fun s=>some ((a.1,s.1),s.2)
theorem Q32 {xs r:List Nat} {p:Nat × Nat} (h:rdPl xs=some (p,r)):r.length+5≤xs.length:=by
 unfold rdPl at h
 obtain ⟨⟨a,x1⟩,h1,h⟩:=Option.bind_eq_some_iff.1 h
 obtain ⟨⟨s,x2⟩,h2,h⟩:=Option.bind_eq_some_iff.1 h
 cases h
 have k1:=Qg2 h1
 have k2:=Qg2 h2
 dsimp only at k1 k2 ⊢
 omega
theorem Q34:∀{n:Nat} {xs:List Nat},rdP n xs=rep rdPl n xs
 | 0,xs=>rfl
 | n+1,xs=>by
  rw [rdP,rep,rdPl]
  simp only [Option.bind_assoc,Option.bind_some]
  congr;funext a;congr;funext s
  rw [Q34]
theorem Q0n:∀{n:Nat} {xs:List Nat},rdEs n xs=rep rdE n xs
 | 0,xs=>rfl
 | n+1,xs=>by
  rw [rdEs,rep]
  congr;funext a
  rw [Q0n]
def rdX (xs:List Nat):Option ((Nat × Nat × Nat × Nat × Nat) × List Nat):=(rdN 4 xs).bind fun f0=>(rdN 4 f0.2).bind fun n0=>(rdN 4 n0.2).bind fun f1=>(rdN 4 f1.2).bind fun n1=>(rdN 4 n1.2).bind fun w=>some ((f0.1,n0.1,f1.1,n1.1,w.1),w.2)
theorem Qzv {xs:List Nat}:rdE xs=(rdPl xs).bind fun p=>if p.1.2=1 then (rdX p.2).bind fun x=>some (⟨p.1.1,p.1.2,x.1.1,x.1.2.1,x.1.2.2.1,x.1.2.2.2.1,x.1.2.2.2.2⟩,x.2) else some (⟨p.1.1,p.1.2,0,0,0,0,0⟩,p.2):=by
 unfold rdE rdPl rdX
 simp only [Option.bind_assoc,Option.bind_some]
theorem Zai {xs r:List Nat} {x:ER} (h:rdE xs=some (x,r)):r.length+5≤xs.length:=by
 rw [Qzv] at h
 obtain ⟨⟨p,x1⟩,h1,h⟩:=Option.bind_eq_some_iff.1 h
 have k1:=Q32 h1
 dsimp only at h
 split at h
 ·obtain ⟨⟨q,x2⟩,h2,h⟩:=Option.bind_eq_some_iff.1 h
  cases h
  unfold rdX at h2
  obtain ⟨⟨a3,x3⟩,h3,h2⟩:=Option.bind_eq_some_iff.1 h2
  obtain ⟨⟨a4,x4⟩,h4,h2⟩:=Option.bind_eq_some_iff.1 h2
  obtain ⟨⟨a5,x5⟩,h5,h2⟩:=Option.bind_eq_some_iff.1 h2
  obtain ⟨⟨a6,x6⟩,h6,h2⟩:=Option.bind_eq_some_iff.1 h2
  obtain ⟨⟨a7,x7⟩,h7,h2⟩:=Option.bind_eq_some_iff.1 h2
  cases h2
  have:=Qg2 h3
  have:=Qg2 h4
  have:=Qg2 h5
  have:=Qg2 h6
  have:=Qg2 h7
  dsimp only at *
  omega
 ·cases h
  exact k1
def rdC (xs:List Nat):Option (Nat × List Nat):=(rdN 4 xs).bind fun a=>if a.2.length/5<a.1 then none else some a
theorem Q7q {α β:Type} {f:List Nat→Option (α × List Nat)} (hf:∀{xs r:List Nat} {e:α},f xs=some (e,r)→r.length+5≤xs.length) {xs:List Nat} {g:List α × List Nat→Option β}:((rdN 4 xs).bind fun k=>(rep f k.1 k.2).bind g)=(rdC xs).bind fun k=>(rep f k.1 k.2).bind g:=by
 unfold rdC
 cases h:rdN 4 xs with
 | none=>rfl
 | some a=>
  simp only [Option.bind_some]
  split
  ·rename_i k
   cases hr:rep f a.1 a.2 with
   | none=>rfl
   | some l=>
    have:=(Q31 hf (l:=l.1) (r:=l.2) hr).1
    omega
  ·rfl
theorem Zkz {xs:List Nat}:rdM xs=(rdN 4 xs).bind fun n=>(rdC n.2).bind fun k=>(rep rdPl k.1 k.2).bind fun P=>(rdC P.2).bind fun j=>(rep rdE j.1 j.2).bind fun E=>if E.2=[] then some ⟨n.1,P.1,E.1⟩ else none:=by
 unfold rdM
 congr;funext n
 simp only [Q34,Q0n]
 rw [←Q7q Q32]
 congr;funext k
 congr;funext P
 rw [←Q7q Zai]
section
variable {w w':World} {A n c base:Nat} {b:Option Addr} {xs ys:List Nat} {bad:Bool} {G:Nat→Prop}
theorem CV.keep {l sz:Nat} {us:List Value} {X:Nat→Prop} (h:CV w b l sz us) (k:Chg X w w') (hX:∀g,0<l→bk b=some g→¬X g):CV w' b l sz us:=by
 rcases h with h0 | ⟨a,rfl,ha,hc⟩
 ·exact .inl h0
 by_cases h0:l=0
 ·exact .inl h0
 refine .inr ⟨a,rfl,Nat.lt_of_lt_of_le ha k.size,fun i j hi hj=>?_⟩
 rw [←hc i j hi hj]
 refine Seq.Qy4 ?_
 rw [Qeb,Qeb]
 exact k.block _ ha (hX _ (by omega) rfl)
theorem Zcl {us:List Value} {l k:Nat} (h:CV w b l 1 us) (hk:k≤l):CV w (if c=0 then b else Option.map (fun a=>Addr.add a (0*1)) b) k 1 (us.take k):=by
 rw [add0,show (if c=0 then b else b)=b by split<;>rfl]
 refine h.imp (fun h0=>by omega) ?_
 rintro ⟨a,rfl,ha,hc⟩
 refine ⟨a,rfl,ha,fun i j hi hj=>?_⟩
 rw [hc i j (by omega) hj,List.getElem?_take,if_pos (by omega)]
theorem Zg7 {us:List Value} {l k:Nat} (h:CV w b l 1 us) (hk:k≤l) (hc:l≤c):CV w (if c=k then b else Option.map (fun a=>Addr.add a (k*1)) b) (l-k) 1 (us.drop k):=by
 by_cases e:c=k
 ·exact .inl (by omega)
 rw [if_neg e]
 rcases h with h0 | ⟨a,rfl,ha,hcc⟩
 ·exact .inl (by omega)
 refine .inr ⟨a.add (k*1),rfl,by rw [Qeb];exact ha,fun i j hi hj=>?_⟩
 have:=hcc (k+i) j (by omega) hj
 rw [Addr.add_add] at this
 rw [Addr.add_add,Addr.add_add,List.getElem?_drop,show k+(i*1+j)=(k+i)*1+j by omega,←this,show k*1+(i*1+j)=(k+i)*1+j by omega]
theorem Zco (h:CV w b xs.length 1 (bys xs)) (hp:0<xs.length):(convert 44 9 (.slice b xs.length c)).run Pg w=.ok (.string (strOfNums (xs.map fun (x:Nat)=>(x:Int)))) w:=by
 rcases h with h0 | ⟨a,rfl,ha,hc⟩
 ·omega
 have hl:(loadCells a xs.length).run Pg w=.ok ((xs.map fun (x:Nat)=>(x:Int)).map (Value.int .u8)).toArray w:=by
  have:=run_loadCells_list (P:=Pg) w a (bys xs) fun j v hj=>by
   have hjl:j<xs.length:=by
    have:=(List.getElem?_eq_some_iff.1 hj).1
    rwa [Q4v] at this
   have h1:=hc j 0 hjl (by omega)
   rw [Addr.add_add,show j*1+0=j by omega,hj] at h1
   exact h1
  rw [Q4v] at this
  rw [this]
  unfold bys
  rw [List.map_map];rfl
 rw [run_convert_bytes_string w 44 9 5 _ xs.length c (by kernel_rfl) (by kernel_rfl) (by kernel_rfl),run_bytesToString w _ xs.length c _ hl,foldl_push_bytes]
 simp [strOfNums,ByteArray.empty,ByteArray.emptyWithCapacity]
 rfl
theorem Zck (h:CV w b xs.length 1 (bys xs)) (hb:Bt xs) (hl:xs.length≤8):Calls Pg 242 #[.slice b xs.length c] w fun r w'=>r=.returned (.int .u64 (nb xs:Nat))∧w'=w:=by
 refine (Qp8 _ _ _).go ?_
 unfold Qph nr
 let J:Nat→List Value→World→Prop:=fun j vs w'=>∃i:Nat,vs=[.int .u64 (nb (xs.take i):Nat),.int .i64 i]∧i≤xs.length∧w'=w∧j=xs.length-i
 refine ⟨LI J,LM J,⟨_,0,rfl,by omega,rfl,rfl⟩,?_⟩
 intro _ n3 n4 w5 hJ
 obtain ⟨i,hvs,hi,rfl,hj⟩:=hJ.at
 simp only [vj] at hvs
 obtain ⟨rfl,rfl⟩:=hvs
 refine Qac (fun hlt=>?_) (fun hlt=>?_)<;>simp only [b1s] at hlt
 ·have hi:i<xs.length:=by omega
  refine h.ix hi fun a hcs=>?_
  have hx:=hcs 0 (by omega)
  rw [Nat.mul_one,Nat.add_zero,Q4w hi] at hx
  have h1:nb (xs.take i)<256 ^ 7:=Q1f (by rw [List.length_take];omega) (hb.take i)
  refine ⟨(xs[i]:Int),hx,by decide,?_⟩
  rw [or8 (by exact h1) (hb.get hi),wrap64_in (by omega) (by omega)]
  refine LI.again (k:=xs.length-(i+1)) ⟨i+1,?_,by omega,rfl,rfl⟩ (by rw [hj];omega)
  rw [List.take_succ_eq_append_getElem hi,Q4c];rfl
 ·obtain rfl:i=xs.length:=by omega
  rw [List.take_length];exact ⟨rfl,rfl⟩
def RD (w:World) (A:Nat) (G:Nat→Prop) (xs:List Nat) (bad:Bool):Prop:=∃(b:Option Addr) (c:Nat),Row w.heap A 211 [.slice b xs.length c,.bool bad]∧CV w b xs.length 1 (bys xs)∧xs.length≤c∧xs.length≤1000000∧Bt xs∧(∀g,0<xs.length→bk b=some g→G g)∧∀g,G g→g≠A∧g<w.heap.size
theorem RD.keep {X:Nat→Prop} (h:RD w A G xs bad) (k:Chg X w w') (hA:¬X A) (hb:∀g,G g→¬X g):RD w' A G xs bad:=by
 obtain ⟨b,c,r,v,h1,h2,h3,h4,h5⟩:=h
 have s:=k.size
 exact ⟨b,c,k.row hA r,v.keep k fun g h0 hg=>hb g (h4 g h0 hg),h1,h2,h3,h4,fun g hg=>⟨(h5 g hg).1,Nat.lt_of_lt_of_le (h5 g hg).2 s⟩⟩
theorem RD.nob (h:RD w A G xs bad) (k:Chg Qaa w w'):RD w' A G xs bad:=h.keep k (fun h=>h) fun _ _ h=>h
theorem RD.lt (h:RD w A G xs bad):A<w.heap.size:=by obtain ⟨b,c,r,_⟩:=h;exact r.lt
theorem RD.len (h:RD w A G xs bad):xs.length≤1000000:=by obtain ⟨b,c,_,_,_,h,_⟩:=h;exact h
theorem RD.g (h:RD w A G xs bad):∀g,G g→g≠A∧g<w.heap.size:=by obtain ⟨b,c,_,_,_,_,_,_,h⟩:=h;exact h
theorem Zkb (h:CV w b xs.length 1 (bys xs)) (hb:Bt xs) (h1:1≤xs.length) (h8:xs.length≤8) (hc:xs.length≤c):Calls Pg 195 #[.slice b xs.length c,.int .i64 xs.length] w fun r w'=>∃b' c',r=.returned (.tuple #[.int .u64 (nb xs:Nat),.slice b' 0 c',errV 0])∧Chg Qaa w w':=by
 refine (Q10 _ _ _ _).go ?_
 unfold Qzn nr
 refine Qac (fun k=>?_) (fun _=>Qac (fun k=>?_) (fun _=>Qac (fun k=>?_) (fun _=>?_)))
 ·simp only [b1s] at k;omega
 ·simp only [b1s] at k;omega
 ·simp only [b1s] at k;omega
 have hd:CV w.drew b xs.length 1 (bys xs):=h.nob (Chg.refl Qaa w).drew
 have hh:=Zcl (c:=c) (k:=xs.length) hd (Nat.le_refl _)
 rw [Q8x,List.take_length] at hh
 rw [Int.toNat_natCast]
 refine ⟨by omega,by omega,by omega,by omega,?_⟩
 rw [Nat.sub_zero,Nat.sub_self]
 refine (Zck hh hb h8).mono ?_
 rintro r w6 ⟨rfl,rfl⟩
 refine ⟨_,rfl,(Zhh (xs:=[]) VA.zero (fun u hu=>by cases hu) (by omega)).mono ?_⟩
 rintro r w9 ⟨b2,c2,rfl,_,hc2⟩
 exact ⟨_,_,_,rfl,_,_,rfl,(Chg.refl _ w).drew.trans hc2⟩
theorem Qxn (h:RD w A G xs bad) (h1:1≤n) (h4:n≤4):Calls Pg 122 #[.pointer (some ⟨A,0,none⟩),.int .i64 n] w fun r w'=>∃v ys b',r=.returned (.int .u32 (v:Nat))∧v<256 ^ n∧RD w' A G ys b'∧Chg (·=A) w w'∧Gd (rdN n xs) bad v ys b':=by
 refine (Qq5 _ _).go ?_
 unfold Qke nr
 obtain ⟨b,c,r,va,hc,hl,hb,hG,hA⟩:=h
 refine pt_i (Qai r rfl (Qac (fun k=>pt_i ?_) (fun k=>pt_i (Qai r rfl ?_))))<;>simp only [b1s] at k
 ·have hn:rdN n xs=none:=by unfold rdN;rw [if_pos (by omega)]
  rw [Qad]
  refine Qao r (by simp) rfl fun w5 c5 r5=>pt_i (Qao r5 (by simp) rfl fun w7 c7 r7=>?_)
  exact ⟨0,[],true,rfl,Nat.pow_pos (by decide),⟨none,0,r7,.inl rfl,Nat.le_refl _,by simp,fun x hx=>(by cases hx),fun g _ hg=>(by cases hg),fun g hg=>⟨(hA g hg).1,Nat.lt_of_lt_of_le (hA g hg).2 (c5.trans c7).size⟩⟩,c5.trans c7,⟨fun e=>(by cases e),fun _=>.inr hn⟩⟩
 have hlen:n≤xs.length:=by omega
 have hn:rdN n xs=some (nb (xs.take n),xs.drop n):=by unfold rdN;rw [if_neg (by omega)]
 have hlt:(xs.take n).length=n:=by rw [List.length_take];omega
 have hv:=Q1f (k:=n) (Nat.le_of_eq hlt) (hb.take n)
 have hp:256 ^ n≤4294967296:=Nat.le_trans (Nat.pow_le_pow_right (by decide) h4) (by decide)
 have hh:=Zcl (c:=c) (k:=n) va hlen
 rw [Q8x] at hh
 rw [Int.toNat_natCast,Nat.sub_zero]
 have htk:=Zkb (c:=c-0) (xs:=xs.take n) (b:=if c=0 then b else Option.map (fun a=>Addr.add a (0*1)) b) (by rw [hlt];exact hh) (hb.take n) (by omega) (by omega) (by omega)
 rw [hlt] at htk
 refine ⟨by omega,by omega,htk.mono ?_⟩
 rintro r' w13 ⟨b2,c2,rfl,c13⟩
 have r13:=c13.row (fun h=>h) r
 have va13:=va.nob c13
 refine ⟨_,_,_,_,_,rfl,fun us w'=>us=[]∧Chg (·=A) w w'∧Row w'.heap A 211 [.slice b xs.length c,.bool bad],pt_i ?_,?_⟩
 ·rw [Qad]
  refine Qqt r13 rfl (Qac (fun hb=>?_) (fun hb=>⟨Qbu 0,?_⟩))
  ·subst hb
   exact pt_i (Qao r13 (by simp) rfl fun w19 c19 r19=>⟨rfl,c13.weak.trans c19,r19⟩)
  ·subst hb
   exact pt_i (Qao r13 (by simp) rfl fun w19 c19 r19=>⟨rfl,c13.weak.trans c19,r19⟩)
 rintro _ w22 ⟨_,c22,r22⟩
 refine pt_i (Qai r22 rfl ⟨by omega,by omega,pt_i (Qao r22 (by simp) rfl fun w26 c26 r26=>?_)⟩)
 have c026:=c22.trans c26
 have ht:=Zg7 (c:=c) (k:=n) va hlen hc
 rw [Q8y] at ht
 have hdl:(xs.drop n).length=xs.length-n:=List.length_drop
 rw [Qgx (by omega) (by omega)]
 have hbk:∀g,bk (if c=n then b else Option.map (fun a=>Addr.add a (n*1)) b)=some g→bk b=some g:=fun g hg=>by
  split at hg
  ·exact hg
  ·rwa [Zmi] at hg
 refine ⟨_,xs.drop n,bad,rfl,hv,⟨_,_,by rw [hdl];exact r26,?_,by rw [hdl];omega,by rw [hdl];omega,hb.drop n,fun g h0 hg=>hG g (by omega) (hbk g hg),fun g hg=>⟨(hA g hg).1,Nat.lt_of_lt_of_le (hA g hg).2 c026.size⟩⟩,c026,⟨fun e=>⟨e,hn⟩,fun e=>.inl e⟩⟩
 rw [hdl]
 exact ht.keep c026 fun g h0 hg=>(hA g (hG g (by omega) (hbk g hg))).1
theorem Za4 (h:RD w A G xs bad):Calls Pg 123 #[.pointer (some ⟨A,0,none⟩),.int .i64 5] w fun r w'=>∃v ys b',r=.returned (.int .i64 (v:Nat))∧v≤1000000∧RD w' A G ys b'∧Chg (·=A) w w'∧Gd (rdC xs) bad v ys b':=by
 refine (Qqb _ _).go ?_
 unfold Qje nr
 refine (Qxn h (n:=4) (by omega) (by omega)).mono ?_
 rintro r w3 ⟨v,ys,b',rfl,hv,h3,c3,g3⟩
 have hl:=h3.len
 have hv':v<4294967296:=hv
 obtain ⟨b,c,r,va,hc,_,hb,hG,hA⟩:=h3
 refine ⟨_,rfl,pt_i (Qai r rfl ⟨by decide,?_⟩)⟩
 have ed:Int.tdiv (ys.length:Int) 5=((ys.length/5:Nat):Int):=by rw [Int.tdiv_eq_ediv_of_nonneg (by omega)];omega
 rw [ed,wrap64_in (x:=(v:Int)) (by omega) (by omega),wrap64_in (x:=((ys.length/5:Nat):Int)) (by omega) (by omega)]
 refine Qac (fun k=>pt_i ?_) (fun k=>?_)<;>simp only [b1s] at k
 ·rw [Qad]
  refine Qao r (by simp) rfl fun w8 c8 r8=>?_
  refine ⟨0,ys,true,rfl,by omega,⟨b,c,r8,va.keep c8 fun g h0 hg=>(hA g (hG g h0 hg)).1,hc,hl,hb,hG,fun g hg=>⟨(hA g hg).1,Nat.lt_of_lt_of_le (hA g hg).2 c8.size⟩⟩,c3.trans c8,g3.bind ?_⟩
  dsimp only
  rw [if_pos (by omega)]
  exact ⟨fun e=>(by cases e),fun _=>.inr rfl⟩
 ·refine ⟨v,ys,b',rfl,by omega,⟨b,c,r,va,hc,hl,hb,hG,hA⟩,c3,g3.bind ?_⟩
  dsimp only
  rw [if_neg (by omega)]
  exact Gd.pure
theorem Za2 (h:RD w A G xs bad):Calls Pg 124 #[.pointer (some ⟨A,0,none⟩)] w fun r w'=>∃(a s:Nat) (ys:List Nat) (b':Bool),r=.returned (.agg #[.int .u32 (a:Nat),.int .i64 (s:Nat)])∧a<4294967296∧s<256∧RD w' A G ys b'∧Chg (·=A) w w'∧Gd (rdPl xs) bad (a,s) ys b':=by
 refine (Qqa _).go ?_
 unfold Qjd nr
 have lA:=h.lt
 refine Qak fun P w2 hP c2 r2=>(Qxn (h.nob c2) (n:=4) (by omega) (by omega)).mono ?_
 rintro r w4 ⟨a,x1,b1,rfl,ha,h4,c4,g4⟩
 refine ⟨_,rfl,(Qxn h4 (n:=1) (by omega) (by omega)).mono ?_⟩
 rintro r w7 ⟨s,x2,b2,rfl,hs,h7,c7,g7⟩
 have hs':s<256:=hs
 have s2:=c2.size
 have r7:=c7.row (by omega) (c4.row (by omega) r2)
 refine ⟨_,rfl,Qao r7 (by simp) rfl fun w9 c9 r9=>?_⟩
 rw [Qad]
 refine Qao r9 (by simp) rfl fun w10 c10 r10=>?_
 rw [wrap64_in (x:=(s:Int)) (by omega) (by omega)] at r10
 have hg:=h.g
 refine Qaf (n:=(a:Nat)) r10 rfl (Qaf (n:=(s:Nat)) r10 rfl ⟨a,s,x2,b2,rfl,ha,hs',(h7.keep c9 (by omega) fun g hg' e=>?_).keep c10 (by omega) fun g hg' e=>?_,?_,g4.bind (g7.bind Gd.pure)⟩)
 ·have:=(hg g hg').2;omega
 ·have:=(hg g hg').2;omega
 ·exact (((c2.weak.trans c4).trans c7).trans' c9 fun k e=>.inr (by omega)).trans' c10 fun k e=>.inr (by omega)
theorem Zdf {v:Nat} (hv:v<4294967296):Calls Pg 196 #[.int .u64 v] w fun r w'=>r=.returned (.int .i32 (sgn v))∧w'=w:=by
 refine (Qy5 _).go ?_
 unfold Qvg nr
 refine ⟨?_,rfl⟩
 rw [Qgx (by omega) (by omega)]
 congr 1
 unfold sgn
 simp [IntKind.wrap,IntKind.bits,IntKind.signed]
 split<;>omega
theorem Zi2 {B:Nat} {t:TypeId} {a b c d e:Int} (r:Row w.heap B t [.int .u32 a,.int .u32 b,.int .u32 c,.int .u32 d,.int .i32 e]) {K:Int→Int→Int→Int→Int→Prop} (k:K a b c d e):Qef ⟨B,0,none⟩ w K:=
 Qaf r rfl (Qaf r rfl (Qaf r rfl (Qaf r rfl (Qaf r rfl k))))
theorem Zlk (h:RD w A G xs bad):Calls Pg 125 #[.pointer (some ⟨A,0,none⟩)] w fun r w'=>∃(f0 n0 f1 n1 ww:Nat) (ys:List Nat) (b':Bool),r=.returned (.agg #[.int .u32 (f0:Nat),.int .u32 (f1:Nat),.int .u32 (n0:Nat),.int .u32 (n1:Nat),.int .i32 (sgn ww)])∧(f0<4294967296∧n0<4294967296∧f1<4294967296∧n1<4294967296∧ww<4294967296)∧RD w' A G ys b'∧Chg (·=A) w w'∧Gd (rdX xs) bad (f0,n0,f1,n1,ww) ys b':=by
 refine (Qq6 _).go ?_
 unfold Qkf nr
 have lA:=h.lt
 have hg:=h.g
 refine Qak fun P w2 hP c2 r2=>Qak fun Q w4 hQ c4 r4=>?_
 have s2:=c2.size
 have s4:=c4.size
 have lP:=r2.lt
 have c04:=c2.trans c4
 have gQ:∀g,G g→¬g=Q:=fun g k e=>by have:=(hg g k).2;omega
 have gP:∀g,G g→¬g=P:=fun g k e=>by have:=(hg g k).2;omega
 refine (Qxn (h.nob c04) (n:=4) (by omega) (by omega)).mono ?_
 rintro r w6 ⟨f0,x6,b6,rfl,v6,h6,c6,g6⟩
 refine ⟨_,rfl,Qcb (i:=0) (by omega) (Qao (c6.row (by omega) r4) (by simp) rfl fun w9 c9 r9=>(Qxn (h6.keep c9 (by omega) gQ) (n:=4) (by omega) (by omega)).mono ?_)⟩
 rintro r w11 ⟨n0,x11,b11,rfl,v11,h11,c11,g11⟩
 rw [Qad]
 refine ⟨_,rfl,Qcb (i:=0) (by omega) (Qao (c11.row (by omega) r9) (by simp) rfl fun w14 c14 r14=>(Qxn (h11.keep c14 (by omega) gQ) (n:=4) (by omega) (by omega)).mono ?_)⟩
 rintro r w16 ⟨f1,x16,b16,rfl,v16,h16,c16,g16⟩
 refine ⟨_,rfl,Qcb (i:=1) (by omega) (Qao (c16.row (by omega) r14) (by simp) rfl fun w19 c19 r19=>(Qxn (h16.keep c19 (by omega) gQ) (n:=4) (by omega) (by omega)).mono ?_)⟩
 rintro r w21 ⟨n1,x21,b21,rfl,v21,h21,c21,g21⟩
 refine ⟨_,rfl,Qcb (i:=1) (by omega) (Qao (c21.row (by omega) r19) (by simp) rfl fun w24 c24 r24=>(Qxn (h21.keep c24 (by omega) gQ) (n:=4) (by omega) (by omega)).mono ?_)⟩
 rintro r w26 ⟨ww,x26,b26,rfl,v26,h26,c26,g26⟩
 have hw:ww<4294967296:=v26
 refine ⟨_,rfl,?_⟩
 rw [wrap_u64 (by omega) (by omega)]
 refine (Zdf hw).mono ?_
 rintro r w29 ⟨rfl,rfl⟩
 refine ⟨_,rfl,?_⟩
 rw [Qad]
 refine Qao (c26.row (by omega) r24) (by simp) rfl fun w31 c31 r31=>?_
 have cc:Chg (fun k=>k=A∨k=Q) w4 w31:=by
  have u:=fun {a b:World} (k:Chg (·=A) a b)=>k.mono (T:=fun k=>k=A∨k=Q) fun _ _ e=>.inl e
  have u':=fun {a b:World} (k:Chg (·=Q) a b)=>k.mono (T:=fun k=>k=A∨k=Q) fun _ _ e=>.inr e
  exact ((((((((u c6).trans (u' c9)).trans (u c11)).trans (u' c14)).trans (u c16)).trans (u' c19)).trans (u c21)).trans (u' c24)).trans ((u c26).trans (u' c31))
 have r31P:=cc.row (by omega) (c4.row (fun h=>h) r2)
 refine Zi2 r31 (Qd3 r31P rfl (by intro v hv;simp at hv;rcases hv with rfl | rfl | rfl | rfl | rfl<;>rfl) fun w37 c37 r37=>Zi2 r37 ?_)
 refine ⟨f0,n0,f1,n1,ww,x26,b26,rfl,⟨v6,v11,v16,v21,v26⟩,(h26.keep c31 (by omega) gQ).keep c37 (by omega) gP,?_,g6.bind (g11.bind (g16.bind (g21.bind (g26.bind Gd.pure))))⟩
 have c431:Chg (·=A) w w31:=c04.weak.trans' cc fun k e=>by
  rcases e with rfl | rfl
  ·exact .inl rfl
  ·exact .inr (by omega)
 exact c431.trans' c37 fun k e=>.inr (by omega)
end
section
variable {w w':World} {n c k:Nat} {b:Option Addr} {xs ys:List Nat}
theorem Zk0 (h:CV w b xs.length 1 (bys xs)) (hb:Bt xs) (h1:1≤n) (h4:n≤4) (hn:n≤xs.length):Calls Pg 121 #[.slice b xs.length c,.int .i64 n] w fun r w'=>∃b' l' c',r=.returned (.tuple #[.int .u64 (nb (xs.take n):Nat),.slice b' l' c',.int .i64 0])∧Chg Qaa w w':=by
 refine (Qty _ _ _ _).go ?_
 unfold Qne nr
 refine ⟨fun us w'=>us=[]∧w'=w,Qac (fun k=>?_) (fun _=>Qac (fun k=>?_) (fun _=>⟨rfl,rfl⟩)),?_⟩
 ·simp only [b1s] at k;omega
 ·simp only [b1s] at k;omega
 rintro _ w3 ⟨_,rfl⟩
 refine Qac (fun k=>?_) (fun _=>?_)
 ·simp only [b1s] at k;omega
 let J:Nat→List Value→World→Prop:=fun j vs w'=>∃i:Nat,vs=[.int .u64 (nb (xs.take i):Nat),.int .i64 i]∧i≤n∧w'=w3∧j=n-i
 refine ⟨LI J,LM J,⟨_,0,rfl,by omega,rfl,rfl⟩,?_⟩
 intro _ n6 n7 w8 hJ
 obtain ⟨i,hvs,hi,rfl,hj⟩:=hJ.at
 simp only [vj] at hvs
 obtain ⟨rfl,rfl⟩:=hvs
 refine Qac (fun hlt=>?_) (fun hlt=>?_)<;>simp only [b1s] at hlt
 ·have hi':i<xs.length:=by omega
  refine h.ix hi' fun a hcs=>?_
  have hx:=hcs 0 (by omega)
  rw [Nat.mul_one,Nat.add_zero,Q4w hi'] at hx
  have h3:nb (xs.take i)<256 ^ 3:=Q1f (by rw [List.length_take];omega) (hb.take i)
  have h3':nb (xs.take i)<16777216:=h3
  have hx2:=hb.get hi'
  refine ⟨(xs[i]:Int),hx,?_⟩
  dsimp only
  rw [wrap_u64 (n:=256*(nb (xs.take i):Int)) (by omega) (by omega),wrap_u64 (n:=(xs[i]:Int)) (by omega) (by omega),wrap_u64 (n:=256*(nb (xs.take i):Int)+(xs[i]:Int)) (by omega) (by omega),wrap64_in (by omega) (by omega)]
  refine LI.again (k:=n-(i+1)) ⟨i+1,?_,by omega,rfl,rfl⟩ (by rw [hj];omega)
  rw [List.take_succ_eq_append_getElem hi',Q4c]
  have:(256*(nb (xs.take i):Int)+(xs[i]:Int))=((nb (xs.take i)*256+xs[i]:Nat):Int):=by omega
  rw [this];rfl
 ·obtain rfl:i=n:=by omega
  exact ⟨by omega,by omega,_,_,_,rfl,(Chg.refl _ w8).drew⟩
theorem Zd8 {v:Nat} (hv:v<4294967296):Calls Pg 57 #[.int .u64 v] w fun r w'=>r=.returned (.int .i32 (sgn v))∧w'=w:=by
 refine (Qq4 _).go ?_
 unfold Qkd nr
 have em:Int.tmod (v:Int) (4294967296:Int)=(v:Int):=by rw [Int.tmod_eq_emod_of_nonneg (by omega)];omega
 rw [em,wrap64_in (x:=(v:Int)) (by omega) (by omega)]
 refine ⟨by decide,Qac (fun k=>⟨?_,rfl⟩) (fun k=>⟨?_,rfl⟩)⟩<;>simp only [b1s] at k
 ·rw [wrap64_in (x:=(v:Int)-4294967296) (by omega) (by omega)]
  congr 1
  unfold sgn
  rw [if_neg (by omega)]
  simp [IntKind.wrap,IntKind.bits,IntKind.signed]
  omega
 ·congr 1
  unfold sgn
  rw [if_pos (by omega)]
  simp [IntKind.wrap,IntKind.bits,IntKind.signed]
  omega
theorem Qzw (h:CV w b xs.length 1 (bys xs)) (hb:Bt xs) (h1:1≤n) (h4:n≤4) (hk:k≤1000000) (hl:xs.length≤1000000) (hc:xs.length≤c):Calls Pg 56 #[.slice b xs.length c,.int .i64 k,.int .i64 n] w fun r w'=>∃v y,r=.returned (.tuple #[.int .u64 (v:Nat),.bool y])∧v<256 ^ n∧Chg Qaa w w'∧Gd (rdN n (xs.drop k)) false v (xs.drop (k+n)) (!y):=by
 refine (Qtk _ _ _ _ _).go ?_
 unfold Qm0 nr
 have hld:(xs.drop k).length=xs.length-k:=List.length_drop
 rw [wrap64_in (x:=(k:Int)+n) (by omega) (by omega)]
 refine Qac (fun hlt=>?_) (fun hlt=>?_)<;>simp only [b1s] at hlt
 ·refine ⟨0,false,rfl,Nat.pow_pos (by decide),Chg.refl _ _,⟨fun e=>(by cases e),fun _=>.inr ?_⟩⟩
  unfold rdN
  rw [if_pos (by omega)]
 have hd:=Zg7 (c:=c) (k:=k) h (by omega) hc
 rw [Q8y,←hld] at hd
 rw [Int.toNat_natCast,←hld]
 refine ⟨by omega,by omega,(Zk0 hd (hb.drop k) h1 h4 (by omega)).mono ?_⟩
 rintro r w6 ⟨b1,l1,c1,rfl,c6⟩
 refine ⟨_,_,_,_,_,rfl,_,true,rfl,Q1f (by rw [List.length_take];omega) ((hb.drop k).take n),c6,⟨fun _=>⟨rfl,?_⟩,fun e=>by cases e⟩⟩
 unfold rdN
 rw [if_neg (by omega),List.drop_drop]
end
def ecl (x:ER):List Value:=[.int .u32 (x.f0:Nat),.int .u32 (x.f1:Nat),.int .u32 (x.n0:Nat),.int .u32 (x.n1:Nat),.int .i32 (sgn x.w)]
def epl (x:ER):Nat × Nat:=(x.a,x.s)
section
variable {m:RM} {w w':World} {vb eb lb:Option Addr} {vc ec lc:Nat}
theorem RM.lX:(m.mdl vb vc eb ec lb lc).X.length=m.P.length:=by unfold RM.mdl;simp
theorem RM.lY:(m.mdl vb vc eb ec lb lc).Y.length=m.E.length:=by unfold RM.mdl;simp
theorem RM.xz:(m.mdl vb vc eb ec lb lc).X.flatMap pz=m.P.flatMap pcl:=by
 unfold RM.mdl
 dsimp only
 rw [List.flatMap_map];rfl
theorem RM.yz:(m.mdl vb vc eb ec lb lc).Y.flatMap pz=(m.E.map epl).flatMap pcl:=by
 unfold RM.mdl
 dsimp only
 rw [List.flatMap_map,List.flatMap_map];rfl
theorem RM.lz:recs (mcl (m.mdl vb vc eb ec lb lc).fr (m.mdl vb vc eb ec lb lc).nx (m.mdl vb vc eb ec lb lc).W) m.E.length=m.E.flatMap ecl:=by
 have h1:m.E=(List.range m.E.length).map m.at:=by
  refine List.ext_getElem (by simp) fun i h1 h2=>?_
  rw [List.getElem_map,List.getElem_range,RM.Q19 (List.getElem?_eq_getElem h1)]
 have h2:m.E.flatMap ecl=(List.range m.E.length).flatMap fun e=>ecl (m.at e):=by
  conv=>lhs;rw [h1]
  rw [List.flatMap_map]
 rw [h2]
 unfold recs
 congr 1
 funext e
 unfold mcl RM.mdl ecl
 dsimp only
 rw [if_pos (by omega),if_neg (by omega),if_pos (by omega),if_neg (by omega),show 2*e/2=e by omega,show (2*e+1)/2=e by omega]
theorem RM.dz (h:∀x∈m.E,x.ok):∀d,d<2*m.E.length→(m.mdl vb vc eb ec lb lc).fr d<4294967296∧(m.mdl vb vc eb ec lb lc).nx d<4294967296:=by
 intro d hd
 have hk:d/2<m.E.length:=by omega
 obtain ⟨_,_,k3,k4,k5,k6,_⟩:=h _ (List.getElem_mem hk)
 unfold RM.mdl
 dsimp only
 rw [RM.Q19 (List.getElem?_eq_getElem hk)]
 split<;>exact ⟨by assumption,by assumption⟩
theorem RM.mv0 (hp:∀p∈m.P,p.1<4294967296∧p.2<256) (he:∀x∈m.E,x.ok) (v:VA w vb m.P.length 2 (m.P.flatMap pcl)) (e:VA w eb m.E.length 2 ((m.E.map epl).flatMap pcl)) (l:VA w lb m.E.length 5 (m.E.flatMap ecl)):MV0 w (m.mdl vb vc eb ec lb lc):=by
 refine ⟨?_,?_,?_,?_,?_,RM.dz he,?_⟩
 ·rw [RM.lX,RM.xz];exact CV.Zed v
 ·rw [RM.lY,RM.yz];exact CV.Zed e
 ·show CV w lb m.E.length 5 (recs _ m.E.length)
  rw [RM.lz];exact CV.Zed l
 ·intro p hp'
  unfold RM.mdl at hp'
  obtain ⟨q,hq,rfl⟩:=List.mem_map.1 hp'
  have:=hp q hq
  exact ⟨by show (0:Int)≤(q.1:Nat);omega,by show ((q.1:Nat):Int)<_;omega⟩
 ·intro p hp'
  unfold RM.mdl at hp'
  obtain ⟨q,hq,rfl⟩:=List.mem_map.1 hp'
  have:=(he q hq).1
  exact ⟨by show (0:Int)≤(q.a:Nat);omega,by show ((q.a:Nat):Int)<_;omega⟩
 ·intro e' he'
  have he2:e' < m.E.length:=he'
  show -2147483648≤sgn (m.at e').w∧sgn (m.at e').w≤2147483647
  rw [RM.Q19 (List.getElem?_eq_getElem he2)]
  obtain ⟨_,_,_,_,_,_,k7,_⟩:=he _ (List.getElem_mem he2)
  unfold sgn
  split<;>omega
theorem RM.mv (hp:∀p∈m.P,p.1<4294967296∧p.2<256) (he:∀x∈m.E,x.ok) (hP:m.P.length≤1000000) (hE:m.E.length≤1000000) (v:VA w vb m.P.length 2 (m.P.flatMap pcl)) (e:VA w eb m.E.length 2 ((m.E.map epl).flatMap pcl)) (l:VA w lb m.E.length 5 (m.E.flatMap ecl)):MV w (m.mdl vb vc eb ec lb lc):=by
 have h0:=RM.mv0 (vc:=vc) (ec:=ec) (lc:=lc) hp he v e l
 refine ⟨?_,?_,?_,h0.x,h0.y,h0.d,by rw [RM.lX];omega,by rw [RM.lY];omega,by show m.E.length≤_;omega⟩
 ·rw [RM.lX,RM.xz];exact v
 ·rw [RM.lY,RM.yz];exact e
 ·show VA w lb m.E.length 5 (recs _ m.E.length)
  rw [RM.lz];exact l
def RM.good (m:RM):Prop:=(m.mdl none 0 none 0 none 0).good
theorem RM.Qyw:(m.mdl vb vc eb ec lb lc).good↔m.good:=Iff.rfl
end
theorem Qsq {xs:List Nat}:rdM xs=(rdN 4 xs).bind fun n=>(rdN 4 n.2).bind fun k=>(rep rdPl k.1 k.2).bind fun P=>(rdN 4 P.2).bind fun j=>(rep rdE j.1 j.2).bind fun E=>if E.2=[] then some ⟨n.1,P.1,E.1⟩ else none:=by
 unfold rdM
 simp only [Q34,Q0n]
theorem rdX_rep {xs:List Nat}:rdX xs=(rep (rdN 4) 5 xs).bind fun l=>match l.1 with | [a,b,c,d,e]=>some ((a,b,c,d,e),l.2) | _=>none:=by
 unfold rdX
 simp only [rep,Option.bind_assoc,Option.bind_some]
theorem Zg3:ET Pg 22 113 2 16:=ET.of (by kernel_rfl) (by kernel_rfl)
theorem Zl5:ET Pg 23 109 5 20:=ET.of (by kernel_rfl) (by kernel_rfl)
section
variable {w w':World} {n c k:Nat} {b:Option Addr} {xs ys:List Nat}
theorem z17 {A:Nat} {cs:List Value} {K:Int→Option Addr→Nat→Nat→Option Addr→Nat→Nat→Option Addr→Nat→Nat→World→Prop} (r:Row w.heap A 25 cs) (hl:cs.length=4) (k:∀w',Chg (·=A) w w'→K 0 none 0 0 none 0 0 none 0 0 w'):sts ⟨A,0,none⟩ 0 [.int .i64 0,.slice none 0 0,.slice none 0 0,.slice none 0 0] w fun w'=>Qbn ⟨A,0,none⟩ w' fun n b l c b' l' c' b'' l'' c''=>K n b l c b' l' c' b'' l'' c'' w':=
 Qd3 r (by rw [hl];rfl) (by intro v hv;simp at hv;rcases hv with rfl | rfl<;>rfl) fun w' c' r'=>by
  unfold Qbn
  rw [Qad,Qad,Qad]
  exact Qaf r' rfl (Qai r' rfl (Qai r' rfl (Qai r' rfl (k w' c'))))
theorem ldR17 {A:Nat} {t:TypeId} {n:Int} {b1 b2 b3:Option Addr} {l1 l2 l3 c1 c2 c3:Nat} (r:Row w.heap A t [.int .i64 n,.slice b1 l1 c1,.slice b2 l2 c2,.slice b3 l3 c3]) {K:Int→Option Addr→Nat→Nat→Option Addr→Nat→Nat→Option Addr→Nat→Nat→Prop} (k:K n b1 l1 c1 b2 l2 c2 b3 l3 c3):Qbn ⟨A,0,none⟩ w K:=by
 unfold Qbn
 rw [Qad,Qad,Qad]
 exact Qaf r rfl (Qai r rfl (Qai r rfl (Qai r rfl k)))
theorem Zln {A:Nat} {t:TypeId} {a b c d e:Int} (r:Row w.heap A t [.int .u32 a,.int .u32 b,.int .u32 c,.int .u32 d,.int .i32 e]) {K:Int→Int→Int→Int→Int→Prop} (k:K a b c d e):Qew ⟨A,0,none⟩ w K:=
 Qaf r rfl (Qaf r rfl (Qaf r rfl (Qaf r rfl (Qaf r rfl k))))
def DR (xs:List Nat) (v:Value) (w:World):Prop:=
 (∃(m:RM) (vb:Option Addr) (vc:Nat) (eb:Option Addr) (ec:Nat) (lb:Option Addr) (lc:Nat),rdM xs=some m∧m.good∧v=.tuple #[(m.mdl vb vc eb ec lb lc).val,.bool true]∧MV0 w (m.mdl vb vc eb ec lb lc))∨
 ((∀m,rdM xs=some m→¬m.good)∧v=.tuple #[.agg #[.int .i64 0,.slice none 0 0,.slice none 0 0,.slice none 0 0],.bool false])
theorem Zl4 {V:List Nat} {v:Nat} (h:V.length<5):((V++List.replicate (5-V.length) 0).map fun (x:Nat)=>Value.int .u32 (x:Int)).set V.length (.int .u32 (v:Int))=((V++[v])++List.replicate (5-(V.length+1)) 0).map fun (x:Nat)=>Value.int .u32 (x:Int):=by
 rw [show 5-V.length=(5-(V.length+1))+1 by omega,List.replicate_succ]
 simp
set_option maxRecDepth 4000 in
theorem Zea (h:CV w b xs.length 1 (bys xs)) (hb:Bt xs) (hl:xs.length≤1500) (hc:xs.length≤c):Calls Pg 18 #[.slice b xs.length c] w fun r w'=>∃v',r=.returned v'∧Chg Qaa w w'∧DR xs v' w':=by
 refine (Qq2 _ _ _ _ (fun v' w'=>Chg Qaa w w'∧DR xs v' w') ?_).mono (by rintro e w' ⟨v,rfl,k⟩;exact ⟨v,rfl,k⟩)
 unfold Qkb nr
 refine Qak fun A w2 hA c2 r2=>?_
 have fl:∀{u:World} {cs:List Value},Chg Qaa w u→Row u.heap A 25 cs→cs.length=4→(∀m,rdM xs=some m→¬m.good)→sts ⟨A,0,none⟩ 0 [.int .i64 0,.slice none 0 0,.slice none 0 0,.slice none 0 0] u fun w'=>Qbn ⟨A,0,none⟩ w' fun n b l c b' l' c' b'' l'' c''=>Chg Qaa w w'∧DR xs (.tuple #[.agg #[.int .i64 n,.slice b l c,.slice b' l' c',.slice b'' l'' c''],.bool false]) w':=fun cu ru hl hno=>
  z17 (K:=fun n b l c b' l' c' b'' l'' c'' w'=>Chg Qaa w w'∧DR xs (.tuple #[.agg #[.int .i64 n,.slice b l c,.slice b' l' c',.slice b'' l'' c''],.bool false]) w') ru hl fun w' c'=>⟨cu.trans' c' fun k e=>.inr (by omega),.inr ⟨hno,rfl⟩⟩
 have none_no:rdM xs=none→∀m,rdM xs=some m→¬m.good:=fun e m hm=>by rw [e] at hm;cases hm
 have s2:=c2.size
 have l2:=r2.lt
 refine (Qzw (k:=0) (n:=4) (h.nob c2) hb (by omega) (by omega) (by omega) (by omega) hc).mono ?_
 rintro r w5 ⟨n,y4,rfl,hn,c5,g5⟩
 rw [List.drop_zero] at g5
 refine ⟨_,_,rfl,(Qzw (k:=4) (n:=4) ((h.nob c2).nob c5) hb (by omega) (by omega) (by omega) (by omega) hc).mono ?_⟩
 rintro r w9 ⟨k,y8,rfl,hk,c9,g9⟩
 have hn':n<4294967296:=hn
 have hk':k<4294967296:=hk
 have r9:=c9.row (fun h=>h) (c5.row (fun h=>h) r2)
 have c09:=(c2.trans c5).trans c9
 have t5:y4=true→rdN 4 xs=some (n,xs.drop 4):=fun e=>(g5.1 (by rw [e];rfl)).2
 have t9:y8=true→rdN 4 (xs.drop 4)=some (k,xs.drop 8):=fun e=>(g9.1 (by rw [e];rfl)).2
 refine ⟨_,_,rfl,fun us w'=>us=[]∧w'=w9∧y4=true∧y8=true∧k≤xs.length,Qac (fun e=>fl c09 r9 rfl (none_no ?_)) (fun e=>Qac (fun e2=>fl c09 r9 rfl (none_no ?_)) (fun e2=>Qac (fun e3=>fl c09 r9 rfl (none_no ?_)) (fun e3=>⟨rfl,rfl,by simpa using e,by simpa using e2,?_⟩))),?_⟩
 ·rw [Qsq,(g5.2 e).resolve_left (by simp)];rfl
 ·rw [Qsq,t5 (by simpa using e)]
  simp only [Option.bind_some]
  rw [(g9.2 e2).resolve_left (by simp)];rfl
 ·rw [Qsq,t5 (by simpa using e)]
  simp only [Option.bind_some]
  rw [t9 (by simpa using e2)]
  simp only [Option.bind_some]
  cases hr:rep rdPl k (xs.drop 8) with
  | none=>rfl
  | some l=>
   have:=(Q31 Q32 (l:=l.1) (r:=l.2) hr).1
   rw [List.length_drop] at this
   rw [wrap_u64 (by omega) (by omega)] at e3
   simp only [b1s] at e3
   omega
 ·rw [wrap_u64 (by omega) (by omega)] at e3
  simp only [b1s] at e3
  omega
 rintro _ w27 ⟨_,rfl,y4t,y8t,hkl⟩
 have e5:=t5 y4t
 have e9:=t9 y8t
 have l8:8≤xs.length:=by
  have u1:=Qg2 e9
  have u2:=Qg2 e5
  simp only [List.length_drop] at u1 u2
  omega
 refine Qak fun B w29 hB c29 r29=>?_
 rw [wrap64_in (x:=(n:Int)) (by omega) (by omega),wrap64_in (x:=(k:Int)) (by omega) (by omega)]
 refine Qd3 r29 rfl (by intro v hv;simp at hv;rcases hv with rfl | rfl<;>rfl) fun w30 c30 r30=>?_
 have s9:=c09.size
 have s29:=c29.size
 have s30:=c30.size
 have l30:=r30.lt
 have r30A:=c30.row (by have:=r9.lt;omega) (c29.row (fun h=>h) r9)
 have c030:Chg Qaa w w30:=(c09.trans c29).trans' c30 fun k e=>.inr (by omega)
 have hAB:A≠B:=by have:=r9.lt;omega
 have noP:∀{i:Nat},i≤k→rep rdPl i (xs.drop 8)=none→rdM xs=none:=fun hi hr=>by
  rw [Qsq,e5]
  simp only [Option.bind_some]
  rw [e9]
  simp only [Option.bind_some]
  rw [Q30 hr hi];rfl
 let J:Nat→List Value→World→Prop:=fun j us w'=>∃(i:Nat) (P:List (Nat × Nat)) (vb:Option Addr) (vc:Nat),us=[.int .i64 ((8+5*i:Nat):Int),.int .i64 i]∧i≤k∧P.length=i∧rep rdPl i (xs.drop 8)=some (P,xs.drop (8+5*i))∧8+5*i≤xs.length∧Row w'.heap B 25 [.int .i64 n,.slice vb i vc,.slice none 0 0,.slice none 0 0]∧Own w' w30.heap.size 113 2 vb i vc (P.flatMap pcl)∧Chg (·=B) w30 w'∧j=k-i
 refine ⟨LI J,LM J,⟨_,0,[],none,0,rfl,Nat.zero_le _,rfl,rfl,l8,r30,Own.nil,Chg.refl _ _,rfl⟩,?_⟩
 intro _ n33 n34 w35 hJ
 obtain ⟨i,P,vb,vc,hus,hi,hPl,hrep,hil,r35,o35,c35,hj⟩:=hJ.at
 simp only [vj] at hus
 obtain ⟨rfl,rfl⟩:=hus
 have c035:Chg Qaa w w35:=c030.trans' c35 fun k e=>.inr (by omega)
 have r35A:=c35.row hAB r30A
 have s35:=c35.size
 refine Qac (fun hlt=>?_) (fun hlt=>?_)<;>simp only [b1s] at hlt
 ·rw [wrap64_in (x:=((8+5*i:Nat):Int)+4) (by omega) (by omega),wrap64_in (x:=((8+5*i:Nat):Int)+5) (by omega) (by omega),wrap64_in (x:=(i:Int)+1) (by omega) (by omega),show ((8+5*i:Nat):Int)+4=((8+5*i+4:Nat):Int) by omega]
  refine (Qzw (k:=8+5*i) (n:=4) (h.nob c035) hb (by omega) (by omega) (by omega) (by omega) hc).mono ?_
  rintro r w38 ⟨a,ya,rfl,ha,c38,g38⟩
  refine ⟨_,_,rfl,(Qzw (k:=8+5*i+4) (n:=1) ((h.nob c035).nob c38) hb (by omega) (by omega) (by omega) (by omega) hc).mono ?_⟩
  rintro r w42 ⟨s,ys,rfl,hs,c42,g42⟩
  have ha':a<4294967296:=ha
  have hs':s<256:=hs
  have c042:=(c035.trans c38).trans c42
  have r42A:=c42.row (fun h=>h) (c38.row (fun h=>h) r35A)
  have r42:=c42.row (fun h=>h) (c38.row (fun h=>h) r35)
  have o42:=(o35.keep c38 fun _ _ h=>h).keep c42 fun _ _ h=>h
  have s38:=c38.size
  have s42:=c42.size
  refine ⟨_,_,rfl,fun us w'=>us=[]∧w'=w42∧ya=true∧ys=true,Qac (fun e=>fl c042 r42A rfl (none_no (noP (i:=i+1) (by omega) ?_))) (fun e=>Qac (fun e2=>fl c042 r42A rfl (none_no (noP (i:=i+1) (by omega) ?_))) (fun e2=>⟨rfl,rfl,by simpa using e,by simpa using e2⟩)),?_⟩
  ·rw [Qhu,hrep]
   simp only [Option.bind_some]
   unfold rdPl
   rw [(g38.2 e).resolve_left (by simp)];rfl
  ·rw [Qhu,hrep]
   simp only [Option.bind_some]
   unfold rdPl
   rw [(g38.1 (by simpa using e)).2]
   simp only [Option.bind_some]
   rw [(g42.2 e2).resolve_left (by simp)];rfl
  rintro _ w55 ⟨_,rfl,yat,yst⟩
  have q1:=(g38.1 (by rw [yat];rfl)).2
  have q2:=(g42.1 (by rw [yst];rfl)).2
  have hq:rdPl (xs.drop (8+5*i))=some ((a,s),xs.drop (8+5*(i+1))):=by
   unfold rdPl
   rw [q1]
   simp only [Option.bind_some]
   rw [q2];rfl
  have hq2:=Qg2 q2
  have hq1:=Qg2 q1
  rw [List.length_drop,List.length_drop] at hq1 hq2
  rw [Qad]
  refine Qai r42 rfl (Qak fun T w58 hT c58 r58=>?_)
  have s58:=c58.size
  rw [Qgx (x:=(a:Int)) (by omega) (by omega),wrap64_in (x:=(s:Int)) (by omega) (by omega)] at r58
  obtain ⟨b2,d2,w60,hrun,o60,c60,hw60⟩:=Qaw (ty:=22) Zg3 (o42.keep c58 fun _ _ h=>h) r58 rfl (by intro u hu;simp at hu;rcases hu with rfl | rfl<;>rfl) (by omega) (by omega) (by omega)
  have hnb:∀g,bk vb=some g→w30.heap.size≤g:=fun g hg=>(o35.Qar hg).1
  have r60:=c60.row (fun e=>by have:=hnb _ e;omega) (c58.row (fun h=>h) r42)
  have s60:=c60.size
  refine ⟨b2,_,d2,w60,hrun,Qao r60 (by simp) rfl fun w61 c61 r61=>?_⟩
  have hb2:∀g,bk b2=some g→w30.heap.size≤g:=fun g hg=>(o60.Qar hg).1
  refine LI.again (k:=k-(i+1)) ⟨i+1,P++[(a,s)],b2,d2,?_,by omega,by simp [hPl],?_,by omega,r61,?_,?_,rfl⟩ (by rw [hj];omega)
  ·rw [show ((8+5*(i+1):Nat):Int)=((8+5*i:Nat):Int)+5 by omega];rfl
  ·rw [Qhu,hrep]
   simp only [Option.bind_some]
   rw [hq];rfl
  ·rw [List.flatMap_append]
   have:=o60.keep c61 fun g hg e=>by have:=hb2 g hg;omega
   simpa [pcl] using this
  ·exact (((c35.trans c38.weak).trans c42.weak).trans c58.weak).trans' c60 (fun g hg=>.inr (hnb g hg)) |>.trans c61
 have hik:i=k:=by omega
 subst hik
 have hPb:=Q33 (hb.drop 8) (Q34.trans hrep)
 refine (Qzw (k:=8+5*i) (n:=4) (h.nob c035) hb (by omega) (by omega) (by omega) (by omega) hc).mono ?_
 rintro r w64 ⟨q,yq,rfl,hq,c64,g64⟩
 have hq':q<4294967296:=hq
 have c064:=c035.trans c64
 have r64A:=c64.row (fun h=>h) r35A
 have r64:=c64.row (fun h=>h) r35
 have o64:=o35.keep c64 fun _ _ h=>h
 have s64:=c64.size
 have tq:yq=true→rdN 4 (xs.drop (8+5*i))=some (q,xs.drop (8+5*i+4)):=fun e=>(g64.1 (by rw [e];rfl)).2
 refine ⟨_,_,rfl,fun us w'=>us=[]∧w'=w64∧yq=true∧q≤xs.length,Qac (fun e=>fl c064 r64A rfl (none_no ?_)) (fun e=>Qac (fun e3=>fl c064 r64A rfl (none_no ?_)) (fun e3=>⟨rfl,rfl,by simpa using e,?_⟩)),?_⟩
 ·rw [Qsq,e5]
  simp only [Option.bind_some]
  rw [e9]
  simp only [Option.bind_some]
  rw [hrep]
  simp only [Option.bind_some]
  rw [(g64.2 e).resolve_left (by simp)];rfl
 ·rw [Qsq,e5]
  simp only [Option.bind_some]
  rw [e9]
  simp only [Option.bind_some]
  rw [hrep]
  simp only [Option.bind_some]
  rw [tq (by simpa using e)]
  simp only [Option.bind_some]
  cases hr:rep rdE q (xs.drop (8+5*i+4)) with
  | none=>rfl
  | some l=>
   have:=(Q31 Zai (l:=l.1) (r:=l.2) hr).1
   rw [List.length_drop] at this
   rw [wrap_u64 (by omega) (by omega)] at e3
   simp only [b1s] at e3
   omega
 ·rw [wrap_u64 (by omega) (by omega)] at e3
  simp only [b1s] at e3
  omega
 rintro _ w77 ⟨_,rfl,yqt,hql⟩
 have eq4:=tq yqt
 have lq:8+5*i+4≤xs.length:=by
  have:=Qg2 eq4
  rw [List.length_drop,List.length_drop] at this
  omega
 rw [wrap64_in (x:=(q:Int)) (by omega) (by omega),wrap64_in (x:=((8+5*i:Nat):Int)+4) (by omega) (by omega)]
 have noE:∀{j:Nat},j≤q→rep rdE j (xs.drop (8+5*i+4))=none→rdM xs=none:=fun hj hr=>by
  rw [Qsq,e5]
  simp only [Option.bind_some]
  rw [e9]
  simp only [Option.bind_some]
  rw [hrep]
  simp only [Option.bind_some]
  rw [eq4]
  simp only [Option.bind_some]
  rw [Q30 hr hj];rfl
 generalize hat0:8+5*i+4=at0 at *
 rw [show ((8+5*i:Nat):Int)+4=(at0:Int) by omega]
 have nvb:∀g,bk vb=some g→w30.heap.size≤g∧g<w77.heap.size:=fun g hg=>by have:=o35.Qar hg;omega
 let J2:Nat→List Value→World→Prop:=fun jj us w'=>∃(at1 j:Nat) (E:List ER) (eb:Option Addr) (ec:Nat) (lb:Option Addr) (lc:Nat),us=[.int .i64 at1,.int .i64 j]∧j≤q∧E.length=j∧rep rdE j (xs.drop at0)=some (E,xs.drop at1)∧at1≤xs.length∧Row w'.heap B 25 [.int .i64 n,.slice vb i vc,.slice eb j ec,.slice lb j lc]∧Own w' w77.heap.size 113 2 eb j ec ((E.map epl).flatMap pcl)∧Own w' w77.heap.size 109 5 lb j lc (E.flatMap ecl)∧Apart eb lb∧Chg (·=B) w77 w'∧jj=q-j
 refine ⟨LI J2,LM J2,⟨_,at0,0,[],none,0,none,0,rfl,Nat.zero_le _,rfl,rfl,lq,r64,Own.nil,Own.nil,Apart.nil,Chg.refl _ _,rfl⟩,?_⟩
 intro _ n80 n81 w82 hJ2
 obtain ⟨at1,j,E,eb,ec,lb,lc,hus,hjq,hEl,hrepE,hat1,r82,oe82,ol82,hap,c82,hjj⟩:=hJ2.at
 simp only [vj] at hus
 obtain ⟨rfl,rfl⟩:=hus
 have lB77:B<w77.heap.size:=r64.lt
 have c082:Chg Qaa w w82:=c064.trans' c82 fun k e=>.inr (by omega)
 have r82A:=c82.row hAB r64A
 have s82:=c82.size
 have neb:∀g,bk eb=some g→w77.heap.size≤g∧g<w82.heap.size:=fun g hg=>oe82.Qar hg
 have nlb:∀g,bk lb=some g→w77.heap.size≤g∧g<w82.heap.size:=fun g hg=>ol82.Qar hg
 refine Qac (fun hlt=>?_) (fun hlt=>?_)<;>simp only [b1s] at hlt
 ·rw [wrap64_in (x:=(at1:Int)+4) (by omega) (by omega),wrap64_in (x:=(at1:Int)+5) (by omega) (by omega),wrap64_in (x:=(j:Int)+1) (by omega) (by omega),show (at1:Int)+4=((at1+4:Nat):Int) by omega]
  refine (Qzw (k:=at1) (n:=4) (h.nob c082) hb (by omega) (by omega) (by omega) (by omega) hc).mono ?_
  rintro r w85 ⟨a,ya,rfl,ha,c85,g85⟩
  refine ⟨_,_,rfl,(Qzw (k:=at1+4) (n:=1) ((h.nob c082).nob c85) hb (by omega) (by omega) (by omega) (by omega) hc).mono ?_⟩
  rintro r w89 ⟨s,ys,rfl,hs,c89,g89⟩
  have ha':a<4294967296:=ha
  have hs':s<256:=hs
  have c8289:=c85.trans c89
  have c089:=c082.trans c8289
  have r89A:=c8289.row (fun h=>h) r82A
  have r89:=c8289.row (fun h=>h) r82
  have s89:=c8289.size
  have nE:rdE (xs.drop at1)=none→rdM xs=none:=fun e=>noE (j:=j+1) (by omega) (by rw [Qhu,hrepE];simp only [Option.bind_some];rw [e];rfl)
  refine ⟨_,_,rfl,fun us w'=>us=[]∧w'=w89∧ya=true∧ys=true,Qac (fun e=>fl c089 r89A rfl (none_no (nE ?_))) (fun e=>Qac (fun e2=>fl c089 r89A rfl (none_no (nE ?_))) (fun e2=>⟨rfl,rfl,by simpa using e,by simpa using e2⟩)),?_⟩
  ·rw [Qzv]
   unfold rdPl
   rw [(g85.2 e).resolve_left (by simp)];rfl
  ·rw [Qzv]
   unfold rdPl
   rw [(g85.1 (by simpa using e)).2]
   simp only [Option.bind_some]
   rw [(g89.2 e2).resolve_left (by simp)];rfl
  rintro _ w102 ⟨_,rfl,yat,yst⟩
  have q1:=(g85.1 (by rw [yat];rfl)).2
  have q2:=(g89.1 (by rw [yst];rfl)).2
  have hq:rdPl (xs.drop at1)=some ((a,s),xs.drop (at1+5)):=by
   unfold rdPl
   rw [q1]
   simp only [Option.bind_some]
   rw [q2];rfl
  have hq2:=Qg2 q2
  have hq1:=Qg2 q1
  simp only [List.length_drop] at hq1 hq2
  have hat5:at1+5≤xs.length:=by omega
  rw [Qad]
  refine Qai r89 rfl (Qak fun T w105 hT c105 r105=>?_)
  have s105:=c105.size
  rw [Qgx (x:=(a:Int)) (by omega) (by omega),wrap64_in (x:=(s:Int)) (by omega) (by omega)] at r105
  have oe105:=(oe82.keep c8289 fun _ _ h=>h).keep c105 fun _ _ h=>h
  have ol105:=(ol82.keep c8289 fun _ _ h=>h).keep c105 fun _ _ h=>h
  obtain ⟨b2,d2,w107,hrun,o107,c107,hw107⟩:=Qaw (ty:=22) Zg3 oe105 r105 rfl (by intro u hu;simp at hu;rcases hu with rfl | rfl<;>rfl) (by omega) (by omega) (by omega)
  have r107:=c107.row (fun e=>by have:=neb _ e;omega) (c105.row (fun h=>h) r89)
  have s107:=c107.size
  refine ⟨b2,_,d2,w107,hrun,Qao r107 (by simp) rfl fun w108 c108 r108=>Qak fun P2 w110 hP2 c110 r110=>?_⟩
  have s108:=c108.size
  have s110:=c110.size
  have hb2:∀g,bk b2=some g→w77.heap.size≤g∧g<w107.heap.size:=fun g hg=>o107.Qar hg
  have hap2:Apart b2 lb:=hap.app hw107 fun k hk=>by have:=nlb _ hk;omega
  have oe110:=(o107.keep c108 fun g hg e=>by have:=hb2 g hg;omega).keep c110 fun _ _ h=>h
  have ol110:=((ol105.keep c107 fun g hg e=>hap g e hg).keep c108 fun g hg e=>by have:=nlb g hg;omega).keep c110 fun _ _ h=>h
  have r110B:=c110.row (fun h=>h) r108
  have cB:Chg (·=B) w77 w110:=((((c82.trans c8289.weak).trans c105.weak).trans' c107 fun g hg=>.inr (neb g hg).1).trans c108).trans c110.weak
  have eE:((E.map epl).flatMap pcl)++[.int .u32 (a:Nat),.int .i64 (s:Nat)]=((E.map epl)++[(a,s)]).flatMap pcl:=by rw [List.flatMap_append];simp [pcl]
  rw [eE] at oe110
  have fin:∀{u:World} {at2:Nat} {x:ER},x.a=a→x.s=s→rdE (xs.drop at1)=some (x,xs.drop at2)→at2≤xs.length→Chg (·=P2) w110 u→Row u.heap P2 109 (ecl x)→
    ldS ((⟨B,0,none⟩:Addr).add 3) u fun s143b s143l s143c=>Qew ⟨P2,0,none⟩ u fun n144 n145 n146 n147 n148=>alo #[.int .u32 n144,.int .u32 n145,.int .u32 n146,.int .u32 n147,.int .i32 n148] 109 u fun a149 w150=>
     ∃s151b s151l s151c w152,(Builtin.append_ #[23,23] 23 #[.slice s143b s143l s143c,.slice (some a149) 1 1]).run Pg w150=.ok (.slice s151b s151l s151c) w152∧
     sto ((⟨B,0,none⟩:Addr).add 3) (.slice s151b s151l s151c) w152 fun w153=>(LI J2 [.int .i64 at2,.int .i64 ((j:Int)+1)] w153∧LM J2 [.int .i64 at2,.int .i64 ((j:Int)+1)] w153<LM J2 [.int .i64 at1,.int .i64 j] w82):=by
   intro u at2 x hxa hxs hx hat2 cu rQ
   rw [Qad]
   have ru:=cu.row (by omega) r110B
   have su:=cu.size
   refine Qai ru rfl (Zln rQ (Qak fun V w150 hV c150 r150=>?_))
   have s150:=c150.size
   obtain ⟨b3,d3,w152,hrun3,o152,c152,hw152⟩:=Qaw (ty:=23) Zl5 ((ol110.keep cu fun g hg e=>by have:=nlb g hg;omega).keep c150 fun _ _ h=>h) r150 rfl (by intro u hu;simp at hu;rcases hu with rfl | rfl | rfl | rfl | rfl<;>rfl) (by omega) (by omega) (by omega)
   have r152:=c152.row (fun e=>by have:=nlb _ e;omega) (c150.row (fun h=>h) ru)
   have s152:=c152.size
   refine ⟨b3,_,d3,w152,hrun3,Qao r152 (by simp) rfl fun w153 c153 r153=>?_⟩
   have hb3:∀g,bk b3=some g→w77.heap.size≤g:=fun g hg=>(o152.Qar hg).1
   refine LI.again (k:=q-(j+1)) ⟨at2,j+1,E++[x],b2,d2,b3,d3,rfl,by omega,by simp [hEl],?_,hat2,r153,?_,?_,?_,?_,rfl⟩ (by rw [hjj];omega)
   ·rw [Qhu,hrepE]
    simp only [Option.bind_some]
    rw [hx];rfl
   ·have e1:(E++[x]).map epl=E.map epl++[(a,s)]:=by rw [List.map_append];simp [epl,hxa,hxs]
    rw [e1]
    exact (((oe110.keep cu fun g hg e=>by have:=hb2 g hg;omega).keep c150 fun _ _ h=>h).keep c152 fun g hg e=>hap2 g hg e).keep c153 fun g hg e=>by have:=hb2 g hg;omega
   ·have e1:(E++[x]).flatMap ecl=E.flatMap ecl++[.int .u32 (x.f0:Nat),.int .u32 (x.f1:Nat),.int .u32 (x.n0:Nat),.int .u32 (x.n1:Nat),.int .i32 (sgn x.w)]:=by rw [List.flatMap_append];simp [ecl]
    rw [e1]
    exact o152.keep c153 fun g hg e=>by have:=hb3 g hg;omega
   ·exact ((hap2.symm).app hw152 fun k hk=>by have:=hb2 _ hk;omega).symm
   ·exact ((((cB.trans' cu fun k e=>.inr (by omega)).trans c150.weak).trans' c152 fun g hg=>.inr (nlb g hg).1).trans c153)
  refine Qac (fun k1=>?_) (fun k1=>?_)<;>simp only [b1s] at k1
  ·have hs1:s=1:=by omega
   refine Qak fun D w112 hD c112 r112=>?_
   have s112:=c112.size
   let J3:Nat→List Value→World→Prop:=fun jj us w'=>∃(t:Nat) (V:List Nat),us=[.int .i64 ((at1+5+4*t:Nat):Int),.int .i64 t]∧t≤5∧V.length=t∧rep (rdN 4) t (xs.drop (at1+5))=some (V,xs.drop (at1+5+4*t))∧(∀x∈V,x<4294967296)∧at1+5+4*t≤xs.length∧Row w'.heap D 136 ((V++List.replicate (5-t) 0).map fun (x:Nat)=>Value.int .u32 (x:Int))∧Chg (·=D) w112 w'∧jj=5-t
   refine ⟨LI J3,LM J3,⟨_,0,[],by rw [show ((at1+5+4*0:Nat):Int)=(at1:Int)+5 by omega];rfl,by omega,rfl,rfl,fun x hx=>(by cases hx),hat5,r112,Chg.refl _ _,rfl⟩,?_⟩
   intro _ n115 n116 w117 hJ3
   obtain ⟨t,V,hus,ht,hVl,hrepV,hV32,hatt,r117,c117,hjt⟩:=hJ3.at
   simp only [vj] at hus
   obtain ⟨rfl,rfl⟩:=hus
   have s117:=c117.size
   have c10117:Chg Qaa w110 w117:=c112.trans' c117 fun k e=>.inr (by omega)
   have cB117:Chg (·=B) w77 w117:=cB.trans c10117.weak
   have c0117:Chg Qaa w w117:=c064.trans' cB117 fun k e=>.inr (by omega)
   have r117A:=cB117.row hAB r64A
   refine Qac (fun hlt3=>?_) (fun hlt3=>?_)<;>simp only [b1s] at hlt3
   ·refine (Qzw (k:=at1+5+4*t) (n:=4) (h.nob c0117) hb (by omega) (by omega) (by omega) (by omega) hc).mono ?_
    rintro r w120 ⟨v,yv,rfl,hv,c120,g120⟩
    have hv':v<4294967296:=hv
    refine ⟨_,_,rfl,Qac (fun e=>fl (c0117.trans c120) (c120.row (fun h=>h) r117A) rfl (none_no (nE ?_))) (fun e=>?_)⟩
    ·rw [Qzv,hq]
     simp only [Option.bind_some]
     rw [if_pos hs1,rdX_rep,Q30 (i:=t+1) (n:=5) (by rw [Qhu,hrepV];simp only [Option.bind_some];rw [(g120.2 e).resolve_left (by simp)];rfl) (by omega)]
     rfl
    ·have qv:=(g120.1 (by simpa using e)).2
     have lv:=Qg2 qv
     simp only [List.length_drop] at lv
     rw [Qgx (x:=(v:Int)) (by omega) (by omega),wrap64_in (x:=((at1+5+4*t:Nat):Int)+4) (by omega) (by omega),wrap64_in (x:=(t:Int)+1) (by omega) (by omega)]
     refine Qcb (by omega) (Qao (c120.row (fun h=>h) r117) (by simp [hVl];omega) rfl fun w128 c128 r128=>?_)
     refine LI.again (k:=5-(t+1)) ⟨t+1,V++[v],?_,by omega,by simp [hVl],?_,?_,by omega,?_,(c117.trans c120.weak).trans c128,rfl⟩ (by rw [hjt];omega)
     ·rw [show ((at1+5+4*(t+1):Nat):Int)=((at1+5+4*t:Nat):Int)+4 by omega];rfl
     ·rw [Qhu,hrepV]
      simp only [Option.bind_some]
      rw [qv];rfl
     ·intro x hx
      rcases List.mem_append.1 hx with hx | hx
      ·exact hV32 x hx
      ·rw [List.mem_singleton] at hx;omega
     ·have e0:0+Int.toNat (t:Int)*1=V.length:=by omega
      rw [e0] at r128
      have:=Zl4 (V:=V) (v:=v) (by omega)
      rw [hVl] at this r128
      rwa [this] at r128
   ·have ht5:t=5:=by omega
    subst ht5
    obtain ⟨f0,n0,f1,n1,ww,rfl⟩:∃f0 n0 f1 n1 ww,V=[f0,n0,f1,n1,ww]:=by
     match V,hVl with
     | [f0,n0,f1,n1,ww],_=>exact ⟨_,_,_,_,_,rfl⟩
    have hww:ww<4294967296:=hV32 ww (by simp)
    have rD:Row w117.drew.heap D 136 ([f0,n0,f1,n1,ww].map fun (x:Nat)=>Value.int .u32 (x:Int)):=by
     exact r117
    have cdr:=c10117.drew
    have r117d:Row w117.drew.heap A 25 _:=r117A
    generalize w117.drew=w118 at *
    refine Qcb (i:=0) (by omega) (Qaf (n:=(f0:Nat)) rD rfl (Qcb (i:=2) (by omega) (Qaf (n:=(f1:Nat)) rD rfl (Qcb (i:=1) (by omega) (Qaf (n:=(n0:Nat)) rD rfl (Qcb (i:=3) (by omega) (Qaf (n:=(n1:Nat)) rD rfl (Qcb (i:=4) (by omega) (Qaf (n:=(ww:Nat)) rD rfl ?_)))))))))
    rw [wrap_u64 (n:=(ww:Int)) (by omega) (by omega)]
    refine (Zd8 hww).mono ?_
    rintro r w140 ⟨rfl,rfl⟩
    refine ⟨_,rfl,by rw [rD.cell];rfl,by rw [rD.cell];rfl,by rw [rD.cell];rfl,by rw [rD.cell];rfl,?_⟩
    refine Qd3 (cdr.row (fun h=>h) r110) rfl (by intro v hv;simp at hv;rcases hv with rfl | rfl | rfl | rfl | rfl<;>rfl) fun w142 c142 r142=>?_
    have c10142:Chg (·=P2) w110 w142:=cdr.weak.trans c142
    have hx:rdE (xs.drop at1)=some (⟨a,s,f0,n0,f1,n1,ww⟩,xs.drop (at1+5+4*5)):=by
     rw [Qzv,hq]
     simp only [Option.bind_some]
     rw [if_pos hs1,rdX_rep,hrepV];rfl
    exact fin rfl rfl hx (by omega) c10142 r142
  ·have hx:rdE (xs.drop at1)=some (⟨a,s,0,0,0,0,0⟩,xs.drop (at1+5)):=by
    rw [Qzv,hq]
    simp only [Option.bind_some]
    rw [if_neg (by omega)]
   have:=fin rfl rfl hx (by omega) (Chg.refl _ _) r110
   rw [show ((at1+5:Nat):Int)=(at1:Int)+5 by omega] at this
   exact this
 have hjq':j=q:=by omega
 subst hjq'
 have hEb:=Q1c (hb.drop at0) (Q0n.trans hrepE)
 have hm:rdM xs=if xs.drop at1=[] then some ⟨n,P,E⟩ else none:=by
  rw [Qsq,e5]
  simp only [Option.bind_some]
  rw [e9]
  simp only [Option.bind_some]
  rw [hrep]
  simp only [Option.bind_some]
  rw [eq4]
  simp only [Option.bind_some]
  rw [hrepE]
  rfl
 let m:RM:=⟨n,P,E⟩
 have ov82:=VA.Qa6 ((o64.keep c82 fun g hg e=>by have:=nvb g hg;omega))
 have hmv:MV0 w82 (m.mdl vb vc eb ec lb lc):=RM.mv0 hPb.2.2 hEb.2.2 (by show VA w82 vb P.length 2 _;rw [hPl];exact ov82) (by show VA w82 eb E.length 2 _;rw [hEl];exact VA.Qa6 oe82) (by show VA w82 lb E.length 5 _;rw [hEl];exact VA.Qa6 ol82)
 have hval:(m.mdl vb vc eb ec lb lc).val=.agg #[.int .i64 n,.slice vb i vc,.slice eb j ec,.slice lb j lc]:=by
  unfold Mdl.val
  rw [RM.lX,RM.lY]
  show Value.agg #[.int .i64 n,.slice vb P.length vc,.slice eb E.length ec,.slice lb E.length lc]=_
  rw [hPl,hEl]
 have hround:=Q1d hmv ⟨by rw [RM.lX];show P.length≤_;omega,by rw [RM.lY];show E.length≤_;omega,by show E.length≤_;omega⟩
 rw [hval] at hround
 refine ldR17 r82 (hround.mono ?_)
 rintro r w171 ⟨c171,rb,rl,rc,y,rfl,hy⟩
 have c0171:=c082.trans c171
 have r171A:=c171.row (fun h=>h) r82A
 refine ⟨_,_,_,_,rfl,Qac (fun k1=>fl c0171 r171A rfl (none_no ?_)) (fun k1=>Qac (fun k2=>fl c0171 r171A rfl ?_) (fun k2=>ldR17 (c171.row (fun h=>h) r82) ?_))⟩
 ·rw [hm,if_neg]
  intro e
  have:=congrArg List.length e
  rw [List.length_drop,List.length_nil] at this
  simp at k1
  omega
 ·intro m' hm' hgd
  rw [hm] at hm'
  split at hm'
  ·cases hm'
   have:=hy.2 (RM.Qyw.2 hgd)
   rw [this] at k2;cases k2
  ·cases hm'
 ·have hat:at1=xs.length:=by simp at k1;omega
  refine Qd3 r171A rfl (by intro v hv;simp at hv;rcases hv with rfl | rfl | rfl | rfl<;>rfl) fun w187 c187 r187=>ldR17 r187 ?_
  have c171187:Chg Qaa w w187:=c0171.trans' c187 fun k e=>.inr (by omega)
  refine ⟨c171187,.inl ⟨m,vb,vc,eb,ec,lb,lc,by rw [hm,if_pos (by rw [hat,List.drop_length])],RM.Qyw.1 (hy.1 (by simpa using k2)),by rw [hval],?_⟩⟩
  have ka:∀g,w30.heap.size≤g→¬g=A:=fun g hg e=>by have:=r9.lt;omega
  refine RM.mv0 hPb.2.2 hEb.2.2 (by show VA _ vb P.length 2 _;rw [hPl];exact (ov82.nob c171).keep c187 fun g _ hg=>ka g (nvb g hg).1) (by show VA _ eb E.length 2 _;rw [hEl];exact ((VA.Qa6 oe82).nob c171).keep c187 fun g _ hg=>ka g (by have:=neb g hg;omega)) (by show VA _ lb E.length 5 _;rw [hEl];exact ((VA.Qa6 ol82).nob c171).keep c187 fun g _ hg=>ka g (by have:=nlb g hg;omega))
end
section
variable {w w':World} {n c k:Nat} {b:Option Addr} {xs ys:List Nat}
theorem Zhg {b2:Option Addr} {c2:Nat} (h:CV w b xs.length 1 (bys xs)) (h2:CV w b2 xs.length 1 (bys xs)) (hp:0<xs.length):Calls Pg 126 #[.slice b xs.length c,.slice b2 xs.length c2] w fun r w'=>r=.returned (.bool true)∧w'=w:=by
 refine (Qzf _ _ _ _ _ _).go ?_
 unfold Qvp nr
 exact ⟨_,_,Zco h hp,_,_,Zco h2 hp,by rw [beq_self_eq_true],rfl⟩
theorem RD.new {A:Nat} (h:CV w b xs.length 1 (bys xs)) (hb:Bt xs) (hc:xs.length≤c) (hl:xs.length≤1000000) (hA:w.heap.size≤A) (r:Row w'.heap A 211 [.slice b xs.length c,.bool false]) (k:Chg Qaa w w'):RD w' A (fun g=>g<w.heap.size∧bk b=some g) xs false:=by
 refine ⟨b,c,r,h.nob k,hc,hl,hb,fun g h0 hg=>⟨?_,hg⟩,fun g hg=>⟨by omega,Nat.lt_of_lt_of_le hg.1 k.size⟩⟩
 rcases h with h1 | ⟨a,rfl,ha,_⟩
 ·omega
 ·cases hg;exact ha
theorem z17m {A:Nat} {cs:List Value} {K:Int→Option Addr→Nat→Nat→Option Addr→Nat→Nat→Option Addr→Nat→Nat→World→Prop} (r:Row w.heap A 36 cs) (hl:cs.length=4) (k:∀w',Chg (·=A) w w'→K 0 none 0 0 none 0 0 none 0 0 w'):sts ⟨A,0,none⟩ 0 [.int .i64 0,.slice none 0 0,.slice none 0 0,.slice none 0 0] w fun w'=>Qcy ⟨A,0,none⟩ w' fun n b l c b' l' c' b'' l'' c''=>K n b l c b' l' c' b'' l'' c'' w':=
 Qd3 r (by rw [hl];rfl) (by intro v hv;simp at hv;rcases hv with rfl | rfl<;>rfl) fun w' c' r'=>by
  unfold Qcy
  rw [Qad,Qad,Qad]
  exact Qaf r' rfl (Qai r' rfl (Qai r' rfl (Qai r' rfl (k w' c'))))
theorem ldRM {A:Nat} {t:TypeId} {n:Int} {b1 b2 b3:Option Addr} {l1 l2 l3 c1 c2 c3:Nat} (r:Row w.heap A t [.int .i64 n,.slice b1 l1 c1,.slice b2 l2 c2,.slice b3 l3 c3]) {K:Int→Option Addr→Nat→Nat→Option Addr→Nat→Nat→Option Addr→Nat→Nat→Prop} (k:K n b1 l1 c1 b2 l2 c2 b3 l3 c3):Qcy ⟨A,0,none⟩ w K:=by
 unfold Qcy
 rw [Qad,Qad,Qad]
 exact Qaf r rfl (Qai r rfl (Qai r rfl (Qai r rfl k)))
def DP (xs:List Nat) (v:Value) (w:World):Prop:=
 (∃(m:RM) (vb:Option Addr) (vc:Nat) (eb:Option Addr) (ec:Nat) (lb:Option Addr) (lc:Nat),rdM xs=some m∧m.good∧v=.tuple #[(m.mdl vb vc eb ec lb lc).val,errV 0]∧MV w (m.mdl vb vc eb ec lb lc))∨
 ((∀m,rdM xs=some m→¬m.good)∧v=.tuple #[.agg #[.int .i64 0,.slice none 0 0,.slice none 0 0,.slice none 0 0],errV 17])
def rdA (xs:List Nat):Option ((Nat × List (Nat × Nat) × List ER) × List Nat):=(rdN 4 xs).bind fun n=>(rdC n.2).bind fun k=>(rep rdPl k.1 k.2).bind fun P=>(rdC P.2).bind fun j=>(rep rdE j.1 j.2).bind fun E=>some ((n.1,P.1,E.1),E.2)
theorem Q6e {xs:List Nat}:rdM xs=(rdA xs).bind fun r=>if r.2=[] then some ⟨r.1.1,r.1.2.1,r.1.2.2⟩ else none:=by
 rw [Zkz]
 unfold rdA
 simp only [Option.bind_assoc,Option.bind_some]
set_option maxRecDepth 4000 in
theorem Zel (h:CV w b xs.length 1 (bys xs)) (hb:Bt xs) (hl:xs.length≤1000000) (hc:xs.length≤c):Calls Pg 58 #[.slice b xs.length c] w fun r w'=>∃v',r=.returned v'∧Chg Qaa w w'∧DP xs v' w':=by
 refine (Qx9 _ _ _ _ (fun v' w'=>Chg Qaa w w'∧DP xs v' w') ?_).mono (by rintro e w' ⟨v,rfl,k⟩;exact ⟨v,rfl,k⟩)
 unfold Qsk nr
 refine Qak fun A w2 hA c2 r2=>Qak fun Q w4 hQ c4 r4=>?_
 have s2:=c2.size
 have l2:=r2.lt
 have c04:=c2.trans c4
 have rd4:=RD.new (A:=Q) h hb hc hl (by omega) r4 c04
 generalize hGd:(fun g=>g<w.heap.size∧bk b=some g)=G at rd4
 have hG:∀g,G g→g<w.heap.size:=fun g hg=>by rw [←hGd] at hg;exact hg.1
 have fl:∀{u:World} {cs:List Value},Chg Qaa w u→Row u.heap A 36 cs→cs.length=4→(∀m,rdM xs=some m→¬m.good)→sts ⟨A,0,none⟩ 0 [.int .i64 0,.slice none 0 0,.slice none 0 0,.slice none 0 0] u fun w'=>Qcy ⟨A,0,none⟩ w' fun n b l c b' l' c' b'' l'' c''=>Chg Qaa w w'∧DP xs (.tuple #[.agg #[.int .i64 n,.slice b l c,.slice b' l' c',.slice b'' l'' c''],.iface 103 (.int .i64 17)]) w':=fun cu ru hl hno=>
  z17m (K:=fun n b l c b' l' c' b'' l'' c'' w'=>Chg Qaa w w'∧DP xs (.tuple #[.agg #[.int .i64 n,.slice b l c,.slice b' l' c',.slice b'' l'' c''],.iface 103 (.int .i64 17)]) w') ru hl fun w' c'=>⟨cu.trans' c' fun k e=>.inr (by omega),.inr ⟨hno,rfl⟩⟩
 refine (Qxn rd4 (n:=4) (by omega) (by omega)).mono ?_
 rintro r w6 ⟨n,y6,d6,rfl,hn,rd6,c6,g6⟩
 have hn':n<4294967296:=hn
 have s4:=c4.size
 have lQ4:=r4.lt
 have s6:=c6.size
 have c06:Chg Qaa w w6:=c04.trans' c6 fun k e=>.inr (by omega)
 have r6A:=c6.row (by omega) (c4.row (fun h=>h) r2)
 refine ⟨_,rfl,Qak fun B w9 hB c9 r9=>?_⟩
 rw [wrap64_in (x:=(n:Int)) (by omega) (by omega)]
 refine Qd3 r9 rfl (by intro v hv;simp at hv;rcases hv with rfl | rfl<;>rfl) fun w10 c10 r10=>?_
 have s9:=c9.size
 have s10:=c10.size
 have l10:=r10.lt
 have nAB:A≠B:=by omega
 have nAQ:A≠Q:=by omega
 have nBQ:B≠Q:=by omega
 have rd10:=(rd6.nob c9).keep c10 (by omega) fun g hg e=>by have:=hG g hg;omega
 have c010:Chg Qaa w w10:=(c06.trans c9).trans' c10 fun k e=>.inr (by omega)
 have r10A:=c10.row (by omega) (c9.row (fun h=>h) r6A)
 refine (Za4 rd10).mono ?_
 rintro r w12 ⟨k,y12,d12,rfl,hk,rd12,c12,g12⟩
 have s12:=c12.size
 have cX12:Chg (fun g=>g=Q∨g=B) w10 w12:=c12.mono fun _ _ e=>.inl e
 have r12:=c12.row (by omega) r10
 let J:Nat→List Value→World→Prop:=fun j us w'=>∃(i:Nat) (P:List (Nat × Nat)) (vb:Option Addr) (vc:Nat) (zs:List Nat) (d:Bool),us=[.int .i64 i]∧i≤k∧P.length=i∧Gd (rep rdPl i y12) d12 P zs d∧(∀p∈P,p.1<4294967296∧p.2<256)∧RD w' Q G zs d∧Row w'.heap B 36 [.int .i64 n,.slice vb i vc,.slice none 0 0,.slice none 0 0]∧Own w' w10.heap.size 120 2 vb i vc (P.flatMap pcl)∧Chg (fun g=>g=Q∨g=B) w10 w'∧j=k-i
 refine ⟨_,rfl,LI J,LM J,⟨_,0,[],none,0,y12,d12,rfl,Nat.zero_le _,rfl,Gd.pure,fun p hp=>(by cases hp),rd12,r12,Own.nil,cX12,rfl⟩,?_⟩
 intro _ n16 w17 hJ
 obtain ⟨i,P,vb,vc,zs,d,hus,hi,hPl,gP,hPb,rd17,r17,o17,c17,hj⟩:=hJ.at
 simp only [vj] at hus
 subst hus
 have s17:=c17.size
 have nvb:∀g,bk vb=some g→w10.heap.size≤g∧g<w17.heap.size:=fun g hg=>o17.Qar hg
 have nQB:∀g,w10.heap.size≤g→¬(g=Q∨g=B):=fun g hg e=>by omega
 have r17A:=c17.row (fun e=>by omega) r10A
 have c017:Chg Qaa w w17:=c010.trans' c17 fun g e=>.inr (by omega)
 refine Qac (fun hlt=>?_) (fun hlt=>?_)<;>simp only [b1s] at hlt
 ·have cdr:=c17.drew
  have r17d:Row w17.drew.heap B 36 _:=r17
  have rd17d:RD w17.drew Q G zs d:=rd17.nob (Chg.refl _ _).drew
  have o17d:Own w17.drew w10.heap.size 120 2 vb i vc (P.flatMap pcl):=o17.keep (S:=Qaa) (Chg.refl _ _).drew fun _ _ h=>h
  have szd:w17.drew.heap.size=w17.heap.size:=rfl
  generalize w17.drew=w18 at *
  rw [Qad]
  refine Qai r17d rfl ((Za2 rd17d).mono ?_)
  rintro r w21 ⟨a,s,zs2,d2,rfl,ha,hs,rd21,c21,g21⟩
  have r21:=c21.row (by omega) r17d
  have s21:=c21.size
  refine ⟨_,_,rfl,by rw [r21.cell];rfl,Qak fun T w24 hT c24 r24=>?_⟩
  have r24B:=c24.row (fun h=>h) r21
  have s24:=c24.size
  have o24:=(o17d.keep c21 fun g hg e=>by have:=nvb g hg;omega).keep c24 fun _ _ h=>h
  obtain ⟨b2,d3,w26,hrun,o26,c26,hw26⟩:=Qaw (ty:=33) Qx0 o24 r24 rfl (by intro u hu;simp at hu;rcases hu with rfl | rfl<;>rfl) (by omega) (by omega) (by omega)
  have s26:=c26.size
  have r26:=c26.row (fun e=>by have:=nvb _ e;omega) r24B
  refine ⟨by rw [r24B.cell];rfl,b2,_,d3,w26,hrun,Qao r26 (by simp) rfl fun w27 c27 r27=>?_⟩
  have hb2:∀g,bk b2=some g→w10.heap.size≤g:=fun g hg=>(o26.Qar hg).1
  rw [wrap64_in (x:=(i:Int)+1) (by omega) (by omega)]
  refine LI.again (k:=k-(i+1)) ⟨i+1,P++[(a,s)],b2,d3,zs2,d2,rfl,by omega,by simp [hPl],?_,?_,?_,r27,?_,?_,rfl⟩ (by rw [hj];omega)
  ·rw [Qhu]
   exact gP.bind (g21.bind Gd.pure)
  ·intro p hp
   rcases List.mem_append.1 hp with hp | hp
   ·exact hPb p hp
   ·rw [List.mem_singleton] at hp;subst hp;exact ⟨ha,hs⟩
  ·refine ((rd21.nob c24).keep c26 (fun e=>by have:=nvb _ e;omega) fun g hg e=>?_).keep c27 (by omega) fun g hg e=>?_
   ·have:=hG g hg;have:=nvb g e;omega
   ·have:=hG g hg;omega
  ·rw [List.flatMap_append]
   have:=o26.keep c27 fun g hg e=>by have:=hb2 g hg;omega
   simpa [pcl] using this
  ·have u1:Chg (fun g=>g=Q∨g=B) w10 w21:=cdr.trans' c21 fun g e=>.inl (.inl e)
   exact ((u1.trans c24.weak).trans' c26 fun g hg=>.inr (nvb g hg).1).trans' c27 fun g e=>.inl (.inr e)
 have hik:i=k:=by omega
 subst hik
 refine (Za4 rd17).mono ?_
 rintro r w29 ⟨q,y29,d29,rfl,hq,rd29,c29,g29⟩
 have s29:=c29.size
 have r29:=c29.row (by omega) r17
 have o29:=o17.keep c29 fun g hg e=>by have:=nvb g hg;omega
 have r29A:=c29.row (by omega) r17A
 have c029:Chg Qaa w w29:=c017.trans' c29 fun g e=>.inr (by omega)
 let J2:Nat→List Value→World→Prop:=fun jj us w'=>∃(j:Nat) (E:List ER) (eb:Option Addr) (ec:Nat) (lb:Option Addr) (lc:Nat) (zs:List Nat) (d:Bool),us=[.int .i64 j]∧j≤q∧E.length=j∧Gd (rep rdE j y29) d29 E zs d∧(∀x∈E,x.ok)∧RD w' Q G zs d∧Row w'.heap B 36 [.int .i64 n,.slice vb i vc,.slice eb j ec,.slice lb j lc]∧Own w' w29.heap.size 120 2 eb j ec ((E.map epl).flatMap pcl)∧Own w' w29.heap.size 107 5 lb j lc (E.flatMap ecl)∧Apart eb lb∧Chg (fun g=>g=Q∨g=B) w29 w'∧jj=q-j
 refine ⟨_,rfl,LI J2,LM J2,⟨_,0,[],none,0,none,0,y29,d29,rfl,Nat.zero_le _,rfl,Gd.pure,fun p hp=>(by cases hp),rd29,r29,Own.nil,Own.nil,Apart.nil,Chg.refl _ _,rfl⟩,?_⟩
 intro _ n33 w34 hJ2
 obtain ⟨j,E,eb,ec,lb,lc,zs2,d2,hus,hjq,hEl,gE,hEb,rd34,r34,oe34,ol34,hap,c34,hjj⟩:=hJ2.at
 simp only [vj] at hus
 subst hus
 have s34:=c34.size
 have neb:∀g,bk eb=some g→w29.heap.size≤g∧g<w34.heap.size:=fun g hg=>oe34.Qar hg
 have nlb:∀g,bk lb=some g→w29.heap.size≤g∧g<w34.heap.size:=fun g hg=>ol34.Qar hg
 have r34A:=c34.row (fun e=>by omega) r29A
 have c034:Chg Qaa w w34:=c029.trans' c34 fun g e=>.inr (by omega)
 refine Qac (fun hlt=>?_) (fun hlt=>?_)<;>simp only [b1s] at hlt
 ·refine (Za2 rd34).mono ?_
  rintro r w37 ⟨a,s,zs3,d3,rfl,ha,hs,rd37,c37,g37⟩
  have s37:=c37.size
  refine ⟨_,_,rfl,Qak fun T w40 hT c40 r40=>Qao r40 (by simp) rfl fun w41 c41 r41=>?_⟩
  rw [Qad]
  refine Qao r41 (by simp) rfl fun w42 c42 r42=>Qak fun V w44 hV c44 r44=>?_
  have s40:=c40.size
  have s41:=c41.size
  have s42:=c42.size
  have s44:=c44.size
  have lT:=r40.lt
  have r44T:Row w44.heap T 120 [.int .u32 (a:Nat),.int .i64 (s:Nat)]:=c44.row (fun h=>h) r42
  have c3744:Chg Qaa w37 w44:=((c40.trans' c41 fun k e=>.inr (by omega)).trans' c42 fun k e=>.inr (by omega)).trans c44
  have rd44:=rd37.nob c3744
  have r44B:=(c3744.row (fun h=>h) (c37.row (by omega) r34))
  have oe44:=(oe34.keep c37 fun g hg e=>by have:=neb g hg;omega).keep c3744 fun _ _ h=>h
  have ol44:=(ol34.keep c37 fun g hg e=>by have:=nlb g hg;omega).keep c3744 fun _ _ h=>h
  have cX44:Chg (fun g=>g=Q∨g=B) w29 w44:=(c34.trans' c37 fun g e=>.inl (.inl e)).trans c3744.weak
  refine ⟨fun us w'=>us=[]∧∃(x:ER) (zs4:List Nat) (d4:Bool),x.a=a∧x.s=s∧x.ok∧Gd (rdE zs2) d2 x zs4 d4∧RD w' Q G zs4 d4∧Row w'.heap V 107 (ecl x)∧Chg (fun g=>g=Q∨g=V) w44 w',?_,?_⟩
  ·refine Qaf (n:=(s:Nat)) r44T rfl (Qac (fun k1=>?_) (fun k1=>?_))<;>simp only [b1s] at k1
   ·have hs1:s=1:=by omega
    refine (Zlk rd44).mono ?_
    rintro r w52 ⟨f0,n0,f1,n1,ww,zs4,d4,rfl,⟨v1,v2,v3,v4,v5⟩,rd52,c52,g52⟩
    refine ⟨_,_,_,_,_,rfl,Qd3 (c52.row (by omega) r44) rfl (by intro v hv;simp at hv;rcases hv with rfl | rfl | rfl | rfl | rfl<;>rfl) fun w54 c54 r54=>⟨rfl,⟨a,s,f0,n0,f1,n1,ww⟩,zs4,d4,rfl,rfl,⟨ha,hs,v1,v2,v3,v4,v5,fun k=>absurd hs1 k⟩,?_,rd52.keep c54 (by omega) (fun g hg e=>by have:=hG g hg;omega),r54,?_⟩⟩
    ·rw [Qzv]
     refine g37.bind ?_
     dsimp only
     rw [if_pos hs1]
     exact g52.bind Gd.pure
    ·exact (c52.mono fun _ _ e=>.inl e).trans (c54.mono fun _ _ e=>.inr e)
   ·refine ⟨rfl,⟨a,s,0,0,0,0,0⟩,zs3,d3,rfl,rfl,⟨ha,hs,by show 0<_;omega,by show 0<_;omega,by show 0<_;omega,by show 0<_;omega,by show 0<_;omega,fun _=>⟨rfl,rfl,rfl,rfl,rfl⟩⟩,?_,rd44,r44,Chg.refl _ _⟩
    rw [Qzv]
    refine g37.bind ?_
    dsimp only
    rw [if_neg (by omega)]
    exact Gd.pure
  rintro _ w55 ⟨_,x,zs4,d4,hxa,hxs,hxo,gx,rd55,r55V,c55⟩
  have s55:=c55.size
  have c55d:=c55.drew
  have rd56:RD w55.drew Q G zs4 d4:=rd55.nob (Chg.refl _ _).drew
  have r56V:Row w55.drew.heap V 107 (ecl x):=r55V
  have sd:w55.drew.heap.size=w55.heap.size:=rfl
  generalize w55.drew=w56 at *
  have r56T:=c55d.row (by omega) r44T
  have r56B:=c55d.row (by omega) r44B
  have oe56:=oe44.keep c55d fun g hg e=>by have:=neb g hg;omega
  have ol56:=ol44.keep c55d fun g hg e=>by have:=nlb g hg;omega
  have cX56:Chg (fun g=>g=Q∨g=B) w29 w56:=cX44.trans' c55d fun g e=>e.elim (fun e=>.inl (.inl e)) fun e=>.inr (by omega)
  have gE':Gd (rep rdE (j+1) y29) d29 (E++[x]) zs4 d4:=by
   rw [Qhu]
   exact gE.bind (gx.bind Gd.pure)
  have hEb':∀y∈E++[x],y.ok:=fun y hy=>by
   rcases List.mem_append.1 hy with hy | hy
   ·exact hEb y hy
   ·rw [List.mem_singleton] at hy;subst hy;exact hxo
  have eE:((E.map epl).flatMap pcl)++[.int .u32 (a:Nat),.int .i64 (s:Nat)]=((E++[x]).map epl).flatMap pcl:=by
   rw [List.map_append,List.flatMap_append];simp [pcl,epl,hxa,hxs]
  have eL:E.flatMap ecl++[.int .u32 (x.f0:Nat),.int .u32 (x.f1:Nat),.int .u32 (x.n0:Nat),.int .u32 (x.n1:Nat),.int .i32 (sgn x.w)]=(E++[x]).flatMap ecl:=by
   rw [List.flatMap_append];simp [ecl]
  have pre:∀{u:World} {T2:Nat},Chg Qaa w56 u→Row u.heap T2 120 [.int .u32 (a:Nat),.int .i64 (s:Nat)]→∃b2 d5 u2,(Builtin.append_ #[33,33] 33 #[.slice eb j ec,.slice (some ⟨T2,0,none⟩) 1 1]).run Pg u=.ok (.slice b2 (j+1) d5) u2∧Own u2 w29.heap.size 120 2 b2 (j+1) d5 (((E++[x]).map epl).flatMap pcl)∧Own u2 w29.heap.size 107 5 lb j lc (E.flatMap ecl)∧Apart b2 lb∧Row u2.heap B 36 [.int .i64 n,.slice vb i vc,.slice eb j ec,.slice lb j lc]∧RD u2 Q G zs4 d4∧Chg (fun g=>g=Q∨g=B) w29 u2∧Chg (fun g=>bk eb=some g) u u2:=by
   intro u T2 cu ru
   have su:=cu.size
   obtain ⟨b2,d5,u2,hrun,o2,cc,hw2⟩:=Qaw (ty:=33) Qx0 (oe56.keep cu fun _ _ h=>h) ru rfl (by intro u hu;simp at hu;rcases hu with rfl | rfl<;>rfl) (by omega) (by omega) (by omega)
   rw [eE] at o2
   exact ⟨b2,d5,u2,hrun,o2,(ol56.keep cu fun _ _ h=>h).keep cc fun g hg e=>hap g e hg,hap.app hw2 fun k hk=>by have:=nlb _ hk;omega,cc.row (fun e=>by have:=neb _ e;omega) (cu.row (fun h=>h) r56B),(rd56.nob cu).keep cc (fun e=>by have:=neb _ e;omega) (fun g hg e=>by have:=hG g hg;have:=neb _ e;omega),(cX56.trans cu.weak).trans' cc fun g hg=>.inr (neb g hg).1,cc⟩
  have tail:∀{u:World} {b2:Option Addr} {d5 K:Nat},w56.heap.size≤u.heap.size→Row u.heap K 107 [.int .u32 (x.f0:Nat),.int .u32 (x.f1:Nat),.int .u32 (x.n0:Nat),.int .u32 (x.n1:Nat),.int .i32 (sgn x.w)]→Own u w29.heap.size 120 2 b2 (j+1) d5 (((E++[x]).map epl).flatMap pcl)→Own u w29.heap.size 107 5 lb j lc (E.flatMap ecl)→Apart b2 lb→Row u.heap B 36 [.int .i64 n,.slice vb i vc,.slice eb j ec,.slice lb j lc]→RD u Q G zs4 d4→Chg (fun g=>g=Q∨g=B) w29 u→
    ∃s71b s71l s71c w72,(Builtin.append_ #[34,34] 34 #[.slice lb j lc,.slice (some ⟨K,0,none⟩) 1 1]).run Pg u=.ok (.slice s71b s71l s71c) w72∧
     sto ((⟨B,0,none⟩:Addr).add 2) (.slice b2 (j+1) d5) w72 fun w73=>sto ((⟨B,0,none⟩:Addr).add 3) (.slice s71b s71l s71c) w73 fun w74=>
      (LI J2 [.int .i64 (IntKind.wrap .i64 ((j:Int)+1))] w74∧LM J2 [.int .i64 (IntKind.wrap .i64 ((j:Int)+1))] w74<LM J2 [.int .i64 j] w34):=by
   intro u b2 d5 K su rK o2 ol hap2 rB rdu cu
   obtain ⟨b3,d6,w72,hrun,o3,cc,hw3⟩:=Qaw (ty:=34) Q8g ol rK rfl (by intro u hu;simp at hu;rcases hu with rfl | rfl | rfl | rfl | rfl<;>rfl) (by omega) (by omega) (by omega)
   rw [eL] at o3
   have s72:=cc.size
   have hb2:∀g,bk b2=some g→w29.heap.size≤g∧g<u.heap.size:=fun g hg=>o2.Qar hg
   have hb3:∀g,bk b3=some g→w29.heap.size≤g:=fun g hg=>(o3.Qar hg).1
   have r72:=cc.row (fun e=>by have:=nlb _ e;omega) rB
   refine ⟨b3,_,d6,w72,hrun,?_⟩
   rw [Qad,wrap64_in (x:=(j:Int)+1) (by omega) (by omega)]
   refine Qao r72 (by simp) rfl fun w73 c73 r73=>?_
   rw [Qad]
   refine Qao r73 (by simp) rfl fun w74 c74 r74=>?_
   have cB:Chg (·=B) w72 w74:=c73.trans c74
   refine LI.again (k:=q-(j+1)) ⟨j+1,E++[x],b2,d5,b3,d6,zs4,d4,rfl,by omega,by simp [hEl],gE',hEb',(rdu.keep cc (fun e=>by have:=nlb _ e;omega) fun g hg e=>by have:=hG g hg;have:=nlb _ e;omega).keep cB (by omega) fun g hg e=>by have:=hG g hg;omega,r74,(o2.keep cc fun g hg e=>hap2 g hg e).keep cB fun g hg e=>by have:=hb2 g hg;omega,o3.keep cB fun g hg e=>by have:=hb3 g hg;omega,((hap2.symm).app hw3 fun k hk=>(hb2 _ hk).2).symm,(cu.trans' cc fun g hg=>.inr (nlb g hg).1).trans' cB fun g e=>.inl (.inr e),rfl⟩ (by rw [hjj];omega)
  have cB2:∀{u:World},Row u.heap B 36 [.int .i64 n,.slice vb i vc,.slice eb j ec,.slice lb j lc]→u.cell? ((⟨B,0,none⟩:Addr).add 2)=some (.slice eb j ec)∧u.cell? ((⟨B,0,none⟩:Addr).add 3)=some (.slice lb j lc):=fun rB=>⟨by rw [Qad,rB.cell];rfl,by rw [Qad,rB.cell];rfl⟩
  have lV:w42.heap.size≤V:=hV
  rw [Qad]
  refine Qai r56B rfl (Qaf (n:=(a:Nat)) r56T rfl (Qaf (n:=(s:Nat)) r56T rfl ?_))
  rw [Qad]
  refine Qai r56B rfl (Zi2 r56V ?_)
  have nebV:bk eb≠some V:=fun e=>by have:=neb _ e;omega
  refine ⟨Qak fun T2 w66 hT2 c66 r66=>Qxq (c66.row (fun h=>h) r56V) ⟨(cB2 (c66.row (fun h=>h) r56B)).2,(cB2 (c66.row (fun h=>h) r56B)).1,?_,Qak fun K w76 hK c76 r76=>⟨(cB2 ((c66.trans c76).row (fun h=>h) r56B)).2,(cB2 ((c66.trans c76).row (fun h=>h) r56B)).1,?_⟩⟩,Qak fun K w84 hK c84 r84=>⟨(cB2 (c84.row (fun h=>h) r56B)).2,by rw [(c84.row (fun h=>h) r56T).cell];rfl,by rw [(c84.row (fun h=>h) r56T).cell];rfl,(cB2 (c84.row (fun h=>h) r56B)).1,Qak fun T2 w86 hT2 c86 r86=>⟨(cB2 ((c84.trans c86).row (fun h=>h) r56B)).2,(cB2 ((c84.trans c86).row (fun h=>h) r56B)).1,?_⟩⟩⟩
  ·obtain ⟨b2,d5,u2,hrun,o2,ol2,hap2,rB2,rd2,cu2,cc⟩:=pre c66 r66
   have:=c66.size
   have:=cc.size
   refine ⟨b2,_,d5,u2,hrun,Qxq (cc.row nebV (c66.row (fun h=>h) r56V)) ⟨(cB2 rB2).2,Qak fun K w70 hK c70 r70=>⟨(cB2 (c70.row (fun h=>h) rB2)).2,?_⟩⟩⟩
   have:=c70.size
   exact tail (by omega) r70 (o2.keep c70 fun _ _ h=>h) (ol2.keep c70 fun _ _ h=>h) hap2 (c70.row (fun h=>h) rB2) (rd2.nob c70) (cu2.trans c70.weak)
  ·obtain ⟨b2,d5,u2,hrun,o2,ol2,hap2,rB2,rd2,cu2,cc⟩:=pre (c66.trans c76) (c76.row (fun h=>h) r66)
   have:=(c66.trans c76).size
   have:=c66.size
   have:=cc.size
   exact ⟨b2,_,d5,u2,hrun,(cB2 rB2).2,tail (by omega) (cc.row (fun e=>by have:=neb _ e;omega) r76) o2 ol2 hap2 rB2 rd2 cu2⟩
  ·obtain ⟨b2,d5,u2,hrun,o2,ol2,hap2,rB2,rd2,cu2,cc⟩:=pre (c84.trans c86) r86
   have:=(c84.trans c86).size
   have:=cc.size
   exact ⟨b2,_,d5,u2,hrun,(cB2 rB2).2,tail (by omega) (cc.row (fun e=>by have:=neb _ e;omega) (c86.row (fun h=>h) r84)) o2 ol2 hap2 rB2 rd2 cu2⟩
 have hjq':j=q:=by omega
 subst hjq'
 have gA:Gd (rdA xs) false (n,P,E) zs2 d2:=g6.bind (g12.bind (gP.bind (g29.bind (gE.bind Gd.pure))))
 have hPl':P.length≤1000000:=by omega
 have hEl':E.length≤1000000:=by omega
 let m:RM:=⟨n,P,E⟩
 have nvb':∀g,bk vb=some g→w10.heap.size≤g∧g<w29.heap.size:=fun g hg=>by have:=nvb g hg;omega
 have o34:=o29.keep c34 fun g hg e=>by have:=nvb' g hg;omega
 have hval:(m.mdl vb vc eb ec lb lc).val=.agg #[.int .i64 n,.slice vb i vc,.slice eb j ec,.slice lb j lc]:=by
  unfold Mdl.val
  rw [RM.lX,RM.lY]
  show Value.agg #[.int .i64 n,.slice vb P.length vc,.slice eb E.length ec,.slice lb E.length lc]=_
  rw [hPl,hEl]
 have mvS:∀{u:World},VA u vb i 2 (P.flatMap pcl)→VA u eb j 2 ((E.map epl).flatMap pcl)→VA u lb j 5 (E.flatMap ecl)→MV u (m.mdl vb vc eb ec lb lc):=fun v e l=>RM.mv hPb hEb hPl' hEl' (by show VA _ vb P.length 2 _;rw [hPl];exact v) (by show VA _ eb E.length 2 _;rw [hEl];exact e) (by show VA _ lb E.length 5 _;rw [hEl];exact l)
 have va1:=VA.Qa6 o34
 have va2:=VA.Qa6 oe34
 have va3:=VA.Qa6 ol34
 have none_no:rdM xs=none→∀m,rdM xs=some m→¬m.good:=fun e m hm=>by rw [e] at hm;cases hm
 obtain ⟨rb,rc,rQ,_,_,_,_,_,_⟩:=rd34
 rw [Qad]
 refine Qqt rQ rfl (Qac (fun k1=>fl c034 r34A rfl (none_no ?_)) (fun k1=>Qai rQ rfl (Qac (fun k2=>fl c034 r34A rfl (none_no ?_)) (fun k2=>?_))))<;>(try simp only [b1s] at k2)
 ·rw [Q6e,(gA.2 k1).resolve_left (by simp)];rfl
 ·rw [Q6e,(gA.1 k1).2]
  simp only [Option.bind_some]
  rw [if_neg]
  intro e;rw [e] at k2;simp at k2
 have hz:zs2=[]:=List.length_eq_zero_iff.1 (by omega)
 have hm:rdM xs=some m:=by
  rw [Q6e,(gA.1 k1).2]
  simp only [Option.bind_some]
  rw [if_pos hz]
 obtain ⟨hxs,hmok⟩:=Q35 hb hm
 have hck:=Q6k (mvS va1 va2 va3)
 rw [hval] at hck
 refine ldRM r34 (hck.mono ?_)
 rintro r w110 ⟨c110,hgd,hng⟩
 have c0110:=c034.trans c110
 have r110A:=c110.row (fun h=>h) r34A
 have r110:=c110.row (fun h=>h) r34
 by_cases hgood:(m.mdl vb vc eb ec lb lc).good
 ·rw [hgd hgood]
  refine ⟨_,rfl,Qbu _,?_⟩
  rw [Qb4]
  refine Qac (fun k=>by cases k) (fun _=>?_)
  have hbts:(m.mdl vb vc eb ec lb lc).bts=xs:=by
   unfold Mdl.bts
   rw [RM.Zlg hmok];exact hxs.symm
  have hmb:=Za5 (mvS (va1.nob c110) (va2.nob c110) (va3.nob c110)) hgood.1
  rw [hval,hbts] at hmb
  refine ldRM r110 (hmb.mono ?_)
  rintro r w122 ⟨bb,bc,rfl,ob,c122⟩
  have hx0:0<xs.length:=by
   rw [hxs]
   unfold RM.by_
   simp only [List.length_append,Qbc]
   omega
  refine ⟨_,_,_,rfl,(Zhg (CV.Zed (VA.Qa6 ob)) (h.nob (c0110.trans c122)) hx0).mono ?_⟩
  rintro r w125 ⟨rfl,rfl⟩
  refine ⟨_,rfl,Qac (fun k=>by cases k) (fun _=>ldRM (c122.row (fun h=>h) r110) (Qd3 (c122.row (fun h=>h) r110A) rfl (by intro v hv;simp at hv;rcases hv with rfl | rfl | rfl | rfl<;>rfl) fun w136 c136 r136=>ldRM r136 ?_))⟩
  have cc:=c110.trans c122
  refine ⟨(c0110.trans c122).trans' c136 fun k e=>.inr (by omega),.inl ⟨m,vb,vc,eb,ec,lb,lc,hm,RM.Qyw.1 hgood,by rw [hval];rfl,mvS ((va1.nob cc).keep c136 fun g _ hg=>?_) ((va2.nob cc).keep c136 fun g _ hg=>?_) ((va3.nob cc).keep c136 fun g _ hg=>?_)⟩⟩
  ·have:=nvb' g hg;omega
  ·have:=neb g hg;omega
  ·have:=nlb g hg;omega
 ·rw [hng hgood]
  refine ⟨_,rfl,Qbu _,?_⟩
  rw [Qb4]
  refine Qac (fun _=>fl c0110 r110A rfl ?_) (fun k=>by cases k)
  intro m' hm' hg'
  rw [hm] at hm'
  cases hm'
  exact hgood (RM.Qyw.2 hg')
end
end Core
end Go.Proofs.YtfeekmmfdkfgmaaGreatDoor
