/-
A reading of a function's code as one formula: soundness, once for all programs.
Conditions: none; every theorem here is over any program.
-/
import Derived.Orders
import Derived.Laws.AppendOwn
import Derived.Below
import Derived.KernelRfl
import Derived.Tactics
import Derived.OrdersHeld
import Derived.Laws.MakeOwn
import Derived.LoopN
set_option linter.unusedVariables false
set_option linter.unusedSimpArgs false
namespace Go.Proofs.YtfeekmmfdkfgmaaGreatDoor
open Go
abbrev Env:=Nat→Value
def Env.put (e:Env) (d:Nat) (v:Value):Env:=fun t=>bif Nat.beq t d then v else e t
def Env.puts (e:Env):List Nat→List Value→Env
 | d::ds,v::vs=>(Env.puts e ds vs).put d v
 | _,_=>e
def Env.mix (A:List Nat) (e f:Env):Env:=fun t=>bif A.any (fun a=>Nat.beq t a) then f t else e t
def ev (e:Env):Operand→Value
 | .tmp t=>e t
 | .const v=>v
 | .global g=>.pointer (some ⟨g,0,none⟩)
 | .func f=>.func (.func f) #[] #[]
def ofAct (a:Act):Env:=fun t=>a.tmps.getD t undef
theorem Qxz (a:Act):ev (ofAct a)=a.eval:=by
 funext x;cases x<;>rfl
theorem Env.Q7u (e:Env) (d:Nat) (v:Value):e.put d v d=v:=by simp [Env.put]
theorem Env.Qsr (e:Env) (d t:Nat) (v:Value) (h:t≠d):e.put d v t=e t:=by
 have:Nat.beq t d=false:=by
  cases hb:Nat.beq t d with
  | false=>rfl
  | true=>exact absurd (Nat.eq_of_beq_eq_true hb) h
 simp [Env.put,this]
theorem Zao (a:Act) (d:Nat) (v:Value) (h:d<a.tmps.size):ofAct (a.put (some d) v)=(ofAct a).put d v:=by
 funext t
 by_cases ht:t=d
 ·subst ht;simp [ofAct,Act.put,Env.Q7u,h]
 ·rw [Env.Qsr _ _ _ _ ht]
  simp [ofAct,Act.put,Array.getElem?_setIfInBounds_ne (Ne.symm ht)]
inductive Lf where
 | int (k:IntKind) | bool | str | ptr | slc | ifc | fn | map
inductive Ty where
 | one (l:Lf) | agg (ls:List Lf) | tup (ts:List Ty) | bad
def szT (P:Program) (t:TypeId):Nat:=match P.info? t with | some i=>i.size | none=>0
def byT (P:Program) (t:TypeId):Nat:=match P.info? t with | some i=>i.bytes | none=>0
def aggT (P:Program) (t:TypeId):Bool:=match P.underlying t with | some (.struct _)=>true | some (.array _ _)=>true | _=>false
def leavesT (P:Program):Nat→TypeId→Option (List Lf)
 | 0,_=>none
 | n+1,t=>match P.underlying t with
  | some (.int k)=>some [.int k]
  | some .bool=>some [.bool]
  | some .string=>some [.str]
  | some (.pointer _)=>some [.ptr]
  | some (.slice _)=>some [.slc]
  | some (.interface _)=>some [.ifc]
  | some (.func _ _ _)=>some [.fn]
  | some (.map _ _)=>some [.map]
  | some (.struct fs)=>fs.toList.foldr (fun f acc=>match leavesT P n f.type,acc with | some x,some y=>some (x++y) | _,_=>none) (some [])
  | some (.array k e)=>match leavesT P n e with | some x=>some ((List.replicate k x).flatten) | none=>none
  | _=>none
def tyT (P:Program) (t:TypeId):Ty:=
 match P.underlying t with
 | some (.tuple es)=>.tup (es.toList.map fun e=>match aggT P e,leavesT P 8 e with | true,some l=>.agg l | false,some [l]=>.one l | _,_=>.one .ifc)
 | _=>match aggT P t,leavesT P 8 t with | true,some l=>.agg l | false,some [l]=>.one l | _,_=>.one .ifc
def isI (v:Value):Prop:=v=.nilIface∨∃t x,v=.iface t x
def nilI:Value→Bool | .nilIface=>true | _=>false
def exL (l:Lf) (K:Value→Prop):Prop:=
 match l with
 | .int k=>∃n:Int,K (.int k n)
 | .bool=>∃b:Bool,K (.bool b)
 | .str=>∃s:ByteArray,K (.string s)
 | .ptr=>∃p:Option Addr,K (.pointer p)
 | .slc=>∃(b:Option Addr) (l c:Nat),K (.slice b l c)
 | .ifc=>∃x:Value,K x
 | .fn=>∃x:Value,K x
 | .map=>∃r:Option Nat,K (.map r)
theorem Qy1 {l:Lf} {K:Value→Prop} (h:exL l K):∃v,K v:=by
 cases l<;>simp only [exL] at h
 case slc=>obtain ⟨b,l,c,h⟩:=h;exact ⟨_,h⟩
 all_goals (obtain ⟨x,h⟩:=h;exact ⟨_,h⟩)
def exLs:List Lf→(List Value→Prop)→Prop
 | [],K=>K []
 | l::r,K=>exL l fun v=>exLs r fun vs=>K (v::vs)
theorem Q8f {ls:List Lf} {K:List Value→Prop} (h:exLs ls K):∃vs,K vs:=by
 induction ls generalizing K with
 | nil=>exact ⟨_,h⟩
 | cons l r ih=>obtain ⟨v,h⟩:=Qy1 h;obtain ⟨vs,h⟩:=ih h;exact ⟨_,h⟩
def exT1:Ty→(Value→Prop)→Prop
 | .one l,K=>exL l K
 | .agg ls,K=>exLs ls fun vs=>K (.agg vs.toArray)
 | _,_=>False
def exTs:List Ty→(List Value→Prop)→Prop
 | [],K=>K []
 | t::r,K=>exT1 t fun v=>exTs r fun vs=>K (v::vs)
def exT:Ty→(Value→Prop)→Prop
 | .one l,K=>exL l K
 | .agg ls,K=>exLs ls fun vs=>K (.agg vs.toArray)
 | .tup ts,K=>exTs ts fun vs=>K (.tuple vs.toArray)
 | .bad,_=>False
theorem Ze2 {t:Ty} {K:Value→Prop} (h:exT1 t K):∃v,K v:=by
 cases t<;>simp only [exT1] at h
 case one l=>exact Qy1 h
 case agg ls=>obtain ⟨vs,h⟩:=Q8f h;exact ⟨_,h⟩
theorem Ze1 {ts:List Ty} {K:List Value→Prop} (h:exTs ts K):∃vs,K vs:=by
 induction ts generalizing K with
 | nil=>exact ⟨_,h⟩
 | cons l r ih=>obtain ⟨v,h⟩:=Ze2 h;obtain ⟨vs,h⟩:=ih h;exact ⟨_,h⟩
theorem Zb6 {t:Ty} {K:Value→Prop} (h:exT t K):∃v,K v:=by
 cases t<;>simp only [exT] at h
 case one l=>exact Qy1 h
 case agg ls=>obtain ⟨vs,h⟩:=Q8f h;exact ⟨_,h⟩
 case tup ts=>obtain ⟨vs,h⟩:=Ze1 h;exact ⟨_,h⟩
def allL (l:Lf) (K:Value→Prop):Prop:=
 match l with
 | .int k=>∀n:Int,K (.int k n)
 | .bool=>∀b:Bool,K (.bool b)
 | .str=>∀s:ByteArray,K (.string s)
 | .ptr=>∀p:Option Addr,K (.pointer p)
 | .slc=>∀(b:Option Addr) (l c:Nat),K (.slice b l c)
 | .ifc=>∀x:Value,K x
 | .fn=>∀x:Value,K x
 | .map=>∀r:Option Nat,K (.map r)
def allLs:List Lf→(List Value→Prop)→Prop
 | [],K=>K []
 | l::r,K=>allL l fun v=>allLs r fun vs=>K (v::vs)
def allT1:Ty→(Value→Prop)→Prop
 | .one l,K=>allL l K
 | .agg ls,K=>allLs ls fun vs=>K (.agg vs.toArray)
 | _,_=>False
def allTs:List Ty→(List Value→Prop)→Prop
 | [],K=>K []
 | t::r,K=>allT1 t fun v=>allTs r fun vs=>K (v::vs)
def sameK:IntKind→IntKind→Bool
 | .i8,.i8 | .i16,.i16 | .i32,.i32 | .i64,.i64 | .u8,.u8 | .u16,.u16 | .u32,.u32 | .u64,.u64=>true
 | _,_=>false
theorem Q3t {a b:IntKind} (h:sameK a b=true):a=b:=by cases a<;>cases b<;>simp_all [sameK]
def fitL (l:Lf) (v:Value):Bool:=
 match l with
 | .int k=>match v with | .int k' _=>sameK k' k | _=>false
 | .bool=>match v with | .bool _=>true | _=>false
 | .str=>match v with | .string _=>true | _=>false
 | .ptr=>match v with | .pointer _=>true | _=>false
 | .slc=>match v with | .slice _ _ _=>true | _=>false
 | .ifc=>true
 | .fn=>true
 | .map=>match v with | .map _=>true | _=>false
theorem Q8z {l:Lf} {K:Value→Prop} (h:allL l K) {v:Value} (hv:fitL l v=true):K v:=by
 cases l<;>simp only [allL,fitL] at h hv
 case ifc=>exact h _
 case fn=>exact h _
 case int k=>
  cases v<;>simp_all
  have:=Q3t hv;subst this;exact h _
 all_goals (cases v<;>first | (simp at hv;done) | exact h _ | exact h _ _ _)
def fitLs:List Lf→List Value→Bool
 | [],[]=>true
 | l::r,v::vs=>fitL l v&&fitLs r vs
 | _,_=>false
theorem Zc1 {ls:List Lf} {K:List Value→Prop} (h:allLs ls K) {vs:List Value} (hv:fitLs ls vs=true):K vs:=by
 induction ls generalizing K vs with
 | nil=>cases vs with | nil=>exact h | cons=>simp [fitLs] at hv
 | cons l r ih=>cases vs with
  | nil=>simp [fitLs] at hv
  | cons v vs=>simp [fitLs] at hv;exact ih (Q8z h hv.1) hv.2
def fitT1:Ty→Value→Bool
 | .one l,v=>fitL l v
 | .agg ls,v=>match v with | .agg vs=>fitLs ls vs.toList | _=>false
 | _,_=>false
theorem Zc0 {t:Ty} {K:Value→Prop} (h:allT1 t K) {v:Value} (hv:fitT1 t v=true):K v:=by
 cases t<;>simp only [allT1,fitT1] at h hv
 case one l=>exact Q8z h hv
 case agg ls=>cases v<;>simp at hv;have:=Zc1 h hv;simpa using this
 all_goals simp at hv
def fitTs:List Ty→List Value→Bool
 | [],[]=>true
 | l::r,v::vs=>fitT1 l v&&fitTs r vs
 | _,_=>false
theorem Q5r {ls:List Ty} {K:List Value→Prop} (h:allTs ls K) {vs:List Value} (hv:fitTs ls vs=true):K vs:=by
 induction ls generalizing K vs with
 | nil=>cases vs with | nil=>exact h | cons=>simp [fitTs] at hv
 | cons l r ih=>cases vs with
  | nil=>simp [fitTs] at hv
  | cons v vs=>simp [fitTs] at hv;exact ih (Zc0 h hv.1) hv.2
def pt (p:Option Addr) (K:Addr→Prop):Prop:=match p with | some a=>K a | none=>False
def ixS (b:Option Addr) (l:Nat) (n:Int) (sz:Nat) (K:Addr→Prop):Prop:=∃a,b=some a∧0≤n∧n<(l:Int)∧K (a.add (n.toNat*sz))
def ixA (a:Addr) (len:Nat) (n:Int) (sz:Nat) (K:Addr→Prop):Prop:=0≤n∧n<(len:Int)∧K (a.add (n.toNat*sz))
def ixV (cs:Array Value) (len:Nat) (n:Int) (sz:Nat) (l:Lf) (K:Value→Prop):Prop:=exL l fun v=>0≤n∧n<(len:Int)∧cs[n.toNat*sz]?=some v∧K v
def ixStr (s:ByteArray) (n:Int) (K:Int→Prop):Prop:=∃b:UInt8,0≤n∧s[n.toNat]?=some b∧K b.toNat
def oneC:Value→Bool | .agg _ | .tuple _=>false | _=>true
def ocm (v:Value) (K:Prop):Prop:=match v with | .agg _=>False | .tuple _=>False | _=>K
theorem Zap {v:Value} {K:Prop} (h:ocm v K):K∧v.cells=#[v]∧oneC v=true:=by
 cases v<;>first | exact ⟨h,rfl,rfl⟩ | exact h.elim
def slB (b:Option Int) (y:Nat) (d:Nat) (K:Nat→Prop):Prop:=match b with | some n=>0≤n∧n≤(y:Int)∧K n.toNat | none=>K d
def asI?:Option Value→Option (Option Int)
 | none=>some none
 | some (.int _ n)=>some (some n)
 | _=>none
def opIsConst:Operand→Bool | .const _=>true | _=>false
def dbinI (op:BinOp) (k:IntKind) (a:Int) (k':IntKind) (b:Int) (K:Value→Prop):Prop:=
 match op with
 | .shl=>0≤b∧K (.int k (k.wrap (a*2 ^ (min b.toNat k.bits))))
 | .shr=>0≤b∧K (.int k (a.fdiv (2 ^ (min b.toNat k.bits))))
 | .add=>bif sameK k k' then K (.int k (k.wrap (a+b))) else False
 | .sub=>bif sameK k k' then K (.int k (k.wrap (a-b))) else False
 | .mul=>bif sameK k k' then K (.int k (k.wrap (a*b))) else False
 | .quo=>bif sameK k k' then (b≠0∧K (.int k (k.wrap (a.tdiv b)))) else False
 | .rem=>bif sameK k k' then (b≠0∧K (.int k (a.tmod b))) else False
 | .and=>bif sameK k k' then K (.int k (k.wrap ((BitVec.ofInt k.bits a &&& BitVec.ofInt k.bits b).toNat))) else False
 | .or=>bif sameK k k' then K (.int k (k.wrap ((BitVec.ofInt k.bits a ||| BitVec.ofInt k.bits b).toNat))) else False
 | .xor=>bif sameK k k' then K (.int k (k.wrap ((BitVec.ofInt k.bits a ^^^ BitVec.ofInt k.bits b).toNat))) else False
 | .andNot=>bif sameK k k' then K (.int k (k.wrap ((BitVec.ofInt k.bits a &&& ~~~(BitVec.ofInt k.bits b)).toNat))) else False
 | .eql=>bif sameK k k' then K (.bool (a==b)) else False
 | .neq=>bif sameK k k' then K (.bool (a != b)) else False
 | .lss=>bif sameK k k' then K (.bool (decide (a<b))) else False
 | .leq=>bif sameK k k' then K (.bool (decide (a≤b))) else False
 | .gtr=>bif sameK k k' then K (.bool (decide (a>b))) else False
 | .geq=>bif sameK k k' then K (.bool (decide (a ≥ b))) else False
def eqK (op:BinOp) (b:Bool) (K:Value→Prop):Prop:=match op with | .eql=>K (.bool b) | .neq=>K (.bool (!b)) | _=>False
def dbin (P:Program) (op:BinOp) (xT:TypeId) (cx cy:Bool) (x y:Value) (K:Value→Prop):Prop:=
 match y with
 | .nilIface=>bif cy || cx then (match P.underlying xT with | some (.interface _)=>isI x∧eqK op (nilI x) K | _=>False) else False
 | .int k' b=>match x with
  | .int k a=>dbinI op k a k' b K
  | _=>False
 | .pointer none=>match x with
  | .pointer p=>match P.underlying xT with | some (.pointer _)=>eqK op p.isNone K | _=>False
  | _=>False
 | .slice none _ _=>match x with
  | .slice b _ _=>match P.underlying xT with | some (.slice _)=>eqK op b.isNone K | _=>False
  | _=>False
 | .bool b=>match x with
  | .bool a=>match P.underlying xT with | some .bool=>eqK op (a==b) K | _=>False
  | _=>False
 | .string b=>match x with
  | .string a=>eqK op (a.toList==b.toList) K
  | _=>False
 | _=>False
section
variable {P:Program} {t:TypeId} {w:World}
theorem Qae {α β:Type} {s:Sem α} {f:α→Sem β} {a:α} {w':World} (h:s.run P w=.ok a w'):(s >>= f).run P w=(f a).run P w':=by
 rw [Sem.run_bind,h];rfl
theorem Q7j:(program:Sem Program).run P w=.ok P w:=rfl
theorem Qbt {d:TypeDesc} (h:P.underlying t=some d):(underlying t).run P w=.ok d w:=by
 unfold underlying;rw [Qae Q7j,h];rfl
theorem Qpy {i:TypeInfo} (h:P.info? t=some i):(typeInfo t).run P w=.ok i w:=by
 unfold typeInfo;rw [Qae Q7j,h];rfl
theorem Qi0 (h:(P.info? t).isSome=true):(sizeOf t).run P w=.ok (szT P t) w:=by
 obtain ⟨i,hi⟩:=Option.isSome_iff_exists.1 h
 unfold sizeOf szT;rw [Qae (Qpy hi),hi];rfl
theorem Quu (h:(P.underlying t).isSome=true):(isAgg t).run P w=.ok (aggT P t) w:=by
 obtain ⟨i,hi⟩:=Option.isSome_iff_exists.1 h
 unfold isAgg aggT;rw [Qae (Qbt hi),hi];cases i<;>rfl
theorem Q8k (d:Nat) {e:TypeId} (p:Option Addr) (he:P.underlying t=some (.pointer e)):(Op.equalIn (d+1) t (.pointer p) (.pointer none)).run P w=.ok p.isNone w:=by
 unfold Op.equalIn;rw [Qae (Qbt he)];cases p<;>rfl
theorem Q8j (d:Nat) {e:TypeId} (b:Option Addr) (l c l' c':Nat) (he:P.underlying t=some (.slice e)):(Op.equalIn (d+1) t (.slice b l c) (.slice none l' c')).run P w=.ok b.isNone w:=by
 unfold Op.equalIn;rw [Qae (Qbt he)];cases b<;>rfl
theorem Q5f (d:Nat) (a b:Bool) (he:P.underlying t=some .bool):(Op.equalIn (d+1) t (.bool a) (.bool b)).run P w=.ok (a==b) w:=by
 unfold Op.equalIn;rw [Qae (Qbt he)];rfl
theorem Q8l (d:Nat) {ms:Array (String × TypeId)} (x:Value) (hx:isI x) (he:P.underlying t=some (.interface ms)):(Op.equalIn (d+1) t x .nilIface).run P w=.ok (nilI x) w:=by
 unfold Op.equalIn;rw [Qae (Qbt he)];rcases hx with rfl | ⟨t',y,rfl⟩<;>rfl
theorem Q8h (x y:Value):Op.equal t x y=Op.equalIn (9999+1) t x y:=rfl
theorem binOp_eql (x y:Value) (b:Bool) (hb:binOp .eql t x y=(do pure (.bool (←Op.equal t x y)):Sem Value)) (h:(Op.equalIn (9999+1) t x y).run P w=.ok b w):(binOp .eql t x y).run P w=.ok (.bool b) w:=by
 rw [hb,Q8h,Qae h];rfl
theorem binOp_neq (x y:Value) (b:Bool) (hb:binOp .neq t x y=(do pure (.bool (!(←Op.equal t x y))):Sem Value)) (h:(Op.equalIn (9999+1) t x y).run P w=.ok b w):(binOp .neq t x y).run P w=.ok (.bool !b) w:=by
 rw [hb,Q8h,Qae h];rfl
theorem Qji {op:BinOp} {ox oy:Operand} {x y:Value} {r:Result Value} (hg:(eqGuard op t ox oy x y).run P w=.ok () w) (h:(binOp op t x y).run P w=r):(do eqGuard op t ox oy x y;binOp op t x y:Sem Value).run P w=r:=by
 rw [Qae hg,h]
end
theorem Q1x {op:BinOp} {b:Bool} {K:Value→Prop} (h:eqK op b K):(op=.eql∧K (.bool b))∨(op=.neq∧K (.bool (!b))):=by
 unfold eqK at h;cases op<;>simp_all
set_option maxHeartbeats 1000000 in
theorem Q6u {P:Program} {op:BinOp} {xT:TypeId} {ox oy:Operand} {k k':IntKind} {a b:Int} {K:Value→Prop} (h:dbinI op k a k' b K) :
  ∃v,(∀w,(do eqGuard op xT ox oy (.int k a) (.int k' b);binOp op xT (.int k a) (.int k' b):Sem Value).run P w=.ok v w)∧K v:=by
 cases op<;>simp only [dbinI] at h
 case shl=>exact ⟨_,fun w=>by simp [eqGuard,binOp,Op.shift,go_sem,Int.not_lt.mpr h.1],h.2⟩
 case shr=>exact ⟨_,fun w=>by simp [eqGuard,binOp,Op.shift,go_sem,Int.not_lt.mpr h.1],h.2⟩
 all_goals
  cases hk:sameK k k'<;>simp only [hk,cond_true,cond_false] at h
  have hk':=Q3t hk
  subst hk'
 all_goals first
  | exact ⟨_,fun w=>by simp [eqGuard,binOp,Op.intArith,Op.intBits,Op.intCmp,go_sem];try rfl,h⟩
  | exact ⟨_,fun w=>by simp [eqGuard,binOp,Op.intDiv,go_sem,h.1],h.2⟩
theorem Q9o {P:Program} {op:BinOp} {xT:TypeId} {ox oy:Operand} {x y:Value} {K:Value→Prop}
  (h:dbin P op xT (opIsConst ox) (opIsConst oy) x y K) :
  ∃v,(∀w,(do eqGuard op xT ox oy x y;binOp op xT x y:Sem Value).run P w=.ok v w)∧K v:=by
 unfold dbin at h
 split at h
 ·cases hc:(opIsConst oy || opIsConst ox)<;>simp only [hc,cond_true,cond_false] at h
  split at h
  ·rename_i he
   obtain ⟨hi,h⟩:=h
   have hg:∀(op:BinOp) (w:World),(eqGuard op xT ox oy x .nilIface).run P w=.ok () w:=by
    intro op w
    rcases hi with rfl | ⟨t,y,rfl⟩
    ·cases ox<;>cases oy<;>simp_all [opIsConst,eqGuard,go_sem]<;>(cases op<;>rfl)
    ·simp [eqGuard,go_sem]
   rcases Q1x h with ⟨rfl,h⟩ | ⟨rfl,h⟩
   ·exact ⟨_,fun w=>Qji (hg _ _) (binOp_eql _ _ _ (by rcases hi with rfl | ⟨t,y,rfl⟩<;>simp [binOp]) (Q8l _ _ hi he)),h⟩
   ·exact ⟨_,fun w=>Qji (hg _ _) (binOp_neq _ _ _ (by rcases hi with rfl | ⟨t,y,rfl⟩<;>simp [binOp]) (Q8l _ _ hi he)),h⟩
  ·exact h.elim
 ·split at h
  ·exact Q6u h
  ·exact h.elim
 ·split at h
  ·split at h
   ·rename_i e he
    rcases Q1x h with ⟨rfl,h⟩ | ⟨rfl,h⟩
    ·exact ⟨_,fun w=>Qji (by simp [eqGuard,go_sem]) (binOp_eql _ _ _ (by simp [binOp]) (Q8k _ _ he)),h⟩
    ·exact ⟨_,fun w=>Qji (by simp [eqGuard,go_sem]) (binOp_neq _ _ _ (by simp [binOp]) (Q8k _ _ he)),h⟩
   ·exact h.elim
  ·exact h.elim
 ·split at h
  ·split at h
   ·rename_i e he
    rcases Q1x h with ⟨rfl,h⟩ | ⟨rfl,h⟩
    ·exact ⟨_,fun w=>Qji (by simp [eqGuard,go_sem]) (binOp_eql _ _ _ (by simp [binOp]) (Q8j _ _ _ _ _ _ he)),h⟩
    ·exact ⟨_,fun w=>Qji (by simp [eqGuard,go_sem]) (binOp_neq _ _ _ (by simp [binOp]) (Q8j _ _ _ _ _ _ he)),h⟩
   ·exact h.elim
  ·exact h.elim
 ·split at h
  ·split at h
   ·rename_i he
    rcases Q1x h with ⟨rfl,h⟩ | ⟨rfl,h⟩
    ·exact ⟨_,fun w=>Qji (by simp [eqGuard,go_sem]) (binOp_eql _ _ _ (by simp [binOp]) (Q5f _ _ _ he)),h⟩
    ·exact ⟨_,fun w=>Qji (by simp [eqGuard,go_sem]) (binOp_neq _ _ _ (by simp [binOp]) (Q5f _ _ _ he)),h⟩
   ·exact h.elim
  ·exact h.elim
 ·split at h
  ·rcases Q1x h with ⟨rfl,h⟩ | ⟨rfl,h⟩
   ·exact ⟨_,fun w=>by simp [eqGuard,binOp,Op.stringOp,go_sem],h⟩
   ·exact ⟨_,fun w=>by simp [eqGuard,binOp,Op.stringOp,go_sem],h⟩
  ·exact h.elim
 ·exact h.elim
def dpick (c a b:Value) (K:Value→Prop):Prop:=
 match c with
 | .bool t=>match a with
  | .bool x=>match b with
   | .bool y=>K (.bool (bif t then x else y))
   | b=>bif t then K a else K b
  | a=>bif t then K a else K b
 | _=>False
def dslice (P:Program) (t:TypeId) (x:Value) (lo hi mx:Option Value) (K:Value→Prop):Prop:=
 match asI? lo,asI? hi,asI? mx with
 | some lo,some hi,some mx=>
  match P.underlying t with
  | some .string=>match x,mx with
   | .string s,none=>slB hi s.size s.size fun h=>slB lo h 0 fun l=>K (.string (s.extract l h))
   | _,_=>False
  | some (.slice e)=>match x with
   | .slice b len cap=>match hi,mx with
    | none,some _=>False
    | hi,mx=>bif (P.info? e).isSome then slB mx cap cap fun m=>slB hi m len fun h=>slB lo h 0 fun l=>K (.slice (if m=l then b else b.map (·.add (l*szT P e))) (h-l) (m-l)) else False
   | _=>False
  | some (.array n e)=>match x with
   | .pointer p=>match hi,mx with
    | none,some _=>False
    | hi,mx=>bif (P.info? e).isSome then pt p fun a=>slB mx n n fun m=>slB hi m n fun h=>slB lo h 0 fun l=>K (.slice (some (if m=l then a else a.add (l*szT P e))) (h-l) (m-l)) else False
   | _=>False
  | _=>False
 | _,_,_=>False
def fillD (place:Nat→Option (Nat × Nat × Bool)) (cells:Array Value):List (Nat × Value)→(Array Value→Prop)→Prop
 | [],K=>K cells
 | (i,v)::r,K=>match place i with
  | some (off,size,true)=>match v with
   | .agg cs=>bif Nat.beq cs.size size&&Nat.ble (off+cs.size) cells.size then fillD place (cs.zipIdx.foldl (fun cs (c,j)=>cs.setIfInBounds (off+j) c) cells) r K else False
   | _=>False
  | some (off,size,false)=>bif Nat.beq 1 size&&Nat.ble (off+1) cells.size then ocm v (fillD place (cells.setIfInBounds (off+0) v) r K) else False
  | none=>False
theorem Q1v {place:Nat→Option (Nat × Nat × Bool)} {place':Nat→Option (Nat × Nat)} (hp:∀i,place' i=(place i).map fun x=>(x.1,x.2.1)) (l:List (Nat × Value)) :
  ∀{cells:Array Value} {K:Array Value→Prop},fillD place cells l K→∃c,Instr.fill place' cells l=some c∧K c:=by
 induction l with
 | nil=>intro cells K h;exact ⟨_,rfl,h⟩
 | cons x r ih=>
  obtain ⟨i,v⟩:=x
  intro cells K h
  unfold fillD at h
  unfold Instr.fill
  rw [hp i]
  split at h
  ·rename_i off size hpi
   rw [hpi];simp only [Option.map_some]
   split at h
   ·rename_i cs
    cases hb:(Nat.beq cs.size size&&Nat.ble (off+cs.size) cells.size)<;>simp only [hb,cond_true,cond_false] at h
    simp only [Bool.and_eq_true,Nat.beq_eq,Nat.ble_eq] at hb
    have hc:¬((decide ((Value.agg cs).cells.size≠size) || decide (off+(Value.agg cs).cells.size>cells.size))=true):=by
     simp [Value.cells,hb.1];omega
    rw [if_neg hc]
    exact ih h
   ·exact h.elim
  ·rename_i off size hpi
   rw [hpi];simp only [Option.map_some]
   cases hb:(Nat.beq 1 size&&Nat.ble (off+1) cells.size)<;>simp only [hb,cond_true,cond_false] at h
   simp only [Bool.and_eq_true,Nat.beq_eq,Nat.ble_eq] at hb
   obtain ⟨h,hc,_⟩:=Zap h
   rw [hc,if_neg (by simp;omega)]
   have:=ih h
   simpa using this
  ·exact h.elim
def dbuild (P:Program) (t:TypeId) (parts:List (Nat × Value)) (K:Value→Prop):Prop:=
 match P.info? t with
 | some i=>match i.zero with
  | some z=>match P.underlying t with
   | some (.struct fs)=>bif fs.toList.all fun f=>(P.info? f.type).isSome then fillD (fun j=>(fs[j]?).map fun f=>(f.offset,szT P f.type,aggT P f.type)) z.cells parts fun cs=>K (.agg cs) else False
   | some (.array _ e)=>bif (P.info? e).isSome then fillD (fun j=>some (j*szT P e,szT P e,aggT P e)) z.cells parts fun cs=>K (.agg cs) else False
   | _=>False
  | none=>False
 | none=>False
def dblt (P:Program) (b:Builtin) (argTypes:List TypeId) (vs:List Value) (K:Value→Prop):Prop:=
 match b with
 | .len=>match vs,argTypes with
  | [x],t::_=>match P.underlying t with
   | some .string=>match x with | .string s=>K (.int .i64 s.size) | _=>False
   | some (.array n _)=>K (.int .i64 n)
   | some (.slice _)=>match x with | .slice _ n _=>K (.int .i64 n) | _=>False
   | _=>False
  | _,_=>False
 | .cap=>match vs,argTypes with
  | [x],t::_=>match P.underlying t with
   | some (.slice _)=>match x with | .slice _ _ n=>K (.int .i64 n) | _=>False
   | _=>False
  | _,_=>False
 | .min=>match vs with
  | [x,y]=>match x with | .int k a=>(match y with | .int _ b=>K (.int k (if b<a then b else a)) | _=>False) | _=>False
  | _=>False
 | .max=>match vs with
  | [x,y]=>match x with | .int k a=>(match y with | .int _ b=>K (.int k (if b>a then b else a)) | _=>False) | _=>False
  | _=>False
 | _=>False
def dpure (P:Program) (o:Oper) (ρ:Operand→Value) (K:Value→Prop):Prop:=
 match o.op with
 | .move x=>K (ρ x)
 | .assign x=>K (ρ x)
 | .pick c a b=>dpick (ρ c) (ρ a) (ρ b) K
 | .nilCheck x=>match ρ x with
  | .pointer p=>pt p fun a=>K (.pointer (some a))
  | .func (.func f) first cap=>K (.func (.func f) first cap)
  | _=>False
 | .fieldAddr s x f=>match P.underlying s with
  | some (.struct fs)=>match fs[f]? with
   | some fd=>bif Nat.beq (szT P fd.type) 0 || !(P.info? fd.type).isSome then False else match ρ x with
    | .pointer p=>pt p fun a=>K (.pointer (some (a.add fd.offset)))
    | _=>False
   | none=>False
  | _=>False
 | .field s x f=>match P.underlying s with
  | some (.struct fs)=>match fs[f]? with
   | some fd=>match ρ x with
    | .agg cs=>bif !(P.info? fd.type).isSome || !(P.underlying fd.type).isSome then False else bif aggT P fd.type then K (.agg (cs.extract fd.offset (fd.offset+szT P fd.type))) else match cs[fd.offset]? with | some v=>K v | none=>False
    | _=>False
   | none=>False
  | _=>False
 | .indexAddr t x ix=>match ρ ix with
  | .int _ n=>match P.underlying t with
   | some (.slice e)=>match ρ x with
    | .slice b l _=>bif (P.info? e).isSome then ixS b l n (szT P e) fun a=>K (.pointer (some a)) else False
    | _=>False
   | some (.array len e)=>match ρ x with
    | .pointer p=>bif (P.info? e).isSome then pt p fun a=>ixA a len n (szT P e) fun a=>K (.pointer (some a)) else False
    | _=>False
   | _=>False
  | _=>False
 | .index t x ix=>match ρ ix with
  | .int _ n=>match P.underlying t with
   | some (.array len e)=>match ρ x with
    | .agg cs=>match tyT P e with
     | .one l=>bif (P.info? e).isSome&&(P.underlying e).isSome&&!(aggT P e) then ixV cs len n (szT P e) l K else False
     | _=>False
    | _=>False
   | some .string=>match ρ x with
    | .string s=>ixStr s n fun b=>K (.int .u8 b)
    | _=>False
   | _=>False
  | _=>False
 | .binOp op xT x y _=>dbin P op xT (opIsConst x) (opIsConst y) (ρ x) (ρ y) K
 | .unOp op _ x=>match op with
  | .neg=>match ρ x with | .int k n=>K (.int k (k.wrap (0-n))) | _=>False
  | .xor=>match ρ x with | .int k n=>K (.int k (k.wrap ((BitVec.ofInt k.bits (if k.signed then -1 else k.max) ^^^ BitVec.ofInt k.bits n).toNat))) | _=>False
  | .not=>match ρ x with | .bool b=>K (.bool (!b)) | _=>False
  | _=>False
 | .convert src dst x=>match P.underlying src with
  | some _=>match P.underlying dst with
   | some (.int k)=>match ρ x with | .int _ n=>K (.int k (k.wrap n)) | _=>False
   | some .string=>match P.underlying src with | some .string=>(match ρ x with | .string s=>K (.string s) | _=>False) | _=>False
   | _=>False
  | none=>False
 | .makeInterface t x=>match P.underlying t with
  | some (.interface _)=>False
  | some _=>K (.iface t (ρ x))
  | none=>False
 | .makeFunc fn first cap=>K (.func fn (first.toList.map ρ).toArray (cap.toList.map ρ).toArray)
 | .slice t x lo hi mx=>dslice P t (ρ x) (lo.map ρ) (hi.map ρ) (mx.map ρ) K
 | .extract t ix=>match ρ t with
  | .tuple vs=>match vs[ix]? with | some v=>K v | none=>False
  | _=>False
 | .build t parts=>dbuild P t (parts.toList.map fun p=>(p.1,ρ p.2)) K
 | .call c=>match c.callee with
  | .builtin b=>dblt P b c.argTypes.toList (c.args.toList.map ρ) K
  | _=>False
 | _=>False
section
variable {P:Program} {K:Value→Prop} {ρ:Operand→Value}
def Gives (P:Program) (s:Sem Next) (v:Value):Prop:=∀w,s.run P w=.ok (.value v) w
theorem Qcw {s:Sem Value} {v:Value} (h:∀w,s.run P w=.ok v w):Gives P (do pure (.value (←s))) v:=fun w=>by rw [Qae (h w)];rfl
theorem Q2f (a:Addr):Instr.sureAddr (.pointer (some a))=pure a:=rfl
theorem Q6s {c a b:Value} (h:dpick c a b K):∃t v,c=.bool t∧v=(if t then a else b)∧K v:=by
 unfold dpick at h
 split at h
 ·rename_i t
  refine ⟨t,_,rfl,rfl,?_⟩
  split at h
  ·split at h
   ·cases t<;>exact h
   ·cases t<;>exact h
  ·cases t<;>exact h
 ·exact h.elim
theorem Qu3 {x:Option Value} (h:asI? x=some none):x=none:=by
 unfold asI? at h;split at h<;>simp_all
theorem Qu2 {x:Option Value} {n:Int} (h:asI? x=some (some n)):∃k,x=some (.int k n):=by
 unfold asI? at h;split at h<;>simp_all
theorem run_sliceBound {k:IntKind} {n:Int} {y:Nat} {code:BoundsCode} {w:World} (h0:0≤n) (h1:n≤(y:Int)):(Instr.sliceBound (.int k n) y code).run P w=.ok n.toNat w:=by
 simp [Instr.sliceBound,asIntOf,go_sem,h0,h1]
theorem Qug {isS:Bool} {len cap:Nat} {lo hi mx:Option Value} {lo' hi' mx':Option Int} (h1:asI? lo=some lo') (h2:asI? hi=some hi') (h3:asI? mx=some mx')
  (hx:¬(hi'=none∧mx'≠none)) {F:Nat→Nat→Nat→Prop} (h:slB mx' cap cap fun m=>slB hi' m len fun h=>slB lo' h 0 fun l=>F l h m) :
  ∃l h m,(∀w,(Instr.sliceBounds isS len cap lo hi mx).run P w=.ok (l,h,m) w)∧F l h m:=by
 cases mx' with
 | none=>
  obtain rfl:=Qu3 h3
  simp only [slB] at h
  cases hi' with
  | none=>
   obtain rfl:=Qu3 h2
   simp only [slB] at h
   cases lo' with
   | none=>obtain rfl:=Qu3 h1;exact ⟨_,_,_,fun w=>by simp [Instr.sliceBounds,go_sem],h⟩
   | some a=>obtain ⟨k,rfl⟩:=Qu2 h1;exact ⟨_,_,_,fun w=>by simp [Instr.sliceBounds,go_sem,run_sliceBound h.1 h.2.1],h.2.2⟩
  | some b=>
   obtain ⟨kb,rfl⟩:=Qu2 h2
   simp only [slB] at h
   cases lo' with
   | none=>obtain rfl:=Qu3 h1;exact ⟨_,_,_,fun w=>by simp [Instr.sliceBounds,go_sem,run_sliceBound h.1 h.2.1],h.2.2⟩
   | some a=>obtain ⟨k,rfl⟩:=Qu2 h1;exact ⟨_,_,_,fun w=>by simp [Instr.sliceBounds,go_sem,run_sliceBound h.1 h.2.1,run_sliceBound h.2.2.1 h.2.2.2.1],h.2.2.2.2⟩
 | some c=>
  obtain ⟨kc,rfl⟩:=Qu2 h3
  simp only [slB] at h
  cases hi' with
  | none=>exact (hx ⟨rfl,by simp⟩).elim
  | some b=>
   obtain ⟨kb,rfl⟩:=Qu2 h2
   simp only [slB] at h
   obtain ⟨hc0,hc1,hb0,hb1,h⟩:=h
   cases lo' with
   | none=>obtain rfl:=Qu3 h1;exact ⟨_,_,_,fun w=>by simp [Instr.sliceBounds,go_sem,run_sliceBound hc0 hc1,run_sliceBound hb0 hb1],h⟩
   | some a=>obtain ⟨k,rfl⟩:=Qu2 h1;exact ⟨_,_,_,fun w=>by simp [Instr.sliceBounds,go_sem,run_sliceBound hc0 hc1,run_sliceBound hb0 hb1,run_sliceBound h.1 h.2.1],h.2.2⟩
theorem Q5h {t:TypeId} {x:Value} {lo hi mx:Option Value} (h:dslice P t x lo hi mx K):∃v,(∀w,(Instr.sliceAt t x lo hi mx).run P w=.ok v w)∧K v:=by
 unfold dslice at h
 split at h
 ·rename_i lo' hi' mx' h1 h2 h3
  split at h
  ·rename_i hu
   split at h
   ·rename_i s
    have h':slB none s.size s.size fun m=>slB hi' m s.size fun h=>slB lo' h 0 fun l=>K (.string (s.extract l h)):=h
    obtain ⟨l,hh,m,hr,hk⟩:=Qug (P:=P) (isS:=false) h1 h2 h3 (by simp) h'
    obtain rfl:=Qu3 h3
    refine ⟨_,fun w=>?_,hk⟩
    unfold Instr.sliceAt
    rw [Qae (Qbt hu)]
    simp only []
    unfold Instr.slice
    rw [Qae (Qbt hu)]
    simp only [Option.isSome_none,Bool.false_eq_true,if_false]
    first
     | rw [Qae (hr w)];rfl
     | (simp only [pure_bind];rw [Qae (hr w)];rfl)
   ·exact h.elim
  ·rename_i e hu
   split at h
   ·split at h
    ·exact h.elim
    ·rename_i b len cap hn1 hn2 hn3
     cases hi:(P.info? e).isSome<;>simp only [hi,cond_true,cond_false] at h
     obtain ⟨l,hh,m,hr,hk⟩:=Qug (P:=P) (isS:=true) h1 h2 h3 (by rintro ⟨rfl,hm⟩;cases mx'<;>simp_all) h
     refine ⟨_,fun w=>?_,hk⟩
     unfold Instr.sliceAt
     rw [Qae (Qbt hu)]
     simp only []
     unfold Instr.slice
     rw [Qae (Qbt hu)]
     simp only []
     rw [Qae (hr w)]
     simp only []
     rw [Qae (Qi0 hi)]
     rfl
   ·exact h.elim
  ·rename_i n e hu
   split at h
   ·split at h
    ·exact h.elim
    ·rename_i p hn1 hn2 hn3
     cases hi:(P.info? e).isSome<;>simp only [hi,cond_true,cond_false] at h
     cases p with
     | none=>exact h.elim
     | some a=>
      simp only [pt] at h
      obtain ⟨l,hh,m,hr,hk⟩:=Qug (P:=P) (isS:=false) h1 h2 h3 (by rintro ⟨rfl,hm⟩;cases mx'<;>simp_all) h
      refine ⟨_,fun w=>?_,hk⟩
      unfold Instr.sliceAt
      rw [Qae (Qbt hu)]
      simp only []
      rw [Qae (a:=a) (w':=w) rfl]
      rw [Qae (hr w)]
      simp only []
      rw [Qae (Qi0 hi)]
      rfl
   ·exact h.elim
  ·exact h.elim
 ·exact h.elim
theorem Za1 {α β:Type} {f:α→Sem β} {g:α→β} (w:World) (l:List α) (h:∀a∈l,(f a).run P w=.ok (g a) w):(l.mapM f).run P w=.ok (l.map g) w:=by
 induction l with
 | nil=>rfl
 | cons a l ih=>
  rw [List.mapM_cons,Qae (h a (by simp)),Qae (ih fun b hb=>h b (by simp [hb]))]
  rfl
theorem Qys {α β:Type} {f:α→Sem β} {g:α→β} (w:World) (l:Array α) (h:∀a∈l,(f a).run P w=.ok (g a) w):(l.mapM f).run P w=.ok (l.map g) w:=by
 rw [Array.mapM_eq_mapM_toList,map_eq_pure_bind,Qae (Za1 (g:=g) w l.toList (fun a ha=>h a (by simpa using ha)))]
 simp [go_sem]
 apply Array.ext';simp
theorem Q5l {t:TypeId} {parts:List (Nat × Value)} (h:dbuild P t parts K):∃v,(∀w,(Instr.build t parts.toArray).run P w=.ok v w)∧K v:=by
 unfold dbuild at h
 split at h
 ·rename_i i hi
  split at h
  ·rename_i z hz
   have hzr:∀w,(zeroValue t).run P w=.ok z w:=fun w=>by
    unfold zeroValue;rw [Qae (Qpy hi),hz];rfl
   split at h
   ·rename_i fs hu
    cases hall:(fs.toList.all fun f=>(P.info? f.type).isSome)<;>simp only [hall,cond_true,cond_false] at h
    obtain ⟨cs,hf,hk⟩:=Q1v (place':=fun j=>(fs.map fun f=>(f.offset,szT P f.type))[j]?) (fun j=>by simp [Option.map_map];rfl) parts h
    refine ⟨_,fun w=>?_,hk⟩
    unfold Instr.build
    rw [Qae (hzr w),Qae (Qbt hu)]
    simp only []
    rw [Qae (Qys (g:=fun f=>(f.offset,szT P f.type)) w fs (fun f hf=>by
     rw [Qae (Qi0 (by simpa using List.all_eq_true.1 hall f (by simpa using hf)))];rfl))]
    simp only [hf]
    rfl
   ·rename_i n e hu
    cases hall:(P.info? e).isSome<;>simp only [hall,cond_true,cond_false] at h
    obtain ⟨cs,hf,hk⟩:=Q1v (place':=fun j=>some (j*szT P e,szT P e)) (fun j=>rfl) parts h
    refine ⟨_,fun w=>?_,hk⟩
    unfold Instr.build
    rw [Qae (hzr w),Qae (Qbt hu)]
    simp only []
    rw [Qae (Qi0 hall)]
    simp only [hf]
    rfl
   ·exact h.elim
  ·exact h.elim
 ·exact h.elim
theorem Q9n {b:Builtin} {ts:Array TypeId} {ty:TypeId} {cs:Array Bool} {vs:Array Value} (h:dblt P b ts.toList vs.toList K):∃v,Gives P (builtin b ts ty cs vs) v∧K v:=by
 obtain ⟨ts⟩:=ts
 obtain ⟨vs⟩:=vs
 unfold dblt at h
 simp only [] at h
 split at h
 ·split at h
  ·split at h
   ·rename_i hu
    split at h
    ·exact ⟨_,Qcw fun w=>by unfold Builtin.len_;simp [Qae (Qbt hu),goInt,go_sem],h⟩
    ·exact h.elim
   ·rename_i hu
    exact ⟨_,Qcw fun w=>by unfold Builtin.len_;simp [Qae (Qbt hu),goInt,go_sem],h⟩
   ·rename_i hu
    split at h
    ·exact ⟨_,Qcw fun w=>by unfold Builtin.len_;simp [Qae (Qbt hu),goInt,go_sem],h⟩
    ·exact h.elim
   ·exact h.elim
  ·exact h.elim
 ·split at h
  ·split at h
   ·rename_i hu
    split at h
    ·exact ⟨_,Qcw fun w=>by unfold Builtin.cap_;simp [Qae (Qbt hu),goInt,go_sem],h⟩
    ·exact h.elim
   ·exact h.elim
  ·exact h.elim
 ·split at h
  ·split at h
   ·split at h
    ·exact ⟨_,Qcw fun w=>by simp [Builtin.min_,Builtin.min2,go_sem],h⟩
    ·exact h.elim
   ·exact h.elim
  ·exact h.elim
 ·split at h
  ·split at h
   ·split at h
    ·exact ⟨_,Qcw fun w=>by simp [Builtin.max_,Builtin.max2,go_sem],h⟩
    ·exact h.elim
   ·exact h.elim
  ·exact h.elim
 ·exact h.elim
set_option maxHeartbeats 1000000 in
theorem Q1y {o:Oper} (h:dpure P o ρ K):∃v,Gives P (execOp ρ o) v∧K v:=by
 obtain ⟨dst,op,type,pos,after,guard⟩:=o
 cases op<;>simp only [dpure] at h<;>try exact h.elim
 case move x=>exact ⟨_,fun w=>rfl,h⟩
 case assign x=>exact ⟨_,fun w=>rfl,h⟩
 case pick c a b=>
  obtain ⟨t,v,hc,rfl,h⟩:=Q6s h
  exact ⟨_,fun w=>by simp [execOp,hc,asBool,go_sem],h⟩
 case nilCheck x=>
  split at h
  ·rename_i p hx
   cases p with
   | none=>exact h.elim
   | some a=>exact ⟨_,fun w=>by simp [execOp,hx],h⟩
  ·rename_i f first cap hx
   exact ⟨_,fun w=>by simp [execOp,hx],h⟩
  ·exact h.elim
 case fieldAddr s x f=>
  split at h
  ·rename_i fs hu
   split at h
   ·rename_i fd hf
    cases hb:(Nat.beq (szT P fd.type) 0 || !(P.info? fd.type).isSome)<;>simp only [hb,cond_true,cond_false] at h
    simp only [Bool.or_eq_false_iff,Bool.not_eq_false'] at hb
    obtain ⟨hb0,hb1⟩:=hb
    have hb0:szT P fd.type≠0:=fun e=>by rw [e] at hb0;cases hb0
    split at h
    ·rename_i p hx
     cases p with
     | none=>exact h.elim
     | some a=>
      refine ⟨_,Qcw fun w=>?_,h⟩
      unfold Instr.fieldAt
      rw [Qae (Qbt hu)]
      simp only [hf]
      rw [hx,Qae (a:=a) (w':=w) rfl]
      unfold fieldPlace
      simp only [bind_assoc]
      rw [Qae (Qi0 hb1),if_neg hb0]
      rfl
    ·exact h.elim
   ·exact h.elim
  ·exact h.elim
 case field s x f=>
  split at h
  ·rename_i fs hu
   split at h
   ·rename_i fd hf
    split at h
    ·rename_i cs hx
     cases hb:(!(P.info? fd.type).isSome || !(P.underlying fd.type).isSome)<;>simp only [hb,cond_true,cond_false] at h
     simp only [Bool.or_eq_false_iff,Bool.not_eq_false'] at hb
     obtain ⟨hb0,hb1⟩:=hb
     cases ha:aggT P fd.type<;>simp only [ha,cond_true,cond_false] at h
     ·split at h
      ·rename_i v hv
       refine ⟨_,Qcw fun w=>?_,h⟩
       unfold Instr.field
       rw [Qae (Qbt hu)]
       simp only [hf]
       rw [hx,Qae (a:=cs) (w':=w) rfl]
       unfold part
       rw [Qae (Quu hb1),ha]
       simp only [Bool.false_eq_true,if_false,hv]
       rfl
      ·exact h.elim
     ·refine ⟨_,Qcw fun w=>?_,h⟩
      unfold Instr.field
      rw [Qae (Qbt hu)]
      simp only [hf]
      rw [hx,Qae (a:=cs) (w':=w) rfl]
      unfold part
      rw [Qae (Quu hb1),ha]
      simp only [if_true]
      rw [Qae (Qi0 hb0)]
      rfl
    ·exact h.elim
   ·exact h.elim
  ·exact h.elim
 case indexAddr t x ix=>
  split at h
  ·rename_i k n hix
   split at h
   ·rename_i e hu
    split at h
    ·rename_i b l c hx
     cases hb:(P.info? e).isSome<;>simp only [hb,cond_true,cond_false] at h
     obtain ⟨a,rfl,h0,h1,h⟩:=h
     refine ⟨_,Qcw fun w=>?_,h⟩
     unfold Instr.indexAt
     rw [hix,Qae (a:=(k,n)) (w':=w) rfl]
     simp only [bind_assoc]
     rw [Qae (Qbt hu),hx]
     simp only [pure_bind]
     rw [Qae (Qbt hu)]
     simp only [h0,h1,and_self,if_true,pure_bind]
     rw [Qae (Qi0 hb)]
     rfl
    ·exact h.elim
   ·rename_i len e hu
    split at h
    ·rename_i p hx
     cases hb:(P.info? e).isSome<;>simp only [hb,cond_true,cond_false] at h
     cases p with
     | none=>exact h.elim
     | some a=>
      obtain ⟨h0,h1,h⟩:=h
      refine ⟨_,Qcw fun w=>?_,h⟩
      unfold Instr.indexAt
      rw [hix,Qae (a:=(k,n)) (w':=w) rfl]
      simp only [bind_assoc]
      rw [Qae (Qbt hu),hx]
      simp only [pure_bind,bind_assoc,Q2f]
      rw [Qae (Qbt hu)]
      simp only [h0,h1,and_self,if_true,pure_bind]
      rw [Qae (Qi0 hb)]
      rfl
    ·exact h.elim
   ·exact h.elim
  ·exact h.elim
 case index t x ix=>
  split at h
  ·rename_i k n hix
   split at h
   ·rename_i len e hu
    split at h
    ·rename_i cs hx
     split at h
     ·rename_i l hty
      cases hb:((P.info? e).isSome&&(P.underlying e).isSome&&!(aggT P e))<;>simp only [hb,cond_true,cond_false] at h
      simp only [Bool.and_eq_true,Bool.not_eq_true'] at hb
      obtain ⟨⟨hb1,hb2⟩,hb3⟩:=hb
      obtain ⟨v,h0,h1,hv,h⟩:=Qy1 h
      refine ⟨_,Qcw fun w=>?_,h⟩
      unfold Instr.index
      rw [hix,Qae (a:=(k,n)) (w':=w) rfl]
      simp only []
      rw [Qae (Qbt hu),hx]
      simp only [h0,h1,and_self,if_true]
      rw [Qae (Qi0 hb1)]
      unfold part
      rw [Qae (Quu hb2),hb3]
      simp only [Bool.false_eq_true,if_false,hv]
      rfl
     ·exact h.elim
    ·exact h.elim
   ·rename_i hu
    split at h
    ·rename_i s hx
     obtain ⟨b,h0,hb,h⟩:=h
     refine ⟨_,Qcw fun w=>?_,h⟩
     unfold Instr.index
     rw [hix,Qae (a:=(k,n)) (w':=w) rfl]
     simp only []
     rw [Qae (Qbt hu),hx]
     simp only [h0,if_true,hb]
     rfl
    ·exact h.elim
   ·exact h.elim
  ·exact h.elim
 case binOp op xT x y yT=>
  obtain ⟨v,hv,h⟩:=Q9o h
  exact ⟨v,Qcw hv,h⟩
 case unOp op xT x=>
  split at h
  ·split at h
   ·rename_i hx;exact ⟨_,Qcw fun w=>by rw [hx];rfl,h⟩
   ·exact h.elim
  ·split at h
   ·rename_i hx;exact ⟨_,Qcw fun w=>by rw [hx];rfl,h⟩
   ·exact h.elim
  ·split at h
   ·rename_i hx;exact ⟨_,Qcw fun w=>by rw [hx];rfl,h⟩
   ·exact h.elim
  ·exact h.elim
 case convert src dst x=>
  split at h
  ·rename_i d hs
   split at h
   ·rename_i k hd
    split at h
    ·rename_i k' n hx
     refine ⟨_,Qcw fun w=>?_,h⟩
     unfold convert
     rw [Qae (Qbt hs),Qae (Qbt hd),hx]
     cases d<;>rfl
    ·exact h.elim
   ·rename_i hd
    split at h
    ·rename_i hs2
     rw [hs] at hs2
     obtain rfl:=Option.some.inj hs2
     split at h
     ·rename_i s hx
      refine ⟨_,Qcw fun w=>?_,h⟩
      unfold convert
      rw [Qae (Qbt hs),Qae (Qbt hd),hx]
      rfl
     ·exact h.elim
    ·exact h.elim
   ·exact h.elim
  ·exact h.elim
 case makeInterface t x=>
  split at h
  ·exact h.elim
  ·rename_i d hni hu
   refine ⟨_,Qcw fun w=>?_,h⟩
   unfold Instr.makeInterface
   rw [Qae (Qbt hu)]
   cases d<;>first | rfl | exact (hni _ rfl).elim
  ·exact h.elim
 case makeFunc fn first cap=>
  refine ⟨_,Qcw fun w=>?_,h⟩
  have e:∀l:Array Operand,l.map ρ=(l.toList.map ρ).toArray:=fun l=>by apply Array.ext';simp
  simp only [Instr.makeFunc,e]
  rfl
 case slice t x lo hi mx=>
  obtain ⟨v,hv,h⟩:=Q5h h
  exact ⟨v,Qcw hv,h⟩
 case extract t ix=>
  split at h
  ·rename_i vs hx
   split at h
   ·rename_i v hv
    exact ⟨_,Qcw fun w=>by simp [Instr.extract,hx,hv,go_sem],h⟩
   ·exact h.elim
  ·exact h.elim
 case build t parts=>
  obtain ⟨v,hv,h⟩:=Q5l h
  refine ⟨v,Qcw fun w=>?_,h⟩
  rw [←hv w]
  congr 2
  apply Array.ext'
  simp
 case call c=>
  split at h
  ·rename_i b hc
   obtain ⟨v,hv,h⟩:=Q9n (P:=P) (ts:=c.argTypes) (vs:=c.args.map ρ) (ty:=type) (cs:=c.args.map fun | .const _=>true | _=>false) (by simpa using h)
   refine ⟨v,fun w=>?_,h⟩
   have hr:resolve ρ c type=pure {target:=.builtin b c.argTypes type (c.args.map fun | .const _=>true | _=>false),args:=c.args.map ρ}:=by
    unfold resolve;rw [hc];rfl
   show (do let d ←resolve ρ c type;invoke d.target d.args:Sem Next).run P w=_
   rw [hr,pure_bind]
   exact hv w
  ·exact h.elim
end
def ldL (l:Lf) (a:Addr) (w:World) (K:Value→Prop):Prop:=exL l fun v=>w.cell? a=some v∧K v
def ldLs:List Lf→Addr→Nat→World→(List Value→Prop)→Prop
 | [],_,_,_,K=>K []
 | l::r,a,i,w,K=>ldL l (a.add i) w fun v=>ldLs r a (i+1) w fun vs=>K (v::vs)
def heldAt (a:Addr):Nat→List Value→List (Addr × Value)
 | _,[]=>[]
 | i,v::vs=>(a.add i,v)::heldAt a (i+1) vs
def dload (P:Program) (t:TypeId) (x:Value) (w:World) (K:List (Addr × Value)→Value→Prop):Prop:=
 match x with
 | .pointer p=>pt p fun a=>match leavesT P 8 t with
  | some ls=>bif aggT P t
   then (bif Nat.beq ls.length (szT P t)&&(P.info? t).isSome then ldLs ls a 0 w fun vs=>K (heldAt a 0 vs) (.agg vs.toArray) else False)
   else (match ls with | [l]=>bif (P.underlying t).isSome then ldL l a w (fun v=>K [(a,v)] v) else False | _=>False)
  | none=>False
 | _=>False
def Holds (H:List (Addr × Value)) (w:World):Prop:=∀p∈H,w.cell? p.1=some p.2
section
variable {P:Program}
theorem Zep (ls:List Lf) (a:Addr):∀(i:Nat) (w:World) (K:List Value→Prop),ldLs ls a i w K→∃vs,vs.length=ls.length∧Holds (heldAt a i vs) w∧K vs:=by
 induction ls with
 | nil=>intro i w K h;exact ⟨[],rfl,(by intro p hp;cases hp),h⟩
 | cons l r ih=>
  intro i w K h
  simp only [ldLs,ldL] at h
  obtain ⟨v,hv,h⟩:=Qy1 h
  obtain ⟨vs,hl,hh,h⟩:=ih _ _ _ h
  refine ⟨v::vs,by simp [hl],?_,h⟩
  intro p hp
  simp only [heldAt,List.mem_cons] at hp
  rcases hp with rfl | hp
  ·exact hv
  ·exact hh p hp
theorem run_load {a:Addr} {w:World} {v:Value} (h:w.cell? a=some v):(load a:Sem Value).run P w=.ok v w:=by
 simp [load,Sem.run,h]
theorem Q2k (a:Addr) (w:World):∀(vs:List Value) (i:Nat) (acc:Array Value),Holds (heldAt a i vs) w→(loadCellsFrom a i vs.length acc).run P w=.ok (acc++vs.toArray) w:=by
 intro vs
 induction vs with
 | nil=>intro i acc _;simp [loadCellsFrom,go_sem]
 | cons v vs ih=>
  intro i acc h
  simp only [List.length_cons,loadCellsFrom]
  rw [Qae (run_load (h (a.add i,v) (by simp [heldAt])))]
  rw [ih (i+1) (acc.push v) (fun p hp=>h p (by simp [heldAt,hp]))]
  simp
theorem Qqw {t:TypeId} {x:Value} {w:World} {K:List (Addr × Value)→Value→Prop} (h:dload P t x w K) :
  ∃v H,K H v∧Holds H w∧∀w',Holds H w'→(Instr.loadAt t x).run P w'=.ok v w':=by
 unfold dload at h
 split at h
 ·rename_i p
  cases p with
  | none=>exact h.elim
  | some a=>
   simp only [pt] at h
   split at h
   ·rename_i ls hls
    cases ha:aggT P t<;>simp only [ha,cond_true,cond_false] at h
    ·split at h
     ·rename_i l
      cases hu:(P.underlying t).isSome<;>simp only [hu,cond_true,cond_false] at h
      obtain ⟨v,hv,h⟩:=Qy1 h
      refine ⟨v,_,h,by intro p hp;simp only [List.mem_singleton] at hp;subst hp;exact hv,fun w' hw'=>?_⟩
      unfold Instr.loadAt
      rw [Qae (a:=a) (w':=w') rfl]
      unfold loadVar
      rw [Qae (Quu hu),ha]
      exact run_load (hw' (a,v) (by simp))
     ·exact h.elim
    ·cases hb:(Nat.beq ls.length (szT P t)&&(P.info? t).isSome)<;>simp only [hb,cond_true,cond_false] at h
     simp only [Bool.and_eq_true,Nat.beq_eq] at hb
     obtain ⟨vs,hl,hh,h⟩:=Zep _ _ _ _ _ h
     refine ⟨_,_,h,hh,fun w' hw'=>?_⟩
     have hu:(P.underlying t).isSome=true:=by unfold aggT at ha;split at ha<;>simp_all
     unfold Instr.loadAt
     rw [Qae (a:=a) (w':=w') rfl]
     unfold loadVar
     rw [Qae (Quu hu),ha]
     simp only [if_true,bind_assoc]
     rw [Qae (Qi0 hb.2)]
     have hn:szT P t=vs.length:=by rw [hl,←hb.1]
     have:=Q2k (P:=P) a w' vs 0 #[] hw'
     rw [hn]
     unfold loadCells
     rw [Qae this]
     simp [go_sem]
   ·exact h.elim
 ·exact h.elim
end
def alo (cs:Array Value) (e:TypeId) (w:World) (K:Addr→World→Prop):Prop:=K ⟨w.heap.size,0,none⟩ (w.alloc (.cells cs e))
def sto (a:Addr) (v:Value) (w:World) (K:World→Prop):Prop:=oneC v=true∧(∃u,w.cell? a=some u)∧w.frozen? a=false∧K (w.setCell a v)
def stos:List Value→Addr→Nat→World→(World→Prop)→Prop
 | [],_,_,w,K=>K w
 | v::r,a,i,w,K=>sto (a.add i) v w fun w'=>stos r a (i+1) w' K
def Qby (z:Array Value) (n:Nat):Array Value:=((List.replicate n z.toList).flatten).toArray
def dcv (P:Program) (E:List FuncId) (f:Value) (args:List Value) (w:World) (F:Ending→World→Prop):Prop:=
 match f with
 | .func (.func g) first cap=>bif E.contains g then Calls P g ((first.toList++args)++cap.toList).toArray w F else False
 | _=>False
def RUN (P:Program) (s:Sem Value) (ty:Ty) (w:World) (K:Value→World→Prop):Prop:=
 exT ty fun v=>∃w',s.run P w=.ok v w'∧K v w'
def RUNU (P:Program) (s:Sem Unit) (w:World) (K:World→Prop):Prop:=∃w',s.run P w=.ok () w'∧K w'
def mkS (P:Program) (e:TypeId) (l c:Int) (w:World) (K:Value→World→Prop):Prop:=
 0≤l∧l≤c∧(byT P e:Int)*c≤140737488355328∧
  match P.info? e with
  | some i=>match i.zero with
   | some z=>bif Nat.blt 0 i.bytes&&Nat.blt 0 i.size&&Nat.beq i.size z.cells.size then alo (Qby z.cells c.toNat) e w fun a w'=>K (.slice (some a) l.toNat c.toNat) w' else False
   | none=>False
  | none=>False
def Zch (P:Program) (t:TypeId) (len:Nat) (parts:List (Nat × Value)) (w:World) (K:Value→World→Prop):Prop:=
 match P.underlying t with
 | some (.slice e)=>match P.info? e with
  | some i=>match i.zero with
   | some z=>bif Nat.ble (len*i.size) 16777216&&Nat.beq i.size z.cells.size
     then fillD (fun j=>some (j*szT P e,szT P e,aggT P e)) (Qby z.cells len) parts fun cs=>alo cs e w fun a w'=>K (.slice (some a) len len) w'
     else False
   | none=>False
  | none=>False
 | _=>False
def deff (P:Program) (E:List FuncId) (o:Oper) (ρ:Operand→Value) (w:World) (K:Value→World→Prop):Prop:=
 match o.op with
 | .alloc e=>match P.info? e with
  | some i=>match i.zero with
   | some z=>alo z.cells e w fun a w'=>K (.pointer (some a)) w'
   | none=>False
  | none=>False
 | .box e x=>bif aggT P e
   then (match ρ x with | .agg cs=>alo cs e w fun a w'=>K (.pointer (some a)) w' | _=>False)
   else ocm (ρ x) (alo #[ρ x] e w fun a w'=>K (.pointer (some a)) w')
 | .buildSlice t len parts=>Zch P t len (parts.toList.map fun p=>(p.1,ρ p.2)) w K
 | .store t a x=>match ρ a with
  | .pointer p=>pt p fun ad=>bif (P.info? t).isSome then (bif aggT P t
   then (match ρ x with | .agg cs=>bif Nat.beq cs.size (szT P t) then stos cs.toList ad 0 w fun w'=>K undef w' else False | _=>False)
   else (bif Nat.beq 1 (szT P t) then sto (ad.add 0) (ρ x) w fun w'=>K undef w' else False)) else False
  | _=>False
 | .makeSlice t l c=>match P.underlying t with
  | some (.slice e)=>match ρ l with
   | .int _ l=>match ρ c with
    | .int _ c=>mkS P e l c w K
    | _=>False
   | _=>False
  | _=>False
 | .call c=>match c.callee with
  | .value f=>dcv P E (ρ f) (c.args.toList.map ρ) w fun e w'=>exT (tyT P o.type) fun v=>e=.returned v∧K v w'
  | .builtin b=>match b with
   | .append=>RUN P (Builtin.append_ c.argTypes o.type (c.args.toList.map ρ).toArray) (.one .slc) w K
   | .copy=>RUN P (Builtin.copy_ c.argTypes o.type (c.args.toList.map ρ).toArray) (.one (.int .i64)) w K
   | .clear=>RUN P (Builtin.clear_ c.argTypes o.type (c.args.toList.map ρ).toArray) (tyT P o.type) w K
   | .delete=>RUN P (Builtin.delete_ c.argTypes o.type (c.args.toList.map ρ).toArray) (tyT P o.type) w K
   | .len=>RUN P (Builtin.len_ c.argTypes o.type (c.args.toList.map ρ).toArray) (.one (.int .i64)) w K
   | .min=>RUN P (Builtin.min_ c.argTypes o.type (c.args.toList.map ρ).toArray) (tyT P o.type) w K
   | .max=>RUN P (Builtin.max_ c.argTypes o.type (c.args.toList.map ρ).toArray) (tyT P o.type) w K
   | _=>False
  | _=>False
 | .binOp op xT x y _=>RUN P (do eqGuard op xT x y (ρ x) (ρ y);binOp op xT (ρ x) (ρ y)) (tyT P o.type) w K
 | .convert src dst x=>RUN P (convert src dst (ρ x)) (tyT P o.type) w K
 | .index t x ix=>RUN P (Instr.index t (ρ x) (ρ ix)) (tyT P o.type) w K
 | .makeMap t r=>RUN P (Instr.makeMap t (r.map ρ)) (tyT P o.type) w K
 | .lookup t x ix ok=>RUN P (Instr.lookup t (ρ x) (ρ ix) ok) (tyT P o.type) w K
 | .typeAssert x xT a ok=>RUN P (Instr.typeAssert (ρ x) xT a ok) (tyT P o.type) w K
 | .mapUpdate t m k x=>RUNU P (Instr.mapUpdate t (ρ m) (ρ k) (ρ x)) w fun w'=>K undef w'
 | .mapEntry t m k=>RUN P (Instr.mapEntry t (ρ m) (ρ k)) (tyT P o.type) w K
 | .entryStore t m s x=>RUNU P (Instr.entryStore t (ρ m) (ρ s) (ρ x)) w fun w'=>K undef w'
 | .range t x=>RUN P (Instr.range t (ρ x)) (.one .ptr) w K
 | .next it s=>(∃w',(Instr.next (ρ it) s o.type).run P w=.ok (.tuple #[.bool false]) w'∧K (.tuple #[.bool false]) w')∨RUN P (Instr.next (ρ it) s o.type) (tyT P o.type) w K
 | _=>False
def enters (P:Program) (g:FuncId):Prop:=∀args w,(callFunc g args).run P w=.ok (.enter g args) w
section
variable {P:Program} {Q:Exit→Act→World→Prop} {next:Act→World→Prop} {a:Act} {w:World} {o:Oper} {K:Value→World→Prop}
theorem Q5u {v:Value} (h:Gives P (execOp a.eval o) v) (hk:next (a.put o.dst v) w):o.wp P a w next Q:=by
 unfold Oper.wp;rw [h w];exact hk
theorem Qgj {v:Value} {w':World} (h:(execOp a.eval o).run P w=.ok (.value v) w') (hk:next (a.put o.dst v) w'):o.wp P a w next Q:=by
 unfold Oper.wp;rw [h];exact hk
theorem Qus {w':World} (h:(execOp a.eval o).run P w=.ok .skip w') (hk:next (a.put o.dst undef) w'):o.wp P a w next Q:=by
 unfold Oper.wp;rw [h];exact hk
theorem Q0c {s:Sem Value} {v:Value} {w w':World} (h:s.run P w=.ok v w'):(do pure (.value (←s)):Sem Next).run P w=.ok (.value v) w':=by rw [Qae h];rfl
theorem Zdu {s:Sem Unit} {w w':World} (h:s.run P w=.ok () w'):(do s;pure .skip:Sem Next).run P w=.ok .skip w':=by rw [Qae h];rfl
theorem Q63 {s:Sem Value} {ty:Ty} (h:RUN P s ty w K):∃v w',s.run P w=.ok v w'∧K v w':=by
 obtain ⟨v,w',h⟩:=Zb6 h;exact ⟨v,w',h⟩
theorem Qut {e:TypeId} {cs:Array Value} {w:World}:(newRow e cs).run P w=.ok ⟨w.heap.size,0,none⟩ (w.alloc (.cells cs e)):=rfl
theorem Q2p (z:Array Value) (n:Nat):(Array.range (n*z.size)).map (fun i=>z[i % z.size]!)=Qby z n:=by
 apply Array.ext'
 simp only [Qby,Array.toList_map,Array.toList_range]
 induction n with
 | zero=>simp
 | succ n ih=>
  rw [Nat.succ_mul,List.range_add,List.map_append,ih,List.replicate_succ',List.flatten_append]
  congr 1
  simp only [List.map_map,List.flatten_cons,List.flatten_nil,List.append_nil]
  apply List.ext_getElem
  ·simp
  ·intro i h1 h2
   simp only [List.length_map,List.length_range] at h1
   simp [Nat.mul_add_mod_of_lt,h1,Nat.mod_eq_of_lt h1]
theorem Zh3 {a:Addr} {v:Value} {w:World} {K:World→Prop} (h:sto a v w K):∃w',(store a v).run P w=.ok () w'∧K w':=by
 obtain ⟨h1,⟨u,hu⟩,hf,hk⟩:=h
 refine ⟨_,?_,hk⟩
 unfold store
 cases v<;>first | (simp [oneC] at h1;done) | simp [Sem.run,hu,hf]
theorem Q7i (vs:List Value) (a:Addr):∀(i:Nat) (w:World) (K:World→Prop),stos vs a i w K→∃w',(storeCells a vs i).run P w=.ok () w'∧K w':=by
 induction vs with
 | nil=>intro i w K h;exact ⟨w,rfl,h⟩
 | cons v r ih=>
  intro i w K h
  obtain ⟨w1,h1,h⟩:=Zh3 (P:=P) h
  obtain ⟨w2,h2,h⟩:=ih _ _ _ h
  refine ⟨w2,?_,h⟩
  unfold storeCells
  rw [Qae h1,h2]
theorem Qzj {n:Int} (h0:0≤n) (h1:n≤140737488355328):IntKind.i64.wrap n=n:=by
 rw [IntKind.wrap_i64];omega
theorem run_makeSlice {t e:TypeId} {i:TypeInfo} {z:Value} {k k':IntKind} {l c:Int} {w:World} (hu:P.underlying t=some (.slice e)) (hi:P.info? e=some i) (hz:i.zero=some z)
  (h0:0≤l) (h1:l≤c) (hb:(i.bytes:Int)*c≤140737488355328) (hb0:0<i.bytes) (hs0:0<i.size) (hsz:i.size=z.cells.size) :
  (Instr.makeSlice t (.int k l) (.int k' c)).run P w=.ok (.slice (some ⟨w.heap.size,0,none⟩) l.toNat c.toNat) (w.alloc (.cells (Qby z.cells c.toNat) e)):=by
 have hc:c≤140737488355328:=by
  have:(1:Int)*c≤(i.bytes:Int)*c:=Int.mul_le_mul_of_nonneg_right (by omega) (by omega)
  omega
 unfold Instr.makeSlice
 rw [Qae (Qbt hu)]
 simp only []
 rw [Qae (a:=l) (w':=w) rfl,Qae (a:=c) (w':=w) rfl,Qae (Qpy hi)]
 simp only [Qzj h0 (by omega:l≤140737488355328),Qzj (by omega:0≤c) hc]
 have h2:(decide (c<0) || decide ((i.bytes:Int)*c>2 ^ 48))=false:=by simp;omega
 have h3:¬((decide (c<0) || decide ((i.bytes:Int)*c>2 ^ 48))=true∨decide (l<0)=true):=by simp;omega
 have h4:(decide (l<0))=false:=by simp;omega
 have h5:(decide (l>c))=false:=by simp;omega
 simp only [h2,h4,h5,Bool.false_or,Bool.or_false,Bool.false_eq_true,if_false]
 have hroom:¬(c.toNat*i.bytes>roomBytes):=by
  unfold roomBytes
  have:((c.toNat*i.bytes:Nat):Int)≤140737488355328:=by
   rw [Int.natCast_mul,Int.toNat_of_nonneg (by omega),Int.mul_comm];exact hb
  omega
 simp only [askRoom,if_neg hroom,pure_bind]
 have hsi:(P.info? e).isSome=true:=by simp [hi]
 have hsz':szT P e=i.size:=by unfold szT;rw [hi]
 rw [Qae (Qi0 hsi),hsz']
 have hzr:∀w,(zeroValue e).run P w=.ok z w:=fun w=>by
  unfold zeroValue;rw [Qae (Qpy hi),hz];rfl
 by_cases hn:c.toNat*i.size=0
 ·have hc0:c.toNat=0:=by rcases Nat.mul_eq_zero.1 hn with h | h<;>omega
  simp only [hc0,Nat.zero_mul,if_true,pure_bind]
  rw [Qae Qut]
  have hz0:Qby z.cells 0=#[]:=rfl
  rw [hz0]
  simp [go_sem]
 ·rw [if_neg hn,Qae (hzr w)]
  rw [Qae Qut,hsz,Q2p]
  rfl
theorem Q2i {t e:TypeId} {i:TypeInfo} {z:Value} {len:Nat} {parts:List (Nat × Value)} {cs:Array Value} {w:World} (hu:P.underlying t=some (.slice e)) (hi:P.info? e=some i) (hz:i.zero=some z)
  (h1:len*i.size≤16777216) (hsz:i.size=z.cells.size) (hf:Instr.fill (fun j=>some (j*szT P e,szT P e)) (Qby z.cells len) parts=some cs) :
  (Instr.buildSlice t len parts.toArray).run P w=.ok (.slice (some ⟨w.heap.size,0,none⟩) len len) (w.alloc (.cells cs e)):=by
 have hsi:(P.info? e).isSome=true:=by simp [hi]
 have hsz':szT P e=i.size:=by unfold szT;rw [hi]
 have hzr:∀w,(zeroValue e).run P w=.ok z w:=fun w=>by
  unfold zeroValue;rw [Qae (Qpy hi),hz];rfl
 unfold Instr.buildSlice
 rw [Qae (Qbt hu)]
 simp only []
 rw [Qae (Qi0 hsi),hsz',if_neg (by omega)]
 simp only [pure_bind]
 have hz2:(Array.range (len*i.size)).map (fun j=>z.cells[j % z.cells.size]!)=Qby z.cells len:=by rw [hsz,Q2p]
 rw [hsz'] at hf
 by_cases h0:len*i.size=0
 ·rw [if_pos h0]
  have hz3:(Array.range (len*i.size)).map (fun j=>(#[]:Array Value)[j % (#[]:Array Value).size]!)=Qby z.cells len:=by
   rw [←hz2,h0]
   apply Array.ext'
   simp
  rw [hz3]
  simp only [hf]
  rw [Qae Qut]
  rfl
 ·rw [if_neg h0,Qae (hzr w)]
  rw [hz2]
  simp only [hf]
  rw [Qae Qut]
  rfl
set_option maxHeartbeats 1000000 in
theorem Q9m {E:List FuncId} (hE:∀g∈E,enters P g) (h:deff P E o a.eval w K) (hk:∀v w',K v w'→next (a.put o.dst v) w'):o.wp P a w next Q:=by
 obtain ⟨dst,op,type,pos,after,guard⟩:=o
 cases op<;>simp only [deff] at h<;>try exact h.elim
 case alloc e=>
  split at h
  ·rename_i i hi
   split at h
   ·rename_i z hz
    refine Qgj (Q0c ?_) (hk _ _ h)
    unfold Instr.alloc
    have hzr:∀w,(zeroValue e).run P w=.ok z w:=fun w=>by
     unfold zeroValue;rw [Qae (Qpy hi),hz];rfl
    rw [Qae (hzr w)]
    rfl
   ·exact h.elim
  ·exact h.elim
 case box e x=>
  cases ha:aggT P e<;>simp only [ha,cond_true,cond_false] at h
  ·obtain ⟨h,hc,_⟩:=Zap h
   refine Qgj (Q0c ?_) (hk _ _ h)
   unfold Instr.box newVar
   rw [hc];rfl
  ·split at h
   ·rename_i cs hx
    refine Qgj (Q0c ?_) (hk _ _ h)
    unfold Instr.box newVar
    rw [hx];rfl
   ·exact h.elim
 case buildSlice t len parts=>
  unfold Zch at h
  split at h
  ·rename_i e hu
   split at h
   ·rename_i i hi
    split at h
    ·rename_i z hz
     cases hb:(Nat.ble (len*i.size) 16777216&&Nat.beq i.size z.cells.size)<;>simp only [hb,cond_true,cond_false] at h
     simp only [Bool.and_eq_true,Nat.ble_eq,Nat.beq_eq] at hb
     obtain ⟨hb1,hb3⟩:=hb
     obtain ⟨cs,hf,h⟩:=Q1v (place':=fun j=>some (j*szT P e,szT P e)) (fun j=>rfl) _ h
     refine Qgj (Q0c ?_) (hk _ _ h)
     have:=Q2i (w:=w) hu hi hz hb1 hb3 hf
     rw [←this]
     congr 2
     apply Array.ext'
     simp
    ·exact h.elim
   ·exact h.elim
  ·exact h.elim
 case store t ad x=>
  split at h
  ·rename_i p hp
   cases p with
   | none=>exact h.elim
   | some b=>
    simp only [pt] at h
    cases hi:(P.info? t).isSome<;>simp only [hi,cond_true,cond_false] at h
    have hst:∀cs:List Value,(Act.eval a x).cells=cs.toArray→cs.length=szT P t→∀w',(storeCells b cs).run P w=.ok () w'→(Instr.storeAt t (Act.eval a ad) (Act.eval a x)).run P w=.ok () w':=by
     intro cs hcs hl w' hr
     unfold Instr.storeAt
     rw [hp,Qae (a:=b) (w':=w) rfl]
     unfold storeVar
     rw [Qae (Qi0 hi),hcs]
     have:¬(cs.toArray.size≠szT P t):=by simp [hl]
     rw [if_neg this]
     exact hr
    cases ha:aggT P t<;>simp only [ha,cond_true,cond_false] at h
    ·cases hb:Nat.beq 1 (szT P t)<;>simp only [hb,cond_true,cond_false] at h
     rw [Nat.beq_eq] at hb
     have hoc:oneC (Act.eval a x)=true:=h.1
     obtain ⟨w',hr,h⟩:=Q7i (P:=P) [Act.eval a x] b 0 w (fun w'=>K undef w') h
     refine Qus (Zdu (hst [Act.eval a x] ?_ hb w' hr)) (hk _ _ h)
     cases hv:Act.eval a x<;>simp_all [Value.cells,oneC]
    ·split at h
     ·rename_i cs hx
      cases hb:Nat.beq cs.size (szT P t)<;>simp only [hb,cond_true,cond_false] at h
      rw [Nat.beq_eq] at hb
      obtain ⟨w',hr,h⟩:=Q7i (P:=P) _ _ _ _ _ h
      exact Qus (Zdu (hst cs.toList (by rw [hx];simp [Value.cells]) (by simpa using hb) w' hr)) (hk _ _ h)
     ·exact h.elim
  ·exact h.elim
 case makeSlice t l c=>
  split at h
  ·rename_i e hu
   split at h
   ·rename_i kl l' hl
    split at h
    ·rename_i kc c' hc
     obtain ⟨h0,h1,hb,h⟩:=h
     split at h
     ·rename_i i hi
      split at h
      ·rename_i z hz
       cases hg:(Nat.blt 0 i.bytes&&Nat.blt 0 i.size&&Nat.beq i.size z.cells.size)<;>simp only [hg,cond_true,cond_false] at h
       simp only [Bool.and_eq_true,Nat.blt_eq,Nat.beq_eq] at hg
       obtain ⟨⟨hg1,hg2⟩,hg3⟩:=hg
       refine Qgj (Q0c ?_) (hk _ _ h)
       rw [hl,hc]
       exact run_makeSlice hu hi hz h0 h1 (by unfold byT at hb;rw [hi] at hb;exact hb) hg1 hg2 hg3
      ·exact h.elim
     ·exact h.elim
    ·exact h.elim
   ·exact h.elim
  ·exact h.elim
 case call c=>
  have hcall:∀(d:Deferred),resolve a.eval c type=pure d→∀r,(invoke d.target d.args).run P w=r→(execOp a.eval {dst,op:=.call c,type,pos,after,guard}).run P w=r:=by
   intro d hd r hr
   show (do let d ←resolve a.eval c type;invoke d.target d.args:Sem Next).run P w=r
   rw [hd,pure_bind];exact hr
  have hargs:(c.args.toList.map a.eval).toArray=c.args.map a.eval:=by apply Array.ext';simp
  have hblt:∀(b:Builtin) (s:Sem Value) (ty:Ty),c.callee=.builtin b→(builtin b c.argTypes type (c.args.map fun | .const _=>true | _=>false) (c.args.map a.eval)=(do pure (.value (←s))))→RUN P s ty w K→Oper.wp P {dst,op:=.call c,type,pos,after,guard} a w next Q:=by
   intro b s ty hc hs hr
   obtain ⟨v,w',hr,h⟩:=Q63 hr
   refine Qgj (hcall {target:=.builtin b c.argTypes type (c.args.map fun | .const _=>true | _=>false),args:=c.args.map a.eval} (by unfold resolve;rw [hc];rfl) _ ?_) (hk _ _ h)
   show (builtin b c.argTypes type _ (c.args.map a.eval)).run P w=_
   rw [hs];exact Q0c hr
  split at h
  ·rename_i f hc
   unfold dcv at h
   split at h
   ·rename_i g first cap hf
    cases hg:E.contains g<;>simp only [hg,cond_true,cond_false] at h
    have hgE:g∈E:=by simpa using hg
    unfold Oper.wp
    rw [hcall {target:=.fn (.func g) cap,args:=first++c.args.map a.eval} (by unfold resolve;rw [hc];simp only [hf];rfl) _ rfl]
    have hi:(invoke (.fn (.func g) cap) (first++c.args.map a.eval)).run P w=.ok (.enter g (((first.toList++c.args.toList.map a.eval)++cap.toList).toArray)) w:=by
     show (callFunc g ((first++c.args.map a.eval)++cap)).run P w=_
     rw [hE g hgE]
     congr 2
     apply Array.ext'
     simp
    rw [hi]
    refine Calls.mono h fun e w' he=>?_
    obtain ⟨v,rfl,hv⟩:=Zb6 he
    exact hk _ _ hv
   ·exact h.elim
  ·rename_i b hc
   split at h
   ·exact hblt _ _ _ hc (by rw [←hargs];rfl) h
   ·exact hblt _ _ _ hc (by rw [←hargs];rfl) h
   ·exact hblt _ _ _ hc (by rw [←hargs];rfl) h
   ·exact hblt _ _ _ hc (by rw [←hargs];rfl) h
   ·exact hblt _ _ _ hc (by rw [←hargs];rfl) h
   ·exact hblt _ _ _ hc (by rw [←hargs];rfl) h
   ·exact hblt _ _ _ hc (by rw [←hargs];rfl) h
   ·exact h.elim
  ·exact h.elim
 case next=>
  rcases h with ⟨w',hr,h⟩ | h
  ·exact Qgj (Q0c hr) (hk _ _ h)
  ·obtain ⟨v,w',hr,h⟩:=Q63 h
   exact Qgj (Q0c hr) (hk _ _ h)
 case mapUpdate=>obtain ⟨w',hr,h⟩:=h;exact Qus (Zdu hr) (hk _ _ h)
 case entryStore=>obtain ⟨w',hr,h⟩:=h;exact Qus (Zdu hr) (hk _ _ h)
 all_goals
  obtain ⟨v,w',hr,h⟩:=Q63 h
  exact Qgj (Q0c hr) (hk _ _ h)
end
section
variable {P:Program} {ops:Array Oper} {Q:Exit→Act→World→Prop} {md:Region.Mode}
abbrev Grds:=List (List Nat × (World→Prop))
def Un (listed:Array Bool) (D:List Nat):Prop:=∀d∈D,listed.getD d true=false
def Gok (G:Grds) (listed:Array Bool) (i:Nat) (w:World):Prop:=∀g∈G,i∉g.1→Un listed g.1→g.2 w
def Qpp (P:Program) (md:Region.Mode) (ops:Array Oper) (Q:Exit→Act→World→Prop) (G:Grds):Nat→Array Bool→Act→World→Prop
 | 0,listed,a,w=>Region.ready md ops listed=[]∧Q .normal a w
 | fuel+1,listed,a,w=>
  (Region.ready md ops listed=[]→Q .normal a w)∧
  ∀i∈Region.ready md ops listed,wpOp P ops Q i (fun a' w'=>Gok G listed i w'∧Qpp P md ops Q G fuel (listed.setIfInBounds i true) a' w') a w
theorem Q2s:∀(fuel:Nat) (listed:Array Bool) (a:Act) (w:World) (G:Grds),Qpp P md ops Q G fuel listed a w→wpAny P md ops Q fuel listed a w
 | 0,_,_,_,_,h=>h
 | fuel+1,_,_,_,G,h=>⟨h.1,fun i hi=>wpOp_mono (fun a' w' h'=>Q2s fuel _ a' w' G h'.2) (h.2 i hi)⟩
theorem Zfl {listed:Array Bool} {D:List Nat} {i:Nat} (h:Un (listed.setIfInBounds i true) D):Un listed D:=by
 intro d hd
 have:=h d hd
 by_cases hid:i=d
 ·subst hid
  rcases Nat.lt_or_ge i listed.size with h' | h'
  ·simp [h'] at this
  ·simp [Array.getElem?_eq_none h'] at this
 ·rwa [getD_set_ne true hid] at this
theorem Q01 {listed:Array Bool} {D:List Nat} {i:Nat} (h:Un listed D) (hi:i∉D):Un (listed.setIfInBounds i true) D:=by
 intro d hd
 have hid:i≠d:=fun e=>hi (by rw [e];exact hd)
 rw [getD_set_ne true hid]
 exact h d hd
theorem Qxk {listed:Array Bool} {D:List Nat} {i:Nat} (hi:i∈D):¬Un (listed.setIfInBounds i true) D:=by
 intro h
 have:=h i hi
 rcases Nat.lt_or_ge i listed.size with h' | h'
 ·simp [h'] at this
 ·simp [Array.getElem?_eq_none h'] at this
theorem Qhg {G G':Grds}:∀(fuel:Nat) (listed:Array Bool) (a:Act) (w:World),(∀g∈G,g∈G'∨¬Un listed g.1∨∀w,g.2 w)→Qpp P md ops Q G' fuel listed a w→Qpp P md ops Q G fuel listed a w
 | 0,_,_,_,_,h=>h
 | fuel+1,listed,a,w,hG,h=>⟨h.1,fun i hi=>wpOp_mono (fun a' w' h'=>⟨fun g hg hig hu=>(hG g hg).elim (fun hm=>h'.1 g hm hig hu) (fun hn=>hn.elim (fun hn=>(hn hu).elim) (fun ht=>ht w')),
   Qhg fuel _ a' w' (fun g hg=>(hG g hg).imp id fun hn=>hn.imp (fun hn hu=>hn (Zfl hu)) id) h'.2⟩) (h.2 i hi)⟩
def Waits (md:Region.Mode) (ops:Array Oper) (i:Nat) (D:List Nat):Prop:=∀j∈D,∃oj,ops[j]?=some oj∧∃e∈oj.after,Region.binds md e=true∧(e.on=i∨e.on∈D)
def memB (i:Nat) (D:List Nat):Bool:=D.any fun d=>Nat.beq i d
theorem Qqs {i:Nat} {D:List Nat}:memB i D=true↔i∈D:=by
 simp only [memB,List.any_eq_true,Nat.beq_eq]
 exact ⟨fun ⟨d,hd,h⟩=>h ▸ hd,fun h=>⟨i,h,rfl⟩⟩
def waitsB (md:Region.Mode) (ops:Array Oper) (i:Nat) (D:List Nat):Bool:=
 D.all fun j=>match ops[j]? with | some oj=>oj.after.toList.any fun e=>Region.binds md e&&(Nat.beq e.on i || memB e.on D) | none=>false
theorem Q5x {i:Nat} {D:List Nat} (h:waitsB md ops i D=true):Waits md ops i D:=by
 intro j hj
 have:=List.all_eq_true.1 h j hj
 split at this
 ·rename_i oj hoj
  obtain ⟨e,he,hb⟩:=List.any_eq_true.1 this
  simp only [Bool.and_eq_true,Bool.or_eq_true,Nat.beq_eq,Qqs] at hb
  exact ⟨oj,hoj,e,by simpa using he,hb.1,hb.2⟩
 ·simp at this
theorem Qxl {i j:Nat} {C:List Nat} {listed:Array Bool} (hC:Waits md ops i C) (hi:listed.getD i true=false) (hU:Un listed C) (hj:j∈Region.ready md ops listed):j∉C:=by
 intro hjC
 obtain ⟨oj,hoj,e,he,hb,hon⟩:=hC j hjC
 obtain ⟨_,oj',hoj',hall⟩:=mem_ready.1 hj
 rw [hoj] at hoj'
 obtain rfl:=Option.some.inj hoj'
 have h1:=hall e he hb
 have h0:listed.getD e.on true=false:=by
  rcases hon with h | h
  ·rw [h];exact hi
  ·exact hU _ h
 rcases Nat.lt_or_ge e.on listed.size with h' | h'
 ·simp [h'] at h0 h1;rw [h0] at h1;cases h1
 ·simp [Array.getElem?_eq_none h'] at h1
theorem Q41 {G:Grds} {S:World→Prop} {C D:List Nat} {i:Nat} {oi:Oper} {v:Value} (hi:ops[i]?=some oi) (hsel:∀(j:Nat) (o:Oper) cs b,ops[j]?=some o→o.op≠.select cs b)
  (hQ:∀c a w,Q (.panic c) (a.put oi.dst v) w→Q (.panic c) a w) (hC:Waits md ops i C) (hDC:∀d∈D,d∈C) (hiC:i∉C) (hiG:∀g∈G,i∉g.1) :
  ∀(fuel:Nat) (listed:Array Bool) (a:Act) (w:World),
   (∀j oj,ops[j]?=some oj→j≠i→listed.getD j true=false→(∀e∈oj.after,Region.binds md e=true→e.on≠i)→oi.apart ops oj=true)→
   i∈Region.ready md ops listed→Un listed C→YieldsIf P ops S oi v a→S w→Gok G listed i w→
   Qpp P md ops Q ((D,S)::G) fuel (listed.setIfInBounds i true) (a.put oi.dst v) w→
   Qpp P md ops Q G (fuel+1) listed a w:=by
 intro fuel
 induction fuel with
 | zero=>
  intro listed a w _ hr _ hy hS hG H
  refine ⟨fun h=>(by rw [h] at hr;cases hr),fun j hj=>?_⟩
  by_cases hji:j=i
  ·subst hji;exact hy.wpOp hi hS ⟨hG,H⟩
  ·have:=ready_mono hj hji
   rw [H.1] at this
   cases this
 | succ fuel ih=>
  intro listed a w hfree hr hU hy hS hG H
  refine ⟨fun h=>(by rw [h] at hr;cases hr),fun j hj=>?_⟩
  by_cases hji:j=i
  ·subst hji
   exact hy.wpOp hi hS ⟨hG,Qhg _ _ _ _ (fun g hg=>.inl (List.mem_cons_of_mem _ hg)) H⟩
  ·have h1:=H.2 j (ready_mono hj hji)
   obtain ⟨hjun,oj,hoj,hall⟩:=mem_ready.1 hj
   have h0i:=(mem_ready.1 hr).1
   have hnot:∀e∈oj.after,Region.binds md e=true→e.on≠i:=fun e he hb heq=>by
    have h1:=hall e he hb
    rw [heq] at h1
    rcases Nat.lt_or_ge i listed.size with h' | h'
    ·simp [h'] at h0i h1;rw [h0i] at h1;cases h1
    ·simp [Array.getElem?_eq_none h'] at h1
   have hjC:j∉C:=Qxl hC h0i hU hj
   have h2:=wpOp_putIf hoj (hfree j oj hoj hji hjun hnot) (fun cs b=>hsel i oi cs b hi) (fun cs b=>hsel j oj cs b hoj) hQ hy h1
   have hfree':∀k ok,ops[k]?=some ok→k≠i→(listed.setIfInBounds j true).getD k true=false→
     (∀e∈ok.after,Region.binds md e=true→e.on≠i)→oi.apart ops ok=true:=fun k ok hk hki hun hno=>by
    refine hfree k ok hk hki ?_ hno
    by_cases hjk:j=k
    ·subst hjk;exact hjun
    ·rw [getD_set_ne true hjk] at hun;exact hun
   refine wpOp_mono (fun a' w' h3=>?_) h2
   obtain ⟨hy',hok,hrest⟩:=h3
   have hS':S w':=hok (D,S) (by simp) (fun h=>hjC (hDC j h)) (Q01 (fun d hd=>hU d (hDC d hd)) (fun h=>hiC (hDC i h)))
   have hG':∀g∈G,j∉g.1→Un listed g.1→g.2 w':=fun g hg hjg hu=>hok g (List.mem_cons_of_mem _ hg) hjg (Q01 hu (hiG g hg))
   refine ⟨hG',ih (listed.setIfInBounds j true) a' w' hfree' (ready_mono hr (Ne.symm hji)) (Q01 hU hjC) hy' hS' ?_ ?_⟩
   ·intro g hg _ hu
    exact hG' g hg (fun hjg=>Qxk hjg hu) (Zfl hu)
   ·rw [Array.setIfInBounds_comm _ _ hji]
    exact hrest
def kind (P:Program) (o:Oper):Nat:=
 match o.op with
 | .move _ | .assign _ | .pick _ _ _ | .nilCheck _ | .fieldAddr _ _ _ | .field _ _ _ | .indexAddr _ _ _ | .unOp _ _ _ | .makeInterface _ _ | .makeFunc _ _ _ | .slice _ _ _ _ _ | .extract _ _ | .build _ _=>0
 | .index t _ _=>match P.underlying t with | some .string=>0 | some (.array _ e)=>(bif aggT P e then 2 else 0) | _=>2
 | .binOp op xT _ _ _=>match P.underlying xT with
  | some (.struct _) | some (.array _ _)=>2
  | some .string=>match op with | .eql | .neq=>0 | _=>2
  | _=>0
 | .convert _ dst _=>match P.underlying dst with | some (.int _)=>0 | _=>2
 | .call c=>match c.callee with
  | .builtin .len=>match c.argTypes[0]? with
   | some t=>match P.underlying t with | some (.map _ _)=>2 | _=>0
   | none=>2
  | .builtin .cap=>0
  | .builtin .min=>match c.argTypes[0]? with
   | some t=>match P.underlying t with | some (.int _)=>(bif Nat.beq c.args.size 2 then 0 else 2) | _=>2
   | none=>2
  | .builtin .max=>match c.argTypes[0]? with
   | some t=>match P.underlying t with | some (.int _)=>(bif Nat.beq c.args.size 2 then 0 else 2) | _=>2
   | none=>2
  | _=>2
 | .load _ _=>1
 | _=>2
def dop (P:Program) (E:List FuncId) (o:Oper) (ρ:Operand→Value) (w:World) (K:Value→World→Prop):Prop:=
 match kind P o with
 | 0=>dpure P o ρ fun v=>K v w
 | 1=>match o.op with | .load t a=>dload P t (ρ a) w fun _ v=>K v w | _=>False
 | _=>deff P E o ρ w K
def putN (N:Nat) (e:Env) (d:Option Tmp) (v:Value) (K:Env→Prop):Prop:=
 match d with
 | none=>K e
 | some d=>bif Nat.blt d N then K (e.put d v) else False
def grd (N:Nat) (ops:Array Oper) (o:Oper) (e:Env) (yes no:Env→Prop):Prop:=
 match o.guard with
 | none=>yes e
 | some (j,want)=>match (ops[j]?).bind (·.dst) with
  | some d=>bif Nat.blt d N then (match e d with
   | .bool b=>bif b then (bif want then yes (e.put d (.bool true)) else no (e.put d (.bool true))) else (bif want then no (e.put d (.bool false)) else yes (e.put d (.bool false)))
   | .tuple _=>no e
   | _=>False) else False
  | none=>False
def dseq (P:Program) (E:List FuncId) (N:Nat) (ops:Array Oper):List Oper→Env→World→(Env→World→Prop)→Prop
 | [],e,w,K=>K e w
 | o::r,e,w,K=>grd N ops o e
   (fun e=>dop P E o (ev e) w fun v w'=>putN N e o.dst v fun e'=>dseq P E N ops r e' w' K)
   (fun e=>putN N e o.dst undef fun e'=>dseq P E N ops r e' w K)
inductive Ro where
 | fin
 | tk (i:Nat) (C D:List Nat) (r:Ro)
 | one (i:Nat) (r:Ro)
 | two (i:Nat) (r:Ro) (j:Nat) (s:Ro)
 | thr (i:Nat) (r:Ro) (j:Nat) (s:Ro) (k:Nat) (u:Ro)
def Ro.deep:Ro→Nat
 | .fin=>0
 | .tk _ _ _ r=>r.deep+1
 | .one _ r=>r.deep+1
 | .two _ r _ s=>max r.deep s.deep+1
 | .thr _ r _ s _ u=>max (max r.deep s.deep) u.deep+1
abbrev Held:=List (List Nat × List (Addr × Value))
def keepH:List (Addr × Value)→World→Prop→Prop
 | [],_,K=>K
 | (a,v)::r,w,K=>w.cell? a=some v∧keepH r w K
def keepG (i:Nat):Held→World→(Held→Prop)→Prop
 | [],_,K=>K []
 | (D,H)::r,w,K=>bif memB i D then keepG i r w K else keepH H w (keepG i r w fun r'=>K ((D,H)::r'))
def drg (P:Program) (E:List FuncId) (N:Nat) (ops:Array Oper):Ro→Array Bool→Held→Env→World→(Env→World→Prop)→Prop
 | .fin,l,H,e,w,K=>bif (Region.ready .any ops l).isEmpty then K e w else False
 | .tk i C D r,l,H,e,w,K=>
  match ops[i]? with
  | none=>False
  | some o=>bif memB i (Region.ready .any ops l)&&Region.free .any ops l i&&waitsB .any ops i C&&D.all (fun d=>memB d C)&&!memB i C&&C.all (fun j=>!(l.getD j true))&&H.all (fun h=>!memB i h.1)
   then grd N ops o e
    (fun e=>match kind P o with
     | 0=>dpure P o (ev e) fun v=>putN N e o.dst v fun e'=>drg P E N ops r (l.setIfInBounds i true) H e' w K
     | 1=>match o.op with
      | .load t a=>dload P t (ev e a) w fun hs v=>putN N e o.dst v fun e'=>drg P E N ops r (l.setIfInBounds i true) ((D,hs)::H) e' w K
      | _=>False
     | _=>False)
    (fun e=>putN N e o.dst undef fun e'=>drg P E N ops r (l.setIfInBounds i true) H e' w K)
   else False
 | .one i r,l,H,e,w,K=>
  match ops[i]? with
  | none=>False
  | some o=>match Region.ready .any ops l with
   | [j]=>bif Nat.beq i j then grd N ops o e
     (fun e=>dop P E o (ev e) w fun v w'=>putN N e o.dst v fun e'=>keepG i H w' fun H'=>drg P E N ops r (l.setIfInBounds i true) H' e' w' K)
     (fun e=>putN N e o.dst undef fun e'=>keepG i H w fun H'=>drg P E N ops r (l.setIfInBounds i true) H' e' w K)
    else False
   | _=>False
 | .two i r j s,l,H,e,w,K=>
  match ops[i]?,ops[j]? with
  | some o,some p=>match Region.ready .any ops l with
   | [i',j']=>bif Nat.beq i i'&&Nat.beq j j' then
     (grd N ops o e
      (fun e=>dop P E o (ev e) w fun v w'=>putN N e o.dst v fun e'=>keepG i H w' fun H'=>drg P E N ops r (l.setIfInBounds i true) H' e' w' K)
      (fun e=>putN N e o.dst undef fun e'=>keepG i H w fun H'=>drg P E N ops r (l.setIfInBounds i true) H' e' w K))∧
     (grd N ops p e
      (fun e=>dop P E p (ev e) w fun v w'=>putN N e p.dst v fun e'=>keepG j H w' fun H'=>drg P E N ops s (l.setIfInBounds j true) H' e' w' K)
      (fun e=>putN N e p.dst undef fun e'=>keepG j H w fun H'=>drg P E N ops s (l.setIfInBounds j true) H' e' w K))
    else False
   | _=>False
  | _,_=>False
 | .thr i r j s k u,l,H,e,w,K=>
  match ops[i]?,ops[j]?,ops[k]? with
  | some o,some p,some q=>match Region.ready .any ops l with
   | [i',j',k']=>bif Nat.beq i i'&&Nat.beq j j'&&Nat.beq k k' then
     (grd N ops o e
      (fun e=>dop P E o (ev e) w fun v w'=>putN N e o.dst v fun e'=>keepG i H w' fun H'=>drg P E N ops r (l.setIfInBounds i true) H' e' w' K)
      (fun e=>putN N e o.dst undef fun e'=>keepG i H w fun H'=>drg P E N ops r (l.setIfInBounds i true) H' e' w K))∧
     (grd N ops p e
      (fun e=>dop P E p (ev e) w fun v w'=>putN N e p.dst v fun e'=>keepG j H w' fun H'=>drg P E N ops s (l.setIfInBounds j true) H' e' w' K)
      (fun e=>putN N e p.dst undef fun e'=>keepG j H w fun H'=>drg P E N ops s (l.setIfInBounds j true) H' e' w K))∧
     (grd N ops q e
      (fun e=>dop P E q (ev e) w fun v w'=>putN N e q.dst v fun e'=>keepG k H w' fun H'=>drg P E N ops u (l.setIfInBounds k true) H' e' w' K)
      (fun e=>putN N e q.dst undef fun e'=>keepG k H w fun H'=>drg P E N ops u (l.setIfInBounds k true) H' e' w K))
    else False
   | _=>False
  | _,_,_=>False
end
section
variable {P:Program} {Q:Exit→Act→World→Prop} {E:List FuncId} {N:Nat} {ops:Array Oper}
theorem Q5j {next:Act→World→Prop} {a:Act} {w:World} {o:Oper} {K:Value→World→Prop} (hE:∀g∈E,enters P g) (h:dop P E o a.eval w K)
  (hk:∀v w',K v w'→next (a.put o.dst v) w'):o.wp P a w next Q:=by
 unfold dop at h
 split at h
 ·obtain ⟨v,hv,h⟩:=Q1y h
  exact Q5u hv (hk _ _ h)
 ·split at h
  ·rename_i t x ho
   obtain ⟨v,H,h,hH,hr⟩:=Qqw h
   refine Qgj (v:=v) (w':=w) ?_ (hk _ _ h)
   obtain ⟨dst,op,type,pos,after,guard⟩:=o
   simp only at ho
   subst ho
   exact Q0c (hr w hH)
  ·exact h.elim
 ·exact Q9m hE h hk
theorem Quw (a:Act) (d:Option Tmp) (v:Value):(a.put d v).tmps.size=a.tmps.size:=by
 cases d<;>simp [Act.put]
theorem put_defers (a:Act) (d:Option Tmp) (v:Value):(a.put d v).defers=a.defers:=by
 cases d<;>rfl
theorem Qst (a:Act) (d:Option Tmp) (v:Value) (t:Nat) (h:∀x,d=some x→t≠x):ofAct (a.put d v) t=ofAct a t:=by
 cases d with
 | none=>rfl
 | some x=>simp [ofAct,Act.put,Array.getElem?_setIfInBounds_ne (Ne.symm (h x rfl))]
theorem Qle {a:Act} {d:Option Tmp} {v:Value} {K:Env→Prop} (h:putN N (ofAct a) d v K) (hs:a.tmps.size=N):K (ofAct (a.put d v)):=by
 unfold putN at h
 split at h
 ·exact h
 ·rename_i d
  cases hb:Nat.blt d N<;>simp only [hb,cond_true,cond_false] at h
  rw [Zao _ _ _ (by rw [hs];simpa using hb)]
  exact h
theorem Qjp {e:Env} {d:Nat} {v:Value} (h:e d=v):e.put d v=e:=by
 funext t
 by_cases ht:t=d
 ·subst ht;rw [Env.Q7u,h]
 ·rw [Env.Qsr _ _ _ _ ht]
theorem Q1r {a:Act} {o:Oper} {yes no:Env→Prop} (h:grd N ops o (ofAct a) yes no) (hs:a.tmps.size=N) :
  (Region.wanted o (yielded ops a.tmps)=true∧yes (ofAct a))∨(Region.wanted o (yielded ops a.tmps)=false∧no (ofAct a)):=by
 unfold grd at h
 unfold Region.wanted
 split at h
 ·rename_i hg;rw [hg];exact .inl ⟨rfl,h⟩
 ·rename_i j want hg
  rw [hg]
  simp only []
  split at h
  ·rename_i d hd
   cases hb:Nat.blt d N<;>simp only [hb,cond_true,cond_false] at h
   have hlt:d<a.tmps.size:=by rw [hs];simpa using hb
   split at h
   ·rename_i b he
    have hy:yielded ops a.tmps j=some b:=by
     unfold yielded
     rw [hd]
     simp only [Option.bind_some]
     have:ofAct a d=a.tmps[d]:=by simp [ofAct,hlt]
     rw [Array.getElem?_eq_getElem hlt,←this,he]
    rw [hy]
    cases b<;>cases want<;>simp only [cond_true,cond_false,Qjp he] at h<;>first | exact .inl ⟨rfl,h⟩ | exact .inr ⟨rfl,h⟩
   ·rename_i vs he
    have hy:yielded ops a.tmps j=none:=by
     unfold yielded
     rw [hd]
     simp only [Option.bind_some]
     have:ofAct a d=a.tmps[d]:=by simp [ofAct,hlt]
     rw [Array.getElem?_eq_getElem hlt,←this,he]
    rw [hy]
    exact .inr ⟨rfl,h⟩
   ·exact h.elim
  ·exact h.elim
def RQ (Ds:List Deferred) (N:Nat) (A:List Nat) (e₀:Env) (K:Env→World→Prop):Exit→Act→World→Prop
 | .normal,a,w=>K (ofAct a) w∧a.tmps.size=N∧a.defers=Ds∧∀t,t∉A→ofAct a t=e₀ t
 | _,_,_=>False
theorem Q9l {Ds:List Deferred} (hE:∀g∈E,enters P g) {A:List Nat} {e₀:Env} {K:Env→World→Prop} (l:List Oper):∀(a:Act) (w:World),dseq P E N ops l (ofAct a) w K→a.tmps.size=N→a.defers=Ds→
  (∀o∈l,∀d,o.dst=some d→d∈A)→(∀t,t∉A→ofAct a t=e₀ t)→wpList P ops (RQ Ds N A e₀ K) l a w:=by
 induction l with
 | nil=>intro a w h hs hd _ hA;exact ⟨h,hs,hd,hA⟩
 | cons o r ih=>
  intro a w h hs hd hl hA
  have hA':∀v,∀t,t∉A→ofAct (a.put o.dst v) t=e₀ t:=fun v t ht=>by
   rw [Qst _ _ _ _ (fun x hx (e:t=x)=>ht (by rw [e];exact hl o (by simp) x hx))];exact hA t ht
  unfold dseq at h
  unfold wpList
  rcases Q1r h hs with ⟨hw,h⟩ | ⟨hw,h⟩
  ·rw [if_pos hw]
   left
   rw [Qxz] at h
   refine Q5j hE h fun v w' hv=>?_
   exact ih _ _ (Qle hv hs) (by rw [Quw,hs]) (by rw [put_defers,hd]) (fun o ho=>hl o (by simp [ho])) (hA' v)
  ·rw [if_neg (by simp [hw])]
   exact ih _ _ (Qle h hs) (by rw [Quw,hs]) (by rw [put_defers,hd]) (fun o ho=>hl o (by simp [ho])) (hA' _)
theorem Zbh {H:List (Addr × Value)} {w:World} {K:Prop} (h:keepH H w K):Holds H w∧K:=by
 induction H with
 | nil=>exact ⟨(fun p hp=>by cases hp),h⟩
 | cons p r ih=>
  obtain ⟨a,v⟩:=p
  obtain ⟨h1,h2⟩:=h
  obtain ⟨h2,h3⟩:=ih h2
  refine ⟨fun p hp=>?_,h3⟩
  rcases List.mem_cons.1 hp with rfl | hp
  ·exact h1
  ·exact h2 p hp
def guards (H:Held):Grds:=H.map fun h=>(h.1,Holds h.2)
theorem Zbi {i:Nat} {H:Held} {w:World}:∀{K:Held→Prop},keepG i H w K→∃H',K H'∧(∀h∈H',h∈H∧i∉h.1)∧(∀h∈H,h∈H'∨i∈h.1)∧∀h∈H',Holds h.2 w:=by
 induction H with
 | nil=>intro K h;exact ⟨[],h,(fun h hh=>by cases hh),(fun h hh=>by cases hh),(fun h hh=>by cases hh)⟩
 | cons p r ih=>
  obtain ⟨D,hs⟩:=p
  intro K h
  unfold keepG at h
  cases hb:memB i D<;>simp only [hb,cond_true,cond_false] at h
  ·obtain ⟨hh,h⟩:=Zbh h
   obtain ⟨H',hk,h1,h2,h3⟩:=ih h
   have hni:i∉D:=fun e=>by rw [Qqs.2 e] at hb;cases hb
   refine ⟨_,hk,?_,?_,?_⟩
   ·intro x hx
    rcases List.mem_cons.1 hx with rfl | hx
    ·exact ⟨by simp,hni⟩
    ·exact ⟨by simp [(h1 x hx).1],(h1 x hx).2⟩
   ·intro x hx
    rcases List.mem_cons.1 hx with rfl | hx
    ·exact .inl (by simp)
    ·exact (h2 x hx).imp (by intro h;simp [h]) id
   ·intro x hx
    rcases List.mem_cons.1 hx with rfl | hx
    ·exact hh
    ·exact h3 x hx
  ·obtain ⟨H',hk,h1,h2,h3⟩:=ih h
   have hi:=Qqs.1 hb
   refine ⟨_,hk,fun x hx=>⟨by simp [(h1 x hx).1],(h1 x hx).2⟩,?_,h3⟩
   intro x hx
   rcases List.mem_cons.1 hx with rfl | hx
   ·exact .inr hi
   ·exact h2 x hx
theorem Q5v {md:Region.Mode} {G:Grds} {listed:Array Bool} {a:Act} {w:World} {Q:Exit→Act→World→Prop} (hr:Region.ready md ops listed=[]) (h:Q .normal a w) :
  ∀fuel,Qpp P md ops Q G fuel listed a w
 | 0=>⟨hr,h⟩
 | _+1=>⟨fun _=>h,by rw [hr];simp⟩
def asgO (ops:Array Oper):List Nat:=ops.toList.filterMap (·.dst)
theorem Ze7 {ops:Array Oper} {i:Nat} {o:Oper} (h:ops[i]?=some o) (d:Nat) (hd:o.dst=some d):d∈asgO ops:=
 List.mem_filterMap.2 ⟨o,by simpa using Array.mem_of_getElem? h,hd⟩
theorem Zcd {Ds:List Deferred} (hE:∀g∈E,enters P g) (hsel:Region.noSelect ops=true) {e₀:Env} {K:Env→World→Prop} (r:Ro):∀(l:Array Bool) (H:Held) (a:Act) (w:World) (fuel:Nat),r.deep≤fuel→
  drg P E N ops r l H (ofAct a) w K→a.tmps.size=N→a.defers=Ds→(∀t,t∉asgO ops→ofAct a t=e₀ t)→(∀h∈H,Holds h.2 w)→
  Qpp P .any ops (RQ Ds N (asgO ops) e₀ K) (guards H) fuel l a w:=by
 have hput:∀{i:Nat} {o:Oper} (ho:ops[i]?=some o) (a:Act) (v:Value),(∀t,t∉asgO ops→ofAct a t=e₀ t)→∀t,t∉asgO ops→ofAct (a.put o.dst v) t=e₀ t:=by
  intro i o ho a v hA t ht
  rw [Qst _ _ _ _ (fun x hx (e:t=x)=>ht (by rw [e];exact Ze7 ho x hx))]
  exact hA t ht
 have hrun:∀{i:Nat} {o:Oper} (r:Ro) (ho:ops[i]?=some o) (l:Array Bool) (H:Held) (a:Act) (w:World) (fuel:Nat),r.deep≤fuel→
   (∀(l:Array Bool) (H:Held) (a:Act) (w:World) (fuel:Nat),r.deep≤fuel→
    drg P E N ops r l H (ofAct a) w K→a.tmps.size=N→a.defers=Ds→(∀t,t∉asgO ops→ofAct a t=e₀ t)→(∀h∈H,Holds h.2 w)→
    Qpp P .any ops (RQ Ds N (asgO ops) e₀ K) (guards H) fuel l a w)→
   grd N ops o (ofAct a)
    (fun e=>dop P E o (ev e) w fun v w'=>putN N e o.dst v fun e'=>keepG i H w' fun H'=>drg P E N ops r (l.setIfInBounds i true) H' e' w' K)
    (fun e=>putN N e o.dst undef fun e'=>keepG i H w fun H'=>drg P E N ops r (l.setIfInBounds i true) H' e' w K)→
   a.tmps.size=N→a.defers=Ds→(∀t,t∉asgO ops→ofAct a t=e₀ t)→
   wpOp P ops (RQ Ds N (asgO ops) e₀ K) i (fun a' w'=>Gok (guards H) l i w'∧Qpp P .any ops (RQ Ds N (asgO ops) e₀ K) (guards H) fuel (l.setIfInBounds i true) a' w') a w:=by
  intro i o r ho l H a w fuel hf ih h hs hd hA
  have fin:∀v w',putN N (ofAct a) o.dst v (fun e'=>keepG i H w' fun H'=>drg P E N ops r (l.setIfInBounds i true) H' e' w' K)→
    Gok (guards H) l i w'∧Qpp P .any ops (RQ Ds N (asgO ops) e₀ K) (guards H) fuel (l.setIfInBounds i true) (a.put o.dst v) w':=by
   intro v w' hp
   obtain ⟨H',hr,h1,h2,h3⟩:=Zbi (Qle hp hs)
   refine ⟨?_,?_⟩
   ·intro g hg hig _
    obtain ⟨x,hx,rfl⟩:=List.mem_map.1 hg
    exact (h2 x hx).elim (fun hx'=>h3 x hx') (fun hi=>(hig hi).elim)
   ·refine Qhg (G':=guards H') fuel _ _ _ ?_ (ih _ _ _ _ fuel hf hr (by rw [Quw,hs]) (by rw [put_defers,hd]) (hput ho a v hA) h3)
    intro g hg
    obtain ⟨x,hx,rfl⟩:=List.mem_map.1 hg
    exact (h2 x hx).imp (fun hx'=>List.mem_map.2 ⟨x,hx',rfl⟩) (fun hi=>.inl (Qxk hi))
  unfold wpOp
  rw [ho]
  simp only []
  rcases Q1r h hs with ⟨hw,h⟩ | ⟨hw,h⟩
  ·rw [if_pos hw]
   left
   rw [Qxz] at h
   exact Q5j hE h fun v w' hv=>fin v w' hv
  ·rw [if_neg (by simp [hw])]
   exact fin _ _ h
 induction r with
 | fin=>
  intro l H a w fuel _ h hs hd hA _
  simp only [drg] at h
  cases hb:(Region.ready .any ops l).isEmpty<;>simp only [hb,cond_true,cond_false] at h
  exact Q5v (by simpa using hb) ⟨h,hs,hd,hA⟩ fuel
 | tk i C D r ih=>
  intro l H a w fuel hf h hs hd hA hH
  simp only [Ro.deep] at hf
  obtain ⟨fuel,rfl⟩:∃m,fuel=m+1:=⟨fuel-1,by omega⟩
  simp only [drg] at h
  split at h
  ·exact h.elim
  ·rename_i o ho
   cases hb:(memB i (Region.ready .any ops l)&&Region.free .any ops l i&&waitsB .any ops i C&&D.all (fun d=>memB d C)&&!memB i C&&C.all (fun j=>!(l.getD j true))&&H.all (fun h=>!memB i h.1))<;>simp only [hb,cond_true,cond_false] at h
   simp only [Bool.and_eq_true,Bool.not_eq_true',List.all_eq_true] at hb
   obtain ⟨⟨⟨⟨⟨⟨hb1,hb2⟩,hb3⟩,hb4⟩,hb5⟩,hb6⟩,hb7⟩:=hb
   have hiC:i∉C:=fun e=>by rw [Qqs.2 e] at hb5;cases hb5
   have hiG:∀g∈guards H,i∉g.1:=by
    intro g hg hi
    obtain ⟨x,hx,rfl⟩:=List.mem_map.1 hg
    have:=hb7 x hx
    rw [Qqs.2 hi] at this;cases this
   have first:∀(S:World→Prop) (D:List Nat) (v:Value),(∀d∈D,d∈C)→YieldsIf P ops S o v a→S w→
     Qpp P .any ops (RQ Ds N (asgO ops) e₀ K) ((D,S)::guards H) fuel (l.setIfInBounds i true) (a.put o.dst v) w→
     Qpp P .any ops (RQ Ds N (asgO ops) e₀ K) (guards H) (fuel+1) l a w:=by
    intro S D v hDC hy hS hr
    refine Q41 ho (Region.noSelect_spec hsel) (fun _ _ _ h=>h.elim) (Q5x hb3) hDC hiC hiG fuel l a w (Region.free_spec ho hb2) (Qqs.1 hb1) hb6 hy hS ?_ hr
    intro g hg _ _
    obtain ⟨x,hx,rfl⟩:=List.mem_map.1 hg
    exact hH x hx
   have hDC:∀d∈D,d∈C:=fun d hd=>Qqs.1 (hb4 d hd)
   rcases Q1r h hs with ⟨hw,h⟩ | ⟨hw,h⟩
   ·split at h
    ·rw [Qxz] at h
     obtain ⟨v,hv,h⟩:=Q1y h
     refine first (fun _=>True) [] v (fun d hd=>by cases hd) (.inl ⟨hw,fun w _=>hv w⟩) trivial ?_
     refine Qhg (G':=guards H) _ _ _ _ ?_ (ih _ _ _ _ fuel (by omega) (Qle h hs) (by rw [Quw,hs]) (by rw [put_defers,hd]) (hput ho a v hA) hH)
     intro g hg
     rcases List.mem_cons.1 hg with rfl | hg
     ·exact .inr (.inr fun _=>trivial)
     ·exact .inl hg
    ·split at h
     ·rename_i t x hop
      rw [Qxz] at h
      obtain ⟨v,hs',h,hHs,hr⟩:=Qqw h
      refine first (Holds hs') D v hDC (.inl ⟨hw,fun w' hw'=>?_⟩) hHs ?_
      ·obtain ⟨dst,op,type,pos,after,guard⟩:=o
       simp only at hop
       subst hop
       exact Q0c (hr w' hw')
      ·exact ih _ ((D,hs')::H) _ _ fuel (by omega) (Qle h hs) (by rw [Quw,hs]) (by rw [put_defers,hd]) (hput ho a v hA) (fun x hx=>by
        rcases List.mem_cons.1 hx with rfl | hx
        ·exact hHs
        ·exact hH x hx)
     ·exact h.elim
    ·exact h.elim
   ·refine first (fun _=>True) [] undef (fun d hd=>by cases hd) (.inr ⟨hw,rfl⟩) trivial ?_
    refine Qhg (G':=guards H) _ _ _ _ ?_ (ih _ _ _ _ fuel (by omega) (Qle h hs) (by rw [Quw,hs]) (by rw [put_defers,hd]) (hput ho a _ hA) hH)
    intro g hg
    rcases List.mem_cons.1 hg with rfl | hg
    ·exact .inr (.inr fun _=>trivial)
    ·exact .inl hg
 | one i r ih=>
  intro l H a w fuel hf h hs hd hA hH
  simp only [Ro.deep] at hf
  obtain ⟨fuel,rfl⟩:∃m,fuel=m+1:=⟨fuel-1,by omega⟩
  simp only [drg] at h
  split at h
  ·exact h.elim
  ·rename_i o ho
   split at h
   ·rename_i j hr
    cases hb:Nat.beq i j<;>simp only [hb,cond_true,cond_false] at h
    rw [Nat.beq_eq] at hb
    subst hb
    refine ⟨fun h0=>(by rw [hr] at h0;cases h0),fun j hj=>?_⟩
    rw [hr,List.mem_singleton] at hj
    subst hj
    exact hrun r ho l H a w fuel (by omega) ih h hs hd hA
   ·exact h.elim
 | two i r j s ih1 ih2=>
  intro l H a w fuel hf h hs hd hA hH
  simp only [Ro.deep] at hf
  obtain ⟨fuel,rfl⟩:∃m,fuel=m+1:=⟨fuel-1,by omega⟩
  simp only [drg] at h
  split at h
  ·rename_i o p ho hp
   split at h
   ·rename_i i' j' hr
    cases hb:(Nat.beq i i'&&Nat.beq j j')<;>simp only [hb,cond_true,cond_false] at h
    simp only [Bool.and_eq_true,Nat.beq_eq] at hb
    obtain ⟨rfl,rfl⟩:=hb
    refine ⟨fun h0=>(by rw [hr] at h0;cases h0),fun k hk=>?_⟩
    rw [hr,List.mem_cons,List.mem_singleton] at hk
    rcases hk with rfl | rfl
    ·exact hrun r ho l H a w fuel (by omega) ih1 h.1 hs hd hA
    ·exact hrun s hp l H a w fuel (by omega) ih2 h.2 hs hd hA
   ·exact h.elim
  ·exact h.elim
 | thr i r j s k u ih1 ih2 ih3=>
  intro l H a w fuel hf h hs hd hA hH
  simp only [Ro.deep] at hf
  obtain ⟨fuel,rfl⟩:∃m,fuel=m+1:=⟨fuel-1,by omega⟩
  simp only [drg] at h
  split at h
  ·rename_i o p q ho hp hq
   split at h
   ·rename_i i' j' k' hr
    cases hb:(Nat.beq i i'&&Nat.beq j j'&&Nat.beq k k')<;>simp only [hb,cond_true,cond_false] at h
    simp only [Bool.and_eq_true,Nat.beq_eq] at hb
    obtain ⟨⟨rfl,rfl⟩,rfl⟩:=hb
    refine ⟨fun h0=>(by rw [hr] at h0;cases h0),fun m hm=>?_⟩
    rw [hr,List.mem_cons,List.mem_cons,List.mem_singleton] at hm
    rcases hm with rfl | rfl | rfl
    ·exact hrun r ho l H a w fuel (by omega) ih1 h.1 hs hd hA
    ·exact hrun s hp l H a w fuel (by omega) ih2 h.2.1 hs hd hA
    ·exact hrun u hq l H a w fuel (by omega) ih3 h.2.2 hs hd hA
   ·exact h.elim
  ·exact h.elim
end
inductive Ex where
 | normal | exit (id:Nat) | ret
abbrev Post:=Ex→Env→World→Prop
def thenP (J:Env→World→Prop) (Q:Post):Post
 | .normal,e,w=>J e w
 | .exit id,e,w=>Q (.exit id) e w
 | .ret,e,w=>Q .ret e w
def blockP (id:Nat) (Q:Post):Post
 | .exit id',e,w=>bif Nat.beq id' id then Q .normal e w else Q (.exit id') e w
 | .normal,e,w=>Q .normal e w
 | .ret,e,w=>Q .ret e w
inductive An where
 | leaf | reg (r:Ro) | seq (a b:An) | join (ds:List Nat) (ts:List Ty) (a b:An) | cond (a b:An) | block (a:An) | loop (ds:List Nat) (ts:List Ty) (a:An) | unr (k:Nat) (a:An)
def asg:Code→List Nat
 | .region _ ops _=>asgO ops
 | .seq a b=>asg a++asg b
 | .cond _ a b=>asg a++asg b
 | .block _ c=>asg c
 | .loop c=>asg c
 | _=>[]
def unrW (body:(Env→World→Prop)→Env→World→Prop):Nat→Env→World→Prop
 | 0,_,_=>False
 | k+1,e,w=>body (unrW body k) e w
def den (P:Program) (E:List FuncId) (N:Nat):An→Code→Post→Env→World→Prop
 | .leaf,c,Q,e,w=>match c with
  | .skip=>Q .normal e w
  | .label _=>Q .normal e w
  | .exit id=>Q (.exit id) e w
  | .ret=>Q .ret e w
  | .region _ ops false=>dseq P E N ops ops.toList e w (Q .normal)
  | _=>False
 | .reg r,c,Q,e,w=>match c with
  | .region _ ops true=>bif Region.noSelect ops&&Nat.ble r.deep ops.size then drg P E N ops r (Array.replicate ops.size false) [] e w.drew (Q .normal) else False
  | _=>False
 | .seq a b,c,Q,e,w=>match c with
  | .seq x y=>den P E N a x (thenP (fun e w=>den P E N b y Q e w) Q) e w
  | _=>False
 | .join ds ts a b,c,Q,e,w=>match c with
  | .seq x y=>∃J:List Value→World→Prop,
    den P E N a x (thenP (fun e' w'=>bif fitTs ts (ds.map e') then J (ds.map e') w' else False) Q) e w∧
    ∀f:Env,allTs ts fun vs=>∀w',J vs w'→den P E N b y Q (Env.puts (Env.mix (asg x) e f) ds vs) w'
  | _=>False
 | .cond a b,c,Q,e,w=>match c with
  | .cond t x y=>match ev e t with
   | .bool t=>bif t then den P E N a x Q e w else den P E N b y Q e w
   | _=>False
  | _=>False
 | .block a,c,Q,e,w=>match c with
  | .block id x=>den P E N a x (blockP id Q) e w
  | _=>False
 | .loop ds ts a,c,Q,e,w=>match c with
  | .loop x=>∃(I:List Value→World→Prop) (μ:List Value→World→Nat),(bif fitTs ts (ds.map e) then I (ds.map e) w else False)∧
    ∀f:Env,allTs ts fun vs=>∀w',I vs w'→
     den P E N a x (thenP (fun e' w''=>bif fitTs ts (ds.map e') then I (ds.map e') w''∧μ (ds.map e') w'' < μ vs w' else False) Q) (Env.puts (Env.mix (asg x) e f) ds vs) w'
  | _=>False
 | .unr k a,c,Q,e,w=>match c with
  | .loop x=>unrW (fun J e w=>den P E N a x (thenP J Q) e w) k e w
  | _=>False
section
variable {P:Program} {E:List FuncId} {N:Nat}
def Frm (Ds:List Deferred) (N:Nat) (A:List Nat) (e₀:Env) (a:Act):Prop:=a.tmps.size=N∧a.defers=Ds∧∀t,t∉A→ofAct a t=e₀ t
def PQ (Ds:List Deferred) (N:Nat) (A:List Nat) (e₀:Env) (Q:Post):Exit→Act→World→Prop
 | .normal,a,w=>Q .normal (ofAct a) w∧Frm Ds N A e₀ a
 | .exit id,a,w=>Q (.exit id) (ofAct a) w∧Frm Ds N A e₀ a
 | .ret,a,w=>Q .ret (ofAct a) w∧Frm Ds N A e₀ a
 | _,_,_=>False
theorem Frm.mono {Ds:List Deferred} {A B:List Nat} {e₀:Env} {a:Act} (h:Frm Ds N A e₀ a) (hAB:∀t,t∈A→t∈B):Frm Ds N B e₀ a:=⟨h.1,h.2.1,fun t ht=>h.2.2 t (fun hA=>ht (hAB t hA))⟩
theorem Frm.trans {Ds:List Deferred} {A B:List Nat} {e₀:Env} {a b:Act} (h:Frm Ds N A e₀ a) (k:Frm Ds N B (ofAct a) b):Frm Ds N (A++B) e₀ b:=
 ⟨k.1,k.2.1,fun t ht=>by
  rw [List.mem_append,not_or] at ht
  rw [k.2.2 t ht.2,h.2.2 t ht.1]⟩
theorem PQ.mono {Ds:List Deferred} {A B:List Nat} {e₀:Env} {Q Q':Post} {x:Exit} {a:Act} {w:World} (h:PQ Ds N A e₀ Q x a w) (hAB:∀t,t∈A→t∈B) (hQ:∀ex e w,Q ex e w→Q' ex e w):PQ Ds N B e₀ Q' x a w:=by
 cases x<;>first | exact ⟨hQ _ _ _ h.1,h.2.mono hAB⟩ | exact h.elim
theorem PQ.trans {Ds:List Deferred} {A B:List Nat} {e₀:Env} {Q:Post} {x:Exit} {a b:Act} {w:World} (h:Frm Ds N A e₀ a) (k:PQ Ds N B (ofAct a) Q x b w):PQ Ds N (A++B) e₀ Q x b w:=by
 cases x<;>first | exact ⟨k.1,h.trans k.2⟩ | exact k.elim
theorem Q77 {A:List Nat} {e e':Env} (h:∀t,t∉A→e' t=e t):Env.mix A e e'=e':=by
 funext t
 unfold Env.mix
 cases hb:A.any (fun a=>Nat.beq t a) with
 | true=>rfl
 | false=>
  refine (h t fun hm=>?_).symm
  rw [List.any_eq_false] at hb
  exact hb t hm (by simp)
theorem Q5a (e:Env) (ds:List Nat):Env.puts e ds (ds.map e)=e:=by
 induction ds with
 | nil=>rfl
 | cons d ds ih=>
  show (Env.puts e ds (ds.map e)).put d (e d)=e
  rw [ih,Qjp rfl]
theorem Qx1 {Ds:List Deferred} (hE:∀g∈E,enters P g) (hm:P.follows .mixedOrders=true) (an:An):∀(c:Code) (Q:Post) (a:Act) (w:World),den P E N an c Q (ofAct a) w→a.tmps.size=N→a.defers=Ds→
  c.wp P (PQ Ds N (asg c) (ofAct a) Q) a w:=by
 induction an with
 | leaf=>
  intro c Q a w h hs hd
  simp only [den] at h
  split at h
  ·exact wp_skip ⟨h,hs,hd,fun _ _=>rfl⟩
  ·exact wp_label ⟨h,hs,hd,fun _ _=>rfl⟩
  ·exact wp_exit ⟨h,hs,hd,fun _ _=>rfl⟩
  ·exact wp_ret ⟨h,hs,hd,fun _ _=>rfl⟩
  ·rename_i id ops
   have:=Q9l hE (ops:=ops) (A:=asgO ops) (e₀:=ofAct a) ops.toList a w h hs hd (fun o ho d hd=>List.mem_filterMap.2 ⟨o,ho,hd⟩) (fun _ _=>rfl)
   refine wp_mono (wp_region_list this) ?_
   intro x a' w' hx
   cases x<;>first | exact hx | exact hx.elim
  ·exact h.elim
 | reg r=>
  intro c Q a w h hs hd
  simp only [den] at h
  split at h
  ·rename_i id ops
   cases hb:(Region.noSelect ops&&Nat.ble r.deep ops.size)<;>simp only [hb,cond_true,cond_false] at h
   simp only [Bool.and_eq_true,Nat.ble_eq] at hb
   have:=Zcd hE hb.1 (e₀:=ofAct a) r _ [] a _ ops.size hb.2 h hs hd (fun _ _=>rfl) (fun h hh=>by cases hh)
   have:=Q2s _ _ _ _ _ this
   refine wp_mono (wp_region_any hm this) ?_
   intro x a' w' hx
   cases x<;>first | exact hx | exact hx.elim
  ·exact h.elim
 | seq x y ihx ihy=>
  intro c Q a w h hs hd
  simp only [den] at h
  split at h
  ·rename_i cx cy
   refine wp_seq (wp_mono (ihx _ _ _ _ h hs hd) ?_)
   intro ex a' w' hx
   cases ex<;>simp only [PQ] at hx<;>first | exact hx.elim | skip
   ·exact wp_mono (ihy _ _ _ _ hx.1 hx.2.1 hx.2.2.1) fun _ _ _ k=>PQ.trans hx.2 k
   ·exact ⟨hx.1,hx.2.mono fun t ht=>List.mem_append_left _ ht⟩
   ·exact ⟨hx.1,hx.2.mono fun t ht=>List.mem_append_left _ ht⟩
  ·exact h.elim
 | join ds ts x y ihx ihy=>
  intro c Q a w h hs hd
  simp only [den] at h
  split at h
  ·rename_i cx cy
   obtain ⟨J,h,hj⟩:=h
   refine wp_seq (wp_mono (ihx _ _ _ _ h hs hd) ?_)
   intro ex a' w' hx
   cases ex<;>simp only [PQ] at hx<;>first | exact hx.elim | skip
   ·obtain ⟨hx1,hx2⟩:=hx
    simp only [thenP] at hx1
    cases hb:fitTs ts (ds.map (ofAct a'))<;>simp only [hb,cond_true,cond_false] at hx1
    have hy:=Q5r (hj (ofAct a')) hb w' hx1
    rw [Q77 hx2.2.2,Q5a] at hy
    exact wp_mono (ihy _ _ _ _ hy hx2.1 hx2.2.1) fun _ _ _ k=>PQ.trans hx2 k
   ·exact ⟨hx.1,hx.2.mono fun t ht=>List.mem_append_left _ ht⟩
   ·exact ⟨hx.1,hx.2.mono fun t ht=>List.mem_append_left _ ht⟩
  ·exact h.elim
 | cond x y ihx ihy=>
  intro c Q a w h hs hd
  simp only [den] at h
  split at h
  ·rename_i t cx cy
   split at h
   ·rename_i b hb
    rw [Qxz] at hb
    refine wp_cond hb ?_
    cases b
    ·exact wp_mono (ihy _ _ _ _ h hs hd) fun _ _ _ k=>k.mono (fun t ht=>List.mem_append_right _ ht) (fun _ _ _ h=>h)
    ·exact wp_mono (ihx _ _ _ _ h hs hd) fun _ _ _ k=>k.mono (fun t ht=>List.mem_append_left _ ht) (fun _ _ _ h=>h)
   ·exact h.elim
  ·exact h.elim
 | block x ih=>
  intro c Q a w h hs hd
  simp only [den] at h
  split at h
  ·rename_i id cx
   refine wp_block (wp_mono (ih _ _ _ _ h hs hd) ?_)
   intro ex a' w' hx
   cases ex<;>simp only [PQ] at hx<;>first | exact hx.elim | skip
   ·exact hx
   ·rename_i id'
    obtain ⟨hx1,hx2⟩:=hx
    simp only [blockP] at hx1
    simp only [Exit.inBlock]
    by_cases hid:id'=id
    ·rw [if_pos hid]
     have:Nat.beq id' id=true:=by simpa using hid
     rw [this] at hx1
     exact ⟨hx1,hx2⟩
    ·rw [if_neg hid]
     have:Nat.beq id' id=false:=by
      cases hb:Nat.beq id' id with
      | false=>rfl
      | true=>exact absurd (Nat.eq_of_beq_eq_true hb) hid
     rw [this] at hx1
     exact ⟨hx1,hx2⟩
   ·exact hx
  ·exact h.elim
 | loop ds ts x ih=>
  intro c Q a w h hs hd
  simp only [den] at h
  split at h
  ·rename_i cx
   obtain ⟨I,μ,h0,hl⟩:=h
   refine wp_loop (fun a' w'=>Frm Ds N (asg cx) (ofAct a) a'∧fitTs ts (ds.map (ofAct a'))=true∧I (ds.map (ofAct a')) w') (fun a' w'=>μ (ds.map (ofAct a')) w') ?_ ?_
   ·cases hb:fitTs ts (ds.map (ofAct a))<;>simp only [hb,cond_true,cond_false] at h0
    exact ⟨⟨hs,hd,fun _ _=>rfl⟩,rfl,h0⟩
   ·intro a1 w1 ⟨hf,hfit,hI⟩
    have hr:=Q5r (hl (ofAct a1)) hfit w1 hI
    rw [Q77 hf.2.2,Q5a] at hr
    refine wp_mono (ih _ _ _ _ hr hf.1 hf.2.1) ?_
    intro ex a2 w2 hx
    have hfr:Frm Ds N (asg cx) (ofAct a1) a2→Frm Ds N (asg cx) (ofAct a) a2:=fun k=>(hf.trans k).mono (fun t ht=>by simpa using ht)
    cases ex<;>simp only [PQ] at hx<;>first | exact hx.elim | skip
    ·obtain ⟨hx1,hx2⟩:=hx
     simp only [thenP] at hx1
     cases hb:fitTs ts (ds.map (ofAct a2))<;>simp only [hb,cond_true,cond_false] at hx1
     exact ⟨⟨hfr hx2,hb,hx1.1⟩,hx1.2⟩
    ·exact ⟨hx.1,hfr hx.2⟩
    ·exact ⟨hx.1,hfr hx.2⟩
  ·exact h.elim
 | unr k x ih=>
  intro c Q a w h hs hd
  simp only [den] at h
  split at h
  ·rename_i cx
   refine wp_loop_rounds k ?_
   have key:∀(k:Nat) (a1:Act) (w1:World),unrW (fun J e w=>den P E N x cx (thenP J Q) e w) k (ofAct a1) w1→Frm Ds N (asg cx) (ofAct a) a1→
     Code.rounds P cx (PQ Ds N (asg cx) (ofAct a) Q) k a1 w1:=by
    intro k
    induction k with
    | zero=>intro a1 w1 h _;exact h.elim
    | succ k ihk=>
     intro a1 w1 h hf
     rw [rounds_succ]
     refine wp_mono (ih _ _ _ _ h hf.1 hf.2.1) ?_
     intro ex a2 w2 hx
     have hfr:Frm Ds N (asg cx) (ofAct a1) a2→Frm Ds N (asg cx) (ofAct a) a2:=fun k=>(hf.trans k).mono (fun t ht=>by simpa using ht)
     cases ex<;>simp only [PQ] at hx<;>first | exact hx.elim | skip
     ·exact ihk _ _ hx.1 (hfr hx.2)
     ·exact ⟨hx.1,hfr hx.2⟩
     ·exact ⟨hx.1,hfr hx.2⟩
   exact key k a w h ⟨hs,hd,fun _ _=>rfl⟩
  ·exact h.elim
def resT:List ResultVar→Option (List Nat)
 | []=>some []
 | .tmp t::r=>match resT r with | some l=>some (t::l) | none=>none
 | _=>none
def resV (e:Env):List Nat→Value
 | [t]=>e t
 | ts=>.tuple (ts.map e).toArray
def envOf (args:List Value):Env:=fun t=>match args[t]? with | some v=>v | none=>undef
def denF (P:Program) (E:List FuncId) (fn:Func) (an:An) (args:List Value) (w:World) (R:Value→World→Prop):Prop:=
 match fn.body with
 | none=>False
 | some c=>match resT fn.results.toList with
  | some ts=>bif Nat.ble args.length fn.ntmps then
   den P E fn.ntmps an c (fun x e w'=>match x with | .exit _=>False | _=>R (resV e ts) w') (envOf args) w
  else False
  | none=>False
theorem Zd2 {rs:List ResultVar} {ts:List Nat} (h:resT rs=some ts):rs=ts.map .tmp:=by
 induction rs generalizing ts with
 | nil=>simp [resT] at h;subst h;rfl
 | cons r rs ih=>
  cases r with
  | tmp t=>
   simp only [resT] at h
   split at h
   ·rename_i l hl;obtain rfl:=Option.some.inj h;rw [ih hl];rfl
   ·cases h
  | cell=>simp [resT] at h
theorem results_run {fn:Func} {ts:List Nat} (h:resT fn.results.toList=some ts) (tmps:Array Value) (w:World) :
  (results fn tmps).run P w=.ok (resV (fun t=>tmps.getD t undef) ts) w:=by
 have hr:fn.results=(ts.map ResultVar.tmp).toArray:=by rw [←Zd2 h]
 unfold results
 have hm:∀(f:ResultVar→Sem Value),(∀t w,(f (.tmp t)).run P w=.ok (tmps.getD t undef) w)→(fn.results.mapM f).run P w=.ok ((ts.map fun t=>tmps.getD t undef).toArray) w:=by
  intro f hf
  rw [hr,Qys (g:=fun r=>match r with | .tmp t=>tmps.getD t undef | .cell _ _=>undef) w]
  ·congr 1;apply Array.ext';simp
  ·intro r hr
   obtain ⟨t,ht,rfl⟩:=List.mem_map.1 (by simpa using hr)
   exact hf t w
 rw [Qae (hm _ fun t w=>rfl)]
 match ts with
 | []=>simp [resV,go_sem]
 | [t]=>simp [resV,go_sem]
 | t::u::r=>simp [resV,go_sem]
theorem Qwg (args:List Value) (n:Nat) (h:args.length≤n) :
  ofAct {tmps:=args.toArray++Array.replicate (n-args.length) undef,defers:=[]}=envOf args:=by
 funext t
 simp only [ofAct,envOf]
 rcases Nat.lt_or_ge t args.length with ht | ht
 ·have h1:(args.toArray++Array.replicate (n-args.length) undef)[t]?=args[t]?:=by
   rw [Array.getElem?_append_left (by simpa using ht)];simp
  rw [Array.getD_eq_getD_getElem?,h1,List.getElem?_eq_getElem ht]
  rfl
 ·rw [List.getElem?_eq_none ht,Array.getD_eq_getD_getElem?,Array.getElem?_append_right (by simpa using ht)]
  simp only [List.size_toArray,Array.getElem?_replicate]
  split<;>rfl
theorem Qz3 {f:FuncId} {fn:Func} {an:An} {args:List Value} {w:World} {R:Value→World→Prop}
  (hE:∀g∈E,enters P g) (hm:P.follows .mixedOrders=true) (hf:P.funcs[f]?=some fn)
  (h:denF P E fn an args w R):Calls P f args.toArray w fun e w'=>∃v,e=.returned v∧R v w':=by
 unfold denF at h
 split at h
 ·exact h.elim
 rename_i c hb
 split at h
 ·rename_i ts hts
  cases hn:Nat.ble args.length fn.ntmps<;>simp only [hn,cond_true,cond_false] at h
  rw [Nat.ble_eq] at hn
  refine calls_of_wp hf hb ?_
  simp only [List.size_toArray]
  rw [←Qwg args fn.ntmps hn] at h
  refine wp_mono (Qx1 hE hm an _ _ _ _ h (by simp;omega) rfl) ?_
  intro x a w' hx
  have hres:∀w',(results fn a.tmps).run P w'=.ok (resV (ofAct a) ts) w':=fun w'=>results_run hts a.tmps w'
  cases x<;>simp only [PQ] at hx<;>first | exact hx.elim | skip
  ·exact ⟨hx.2.2.1,_,hres w',_,rfl,hx.1⟩
  ·exact hx.1.elim
  ·exact ⟨hx.2.2.1,_,hres w',_,rfl,hx.1⟩
 ·exact h.elim
end
def ldI (k:IntKind) (a:Addr) (w:World) (K:Int→Prop):Prop:=∃n:Int,w.cell? a=some (.int k n)∧K n
def ldB (a:Addr) (w:World) (K:Bool→Prop):Prop:=∃b:Bool,w.cell? a=some (.bool b)∧K b
def ldP (a:Addr) (w:World) (K:Option Addr→Prop):Prop:=∃p:Option Addr,w.cell? a=some (.pointer p)∧K p
def ldS (a:Addr) (w:World) (K:Option Addr→Nat→Nat→Prop):Prop:=∃(b:Option Addr) (l c:Nat),w.cell? a=some (.slice b l c)∧K b l c
def ldV (a:Addr) (w:World) (K:Value→Prop):Prop:=∃x:Value,w.cell? a=some x∧K x
def ldT (a:Addr) (w:World) (K:ByteArray→Prop):Prop:=∃s:ByteArray,w.cell? a=some (.string s)∧K s
def ldM (a:Addr) (w:World) (K:Option Nat→Prop):Prop:=∃r:Option Nat,w.cell? a=some (.map r)∧K r
end Go.Proofs.YtfeekmmfdkfgmaaGreatDoor
