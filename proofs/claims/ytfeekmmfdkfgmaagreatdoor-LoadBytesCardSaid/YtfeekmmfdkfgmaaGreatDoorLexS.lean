/-
A function's formula, reckoned out of its code by rewriting alone. Nothing is proved of these words: what they make is held against the translation by the kernel, function by function.
Conditions: none.
-/
import Derived.Test.YtfeekmmfdkfgmaaGreatDoorSn
set_option linter.unusedVariables false
set_option linter.unusedSimpArgs false
namespace Go.Proofs.YtfeekmmfdkfgmaaGreatDoor
open Go
set_option linter.constructorNameAsVariable false
namespace Rw
inductive Sy where
 | v (x:Value) | o (x:Value) | n (k:IntKind) (i:Int) | t | f | u | a (l:List Sy) | p (l:List Sy)
mutual
def sv:Sy→Value
 | .v x=>x
 | .o x=>x
 | .n k i=>.int k i
 | .t=>.bool true
 | .f=>.bool false
 | .u=>undef
 | .a l=>.agg (svs l).toArray
 | .p l=>.tuple (svs l).toArray
def svs:List Sy→List Value
 | []=>[]
 | x::l=>sv x::svs l
end
abbrev Ev:=List Sy
abbrev KS:=Sy→Prop
abbrev KL:=List Sy→Prop
inductive TK where
 | one | st | ar | sl | str | tup | pk | mp | ifc
inductive TI where
 | mk (c:TK) (el n s:Nat) (b:Int) (fs:List (Nat × Nat)) (ls:List Lf)
abbrev KT:=TK→Nat→Nat→Nat→Int→List (Nat × Nat)→List Lf→Prop
def gT:List TI→Nat→KT→Prop
 | [],_,_=>False
 | ⟨c,el,n,s,b,fs,ls⟩::_,0,K=>K c el n s b fs ls
 | _::l,t+1,K=>gT l t K
abbrev o8:TI:=⟨.one,0,0,1,8,[],[.fn]⟩
abbrev o7:TI:=⟨.one,0,0,1,8,[],[.ptr]⟩
@[reducible] def tb:List TI:=[⟨.tup,0,0,1,0,[],[]⟩,o8,⟨.one,0,0,1,8,[],[.int .i64]⟩,⟨.one,0,0,1,8,[],[.int .i64]⟩,⟨.one,0,0,1,1,[],[.bool]⟩,⟨.one,0,0,1,1,[],[.int .u8]⟩,⟨.one,0,0,1,1,[],[.int .u8]⟩,⟨.st,0,0,4,24,[(0,2),(1,3),(2,4),(3,6)],[.int .i64,.int .i64,.bool,.int .u8]⟩,⟨.st,0,0,4,24,[(0,2),(1,3),(2,4),(3,6)],[.int .i64,.int .i64,.bool,.int .u8]⟩,⟨.str,0,0,1,16,[],[.str]⟩,⟨.str,0,0,1,16,[],[.str]⟩,⟨.str,0,0,1,16,[],[.str]⟩,⟨.one,0,0,1,8,[],[.int .u64]⟩,⟨.st,0,0,2,24,[(0,9),(1,12)],[.str,.int .u64]⟩,⟨.st,0,0,2,24,[(0,9),(1,12)],[.str,.int .u64]⟩,o7,o7,o7,⟨.st,0,0,1,8,[(0,17)],[.ptr]⟩,⟨.st,0,0,1,8,[(0,17)],[.ptr]⟩,⟨.ifc,0,0,1,16,[],[.ifc]⟩,⟨.one,0,0,1,4,[],[.int .i32]⟩,⟨.sl,113,0,1,24,[],[.slc]⟩,⟨.sl,109,0,1,24,[],[.slc]⟩,⟨.st,0,0,4,80,[(0,3),(1,22),(2,22),(3,23)],[.int .i64,.slc,.slc,.slc]⟩,⟨.pk,0,0,4,80,[(0,3),(1,22),(2,22),(3,23)],[.int .i64,.slc,.slc,.slc]⟩,o8,o8,o7,⟨.ifc,0,0,1,16,[],[.ifc]⟩,⟨.ifc,0,0,1,16,[],[.ifc]⟩,⟨.tup,0,0,1,0,[(0,28),(0,30)],[]⟩,o8,⟨.sl,120,0,1,24,[],[.slc]⟩,⟨.sl,107,0,1,24,[],[.slc]⟩,⟨.st,0,0,4,80,[(0,3),(1,33),(2,33),(3,34)],[.int .i64,.slc,.slc,.slc]⟩,⟨.pk,0,0,4,80,[(0,3),(1,33),(2,33),(3,34)],[.int .i64,.slc,.slc,.slc]⟩,o8,⟨.sl,58,0,1,24,[],[.slc]⟩,⟨.tup,0,0,1,0,[(0,38),(0,4)],[]⟩,o8,o8,⟨.tup,0,0,1,0,[(0,36),(0,30)],[]⟩,o8,⟨.sl,5,0,1,24,[],[.slc]⟩,⟨.tup,0,0,1,0,[(0,44),(0,30)],[]⟩,o8,o8,o8,o7,o7,⟨.st,0,0,3,24,[(0,49),(1,49),(2,50)],[.ptr,.ptr,.ptr]⟩,⟨.st,0,0,3,24,[(0,49),(1,49),(2,50)],[.ptr,.ptr,.ptr]⟩,o8,⟨.tup,0,0,1,0,[(0,25),(0,4)],[]⟩,o8,o8,o8,⟨.sl,3,0,1,24,[],[.slc]⟩,⟨.sl,21,0,1,24,[],[.slc]⟩,⟨.st,0,0,2,48,[(0,38),(1,59)],[.slc,.slc]⟩,⟨.st,0,0,2,48,[(0,38),(1,59)],[.slc,.slc]⟩,⟨.tup,0,0,1,0,[(0,50),(0,30)],[]⟩,o8,⟨.st,0,0,2,32,[(0,3),(1,38)],[.int .i64,.slc]⟩,⟨.pk,0,0,2,32,[(0,3),(1,38)],[.int .i64,.slc]⟩,⟨.tup,0,0,1,0,[(0,65),(0,4)],[]⟩,o8,o8,o8,⟨.sl,4,0,1,24,[],[.slc]⟩,⟨.st,0,0,5,88,[(0,3),(1,70),(2,65),(4,59)],[.int .i64,.slc,.int .i64,.slc,.slc]⟩,⟨.pk,0,0,5,88,[(0,3),(1,70),(2,65),(4,59)],[.int .i64,.slc,.int .i64,.slc,.slc]⟩,o8,⟨.tup,0,0,1,0,[(0,72),(0,3)],[]⟩,o8,o8,o8,⟨.tup,0,0,1,0,[(0,72),(0,4)],[]⟩,o8,⟨.ar,3,2,2,16,[],[.int .i64,.int .i64]⟩,⟨.st,0,0,7,56,[(0,3),(1,3),(2,80),(4,80),(6,21)],[.int .i64,.int .i64,.int .i64,.int .i64,.int .i64,.int .i64,.int .i32]⟩,⟨.pk,0,0,7,56,[(0,3),(1,3),(2,80),(4,80),(6,21)],[.int .i64,.int .i64,.int .i64,.int .i64,.int .i64,.int .i64,.int .i32]⟩,o8,⟨.sl,88,0,1,24,[],[.slc]⟩,⟨.one,0,0,1,8,[],[.int .u64]⟩,o8,o8,⟨.pk,0,0,7,56,[(0,3),(1,3),(2,80),(4,80),(6,21)],[.int .i64,.int .i64,.int .i64,.int .i64,.int .i64,.int .i64,.int .i32]⟩,o8,o8,⟨.st,0,0,4,32,[(0,3),(1,3),(2,3),(3,3)],[.int .i64,.int .i64,.int .i64,.int .i64]⟩,⟨.st,0,0,4,32,[(0,3),(1,3),(2,3),(3,3)],[.int .i64,.int .i64,.int .i64,.int .i64]⟩,o8,⟨.tup,0,0,1,0,[(0,3),(0,30)],[]⟩,o8,⟨.tup,0,0,1,0,[(0,4),(0,30)],[]⟩,o8,o8,⟨.tup,0,0,1,0,[(0,38),(0,30)],[]⟩,o8,⟨.tup,0,0,1,0,[(0,49),(0,30)],[]⟩,o8,⟨.one,0,0,1,8,[],[.int .i64]⟩,⟨.one,0,0,1,4,[],[.int .u32]⟩,⟨.ar,104,2,2,8,[],[.int .u32,.int .u32]⟩,⟨.st,0,0,5,20,[(0,105),(2,105),(4,21)],[.int .u32,.int .u32,.int .u32,.int .u32,.int .i32]⟩,⟨.pk,0,0,5,20,[(0,105),(2,105),(4,21)],[.int .u32,.int .u32,.int .u32,.int .u32,.int .i32]⟩,o8,⟨.pk,0,0,5,20,[(0,105),(2,105),(4,21)],[.int .u32,.int .u32,.int .u32,.int .u32,.int .i32]⟩,o8,o8,⟨.st,0,0,2,16,[(0,104),(1,3)],[.int .u32,.int .i64]⟩,⟨.st,0,0,2,16,[(0,104),(1,3)],[.int .u32,.int .i64]⟩,o8,o8,o7,o8,⟨.one,0,0,1,8,[],[.int .i64]⟩,⟨.st,0,0,2,16,[(0,104),(1,118)],[.int .u32,.int .i64]⟩,⟨.st,0,0,2,16,[(0,104),(1,118)],[.int .u32,.int .i64]⟩,⟨.tup,0,0,1,0,[(0,107),(0,30)],[]⟩,o8,o8,o8,o8,o8,⟨.one,0,0,1,8,[],[.int .u64]⟩,o7,o7,o7,⟨.sl,2,0,1,24,[],[.slc]⟩,⟨.st,0,0,11,120,[(0,3),(1,70),(2,128),(3,129),(4,130),(5,131),(6,92),(10,2)],[.int .i64,.slc,.ptr,.ptr,.ptr,.slc,.int .i64,.int .i64,.int .i64,.int .i64,.int .i64]⟩,⟨.st,0,0,11,120,[(0,3),(1,70),(2,128),(3,129),(4,130),(5,131),(6,92),(10,2)],[.int .i64,.slc,.ptr,.ptr,.ptr,.slc,.int .i64,.int .i64,.int .i64,.int .i64,.int .i64]⟩,⟨.tup,0,0,1,0,[(0,127),(0,4)],[]⟩,o8,⟨.ar,104,5,5,20,[],[.int .u32,.int .u32,.int .u32,.int .u32,.int .u32]⟩,o8,o8,o8,o8,o8,⟨.st,0,0,2,16,[(0,3),(1,3)],[.int .i64,.int .i64]⟩,⟨.st,0,0,2,16,[(0,3),(1,3)],[.int .i64,.int .i64]⟩,⟨.tup,0,0,1,0,[(0,128),(0,30)],[]⟩,o8,o8,o8,o8,o8,⟨.tup,0,0,1,0,[(0,3),(0,3)],[]⟩,o8,o8,o8,⟨.ar,3,4,4,32,[],[.int .i64,.int .i64,.int .i64,.int .i64]⟩,o8,o8,o8,o8,⟨.tup,0,0,1,0,[(0,58),(0,30)],[]⟩,o8,o8,o8,o8,o8,o8,⟨.tup,0,0,1,0,[(0,70),(0,2)],[]⟩,o8,o8,⟨.tup,0,0,1,0,[(0,21),(0,30)],[]⟩,o8,o8,o8,o8,o8,o8,⟨.st,0,0,2,8,[(0,104),(1,104)],[.int .u32,.int .u32]⟩,⟨.st,0,0,2,8,[(0,104),(1,104)],[.int .u32,.int .u32]⟩,⟨.tup,0,0,1,0,[(0,177),(0,30)],[]⟩,o8,o8,o8,o8,o8,o8,o8,o7,⟨.st,0,0,4,48,[(0,3),(1,33),(2,186),(3,3)],[.int .i64,.slc,.ptr,.int .i64]⟩,⟨.st,0,0,4,48,[(0,3),(1,33),(2,186),(3,3)],[.int .i64,.slc,.ptr,.int .i64]⟩,⟨.st,0,0,2,32,[(0,3),(1,22)],[.int .i64,.slc]⟩,⟨.st,0,0,2,32,[(0,3),(1,22)],[.int .i64,.slc]⟩,⟨.tup,0,0,1,0,[(0,190),(0,3)],[]⟩,o8,o8,⟨.one,0,0,1,8,[],[]⟩,⟨.one,0,0,1,8,[],[.int .u64]⟩,⟨.st,0,0,3,24,[(0,17),(1,194),(2,195)],[]⟩,⟨.st,0,0,3,24,[(0,17),(1,194),(2,195)],[]⟩,o8,⟨.ifc,0,0,1,16,[],[.ifc]⟩,⟨.ifc,0,0,1,16,[],[.ifc]⟩,o8,⟨.one,0,0,1,1,[],[.int .u8]⟩,o8,o8,o8,o8,⟨.tup,0,0,1,0,[(0,127),(0,44),(0,3)],[]⟩,o8,o7,⟨.st,0,0,2,32,[(0,44),(1,4)],[.slc,.bool]⟩,⟨.st,0,0,2,32,[(0,44),(1,4)],[.slc,.bool]⟩,o8,o8,o8,o8,o8,o8,⟨.tup,0,0,1,0,[(0,129),(0,30)],[]⟩,o8,⟨.tup,0,0,1,0,[(0,130),(0,30)],[]⟩,o8,o8,⟨.tup,0,0,1,0,[(0,3),(0,3),(0,4),(0,30)],[]⟩,o8,⟨.tup,0,0,1,0,[(0,2),(0,30)],[]⟩,o8,o8,o8,o8,o8,o8,o8,⟨.mp,0,0,1,8,[],[.map]⟩,⟨.tup,0,0,1,0,[(0,233),(0,30)],[]⟩,o8,o8,o8,⟨.sl,240,0,1,24,[],[.slc]⟩,⟨.st,0,0,3,24,[(0,3),(1,3),(2,21)],[.int .i64,.int .i64,.int .i32]⟩,⟨.pk,0,0,3,24,[(0,3),(1,3),(2,21)],[.int .i64,.int .i64,.int .i32]⟩,o8,⟨.tup,0,0,1,0,[(0,70),(0,2),(0,30)],[]⟩,o8,o8,⟨.tup,0,0,1,0,[(0,58),(0,4)],[]⟩,o8,o8,o8,o8,⟨.sl,325,0,1,24,[],[.slc]⟩,⟨.tup,0,0,1,0,[(0,250),(0,58)],[]⟩,o8,o8,o8,o8,o8,o8,⟨.tup,0,0,1,0,[(0,65),(0,3)],[]⟩,o8,o8,⟨.tup,0,0,1,0,[(0,186),(0,30)],[]⟩,o8,o8,o7,o8,o7,o8,⟨.ar,21,2,2,8,[],[.int .i32,.int .i32]⟩,⟨.sl,268,0,1,24,[],[.slc]⟩,⟨.st,0,0,4,48,[(0,266),(1,130),(2,3),(3,269)],[.ptr,.ptr,.int .i64,.slc]⟩,⟨.st,0,0,4,48,[(0,266),(1,130),(2,3),(3,269)],[.ptr,.ptr,.int .i64,.slc]⟩,o8,⟨.tup,0,0,1,0,[(0,104),(0,4)],[]⟩,o8,o8,o8,⟨.st,0,0,1,8,[(0,17)],[.ptr]⟩,⟨.st,0,0,1,8,[(0,17)],[.ptr]⟩,o7,o8,o8,o8,⟨.ifc,0,0,1,16,[],[.ifc]⟩,⟨.tup,0,0,1,0,[(0,283),(0,4)],[]⟩,o8,⟨.ifc,0,0,1,16,[],[.ifc]⟩,⟨.ifc,0,0,1,16,[],[.ifc]⟩,⟨.sl,30,0,1,24,[],[.slc]⟩,o8,o8,o8,⟨.tup,0,0,1,0,[(0,127),(0,44),(0,30)],[]⟩,o8,⟨.sl,298,0,1,24,[],[.slc]⟩,⟨.st,0,0,3,72,[(0,294),(1,59),(2,59)],[.slc,.slc,.slc]⟩,⟨.st,0,0,3,72,[(0,294),(1,59),(2,59)],[.slc,.slc,.slc]⟩,⟨.st,0,0,3,12,[(0,21),(1,21),(2,21)],[.int .i32,.int .i32,.int .i32]⟩,⟨.st,0,0,3,12,[(0,21),(1,21),(2,21)],[.int .i32,.int .i32,.int .i32]⟩,⟨.tup,0,0,1,0,[(0,266),(0,30)],[]⟩,o8,⟨.sl,305,0,1,24,[],[.slc]⟩,⟨.st,0,0,1,24,[(0,301)],[.slc]⟩,⟨.st,0,0,1,24,[(0,301)],[.slc]⟩,⟨.st,0,0,9,56,[(0,21),(1,268),(3,4),(4,21),(5,2),(6,2),(7,2),(8,2)],[.int .i32,.int .i32,.int .i32,.bool,.int .i32,.int .i64,.int .i64,.int .i64,.int .i64]⟩,⟨.st,0,0,9,56,[(0,21),(1,268),(3,4),(4,21),(5,2),(6,2),(7,2),(8,2)],[.int .i32,.int .i32,.int .i32,.bool,.int .i32,.int .i64,.int .i64,.int .i64,.int .i64]⟩,o8,o8,o8,o8,o8,o8,o7,⟨.tup,0,0,1,0,[(0,312),(0,30)],[]⟩,o8,o8,o8,o8,o8,o8,o8,o8,⟨.tup,0,0,1,0,[(0,298),(0,30)],[]⟩,o8,o8,⟨.pk,0,0,3,24,[(0,3),(1,3),(2,21)],[.int .i64,.int .i64,.int .i32]⟩,o8,o8,o8,⟨.st,0,0,0,0,[],[]⟩,⟨.st,0,0,0,0,[],[]⟩,⟨.st,0,0,0,0,[],[]⟩,⟨.st,0,0,1,8,[(0,330),(0,331),(0,2)],[.int .i64]⟩,⟨.st,0,0,1,8,[(0,330),(0,331),(0,2)],[.int .i64]⟩,⟨.sl,338,0,1,24,[],[.slc]⟩,⟨.st,0,0,3,40,[(0,3),(1,333),(2,334)],[.int .i64,.int .i64,.slc]⟩,⟨.st,0,0,3,40,[(0,3),(1,333),(2,334)],[.int .i64,.int .i64,.slc]⟩,⟨.sl,127,0,1,24,[],[.slc]⟩,⟨.sl,127,0,1,24,[],[.slc]⟩,o8,o8,o7,o8,⟨.sl,104,0,1,24,[],[.slc]⟩,o8,o8,⟨.tup,0,0,1,0,[(0,341),(0,30)],[]⟩,o8,⟨.st,0,0,1,8,[(0,341)],[.ptr]⟩,⟨.st,0,0,1,8,[(0,341)],[.ptr]⟩,o7,⟨.tup,0,0,1,0,[(0,350),(0,30)],[]⟩,o8,o8,o8,o8,o8,⟨.tup,0,0,1,0,[(0,3),(0,3),(0,30)],[]⟩,o8,o8,o8,o8,o8,o8,o8,o8,o8,o8,o8,⟨.ar,5,64,64,64,[],[.int .u8,.int .u8,.int .u8,.int .u8,.int .u8,.int .u8,.int .u8,.int .u8,.int .u8,.int .u8,.int .u8,.int .u8,.int .u8,.int .u8,.int .u8,.int .u8,.int .u8,.int .u8,.int .u8,.int .u8,.int .u8,.int .u8,.int .u8,.int .u8,.int .u8,.int .u8,.int .u8,.int .u8,.int .u8,.int .u8,.int .u8,.int .u8,.int .u8,.int .u8,.int .u8,.int .u8,.int .u8,.int .u8,.int .u8,.int .u8,.int .u8,.int .u8,.int .u8,.int .u8,.int .u8,.int .u8,.int .u8,.int .u8,.int .u8,.int .u8,.int .u8,.int .u8,.int .u8,.int .u8,.int .u8,.int .u8,.int .u8,.int .u8,.int .u8,.int .u8,.int .u8,.int .u8,.int .u8,.int .u8]⟩,o7,o8,o7,o7,⟨.tup,0,0,1,0,[(0,373),(0,30)],[]⟩,o8,⟨.st,0,0,9,56,[(0,21),(1,21),(2,21),(3,4),(4,21),(5,2),(6,2),(7,2),(8,2)],[.int .i32,.int .i32,.int .i32,.bool,.int .i32,.int .i64,.int .i64,.int .i64,.int .i64]⟩,⟨.st,0,0,9,56,[(0,21),(1,21),(2,21),(3,4),(4,21),(5,2),(6,2),(7,2),(8,2)],[.int .i32,.int .i32,.int .i32,.bool,.int .i32,.int .i64,.int .i64,.int .i64,.int .i64]⟩,⟨.sl,377,0,1,24,[],[.slc]⟩,⟨.st,0,0,1,24,[(0,378)],[.slc]⟩,⟨.st,0,0,1,24,[(0,378)],[.slc]⟩,o8,o8,o8,o8,o8,o8,⟨.sl,393,0,1,24,[],[.slc]⟩,⟨.st,0,0,4,96,[(0,59),(1,59),(2,59),(3,387)],[.slc,.slc,.slc,.slc]⟩,⟨.st,0,0,4,96,[(0,59),(1,59),(2,59),(3,387)],[.slc,.slc,.slc,.slc]⟩,⟨.tup,0,0,1,0,[(0,21),(0,21),(0,30)],[]⟩,o8,⟨.st,0,0,3,12,[(0,21),(1,21),(2,21)],[.int .i32,.int .i32,.int .i32]⟩,⟨.st,0,0,3,12,[(0,21),(1,21),(2,21)],[.int .i32,.int .i32,.int .i32]⟩,o8,o8,o8,o8,o8,o8,o8,o8,o8,o8,o8,⟨.one,0,0,1,8,[],[.int .i64]⟩,⟨.tup,0,0,1,0,[(0,3),(0,405)],[]⟩,o8,o8,o8,⟨.tup,0,0,1,0,[(0,3),(0,4)],[]⟩,o8,o8,o8,⟨.one,0,0,1,8,[],[.int .u64]⟩,o8,o8,o8,o7,o8,o7,o8,o8,⟨.st,0,0,4,40,[(0,17),(1,17),(2,17),(3,9)],[.ptr,.ptr,.ptr,.str]⟩,⟨.st,0,0,4,40,[(0,17),(1,17),(2,17),(3,9)],[.ptr,.ptr,.ptr,.str]⟩,⟨.ar,16,0,0,0,[],[]⟩,⟨.st,0,0,0,0,[(0,425)],[]⟩,⟨.st,0,0,0,0,[(0,425)],[]⟩,o8,⟨.one,0,0,1,1,[],[.int .u8]⟩,o8,o7,⟨.one,0,0,1,4,[],[.int .i32]⟩,⟨.one,0,0,1,4,[],[.int .i32]⟩,⟨.st,0,0,11,48,[(0,12),(1,12),(2,104),(3,429),(4,5),(5,5),(6,202),(7,430),(8,431),(9,432),(10,433)],[.int .u64,.int .u64,.int .u32,.int .u8,.int .u8,.int .u8,.int .u8,.fn,.ptr,.int .i32,.int .i32]⟩,⟨.st,0,0,11,48,[(0,12),(1,12),(2,104),(3,429),(4,5),(5,5),(6,202),(7,430),(8,431),(9,432),(10,433)],[.int .u64,.int .u64,.int .u32,.int .u8,.int .u8,.int .u8,.int .u8,.fn,.ptr,.int .i32,.int .i32]⟩,o8,o8,⟨.st,0,0,2,24,[(0,9),(1,202)],[.str,.int .u8]⟩,⟨.st,0,0,2,24,[(0,9),(1,202)],[.str,.int .u8]⟩,o7,o8,⟨.one,0,0,1,2,[],[.int .u16]⟩,⟨.st,0,0,5,16,[(0,432),(1,442),(2,442),(3,104),(4,104)],[.int .i32,.int .u16,.int .u16,.int .u32,.int .u32]⟩,⟨.st,0,0,5,16,[(0,432),(1,442),(2,442),(3,104),(4,104)],[.int .i32,.int .u16,.int .u16,.int .u32,.int .u32]⟩,⟨.sl,448,0,1,24,[],[.slc]⟩,⟨.one,0,0,1,4,[],[.int .i32]⟩,⟨.st,0,0,4,16,[(0,432),(1,433),(2,446),(3,446)],[.int .i32,.int .i32,.int .i32,.int .i32]⟩,⟨.st,0,0,4,16,[(0,432),(1,433),(2,446),(3,446)],[.int .i32,.int .i32,.int .i32,.int .i32]⟩,o7]
def ap1 {α:Type} (K:α→Prop) (x:α):Prop:=K x
def ap2 {α β:Type} (K:α→β→Prop) (x:α) (y:β):Prop:=K x y
def ap3 {α β γ:Type} (K:α→β→γ→Prop) (x:α) (y:β) (z:γ):Prop:=K x y z
def gt:Ev→Nat→KS→Prop
 | [],_,K=>K .u
 | v::_,0,K=>K v
 | _::e,t+1,K=>gt e t K
def gp:Ev→Nat→Sy→KL→Prop
 | [],0,v,K=>K [v]
 | [],t+1,v,K=>gp [] t v fun e'=>K (.u::e')
 | _::e,0,v,K=>K (v::e)
 | y::e,t+1,v,K=>gp e t v fun e'=>K (y::e')
def gpo (m0:Nat) (d:Option Nat) (e:Ev) (v:Sy) (K:KL):Prop:=match m0,d with
 | 0,_=>False
 | _+2,none=>K e
 | _+2,some d=>gp e d v K
 | m1+1,_=>gpo m1 d e v K
def gk (x:Value) (K:KS):Prop:=match x with
 | .int k i=>K (.n k i)
 | .bool true=>K .t
 | .bool false=>K .f
 | x=>K (.v x)
def gks:List Value→KL→Prop
 | [],K=>K []
 | x::l,K=>gk x fun s=>gks l fun r=>K (s::r)
def gv (m0:Nat) (e:Ev) (x:Operand) (K:KS):Prop:=match m0,x with
 | 0,_=>False
 | _+2,.tmp t=>gt e t K
 | _+2,.const v=>gk v K
 | _+2,.global g=>K (.v (.pointer (some ⟨g,0,none⟩)))
 | _+2,.func f=>K (.v (.func (.func f) #[] #[]))
 | m1+1,_=>gv m1 e x K
def gvs (e:Ev):List Operand→KL→Prop
 | [],K=>K []
 | x::l,K=>gv 2 e x fun s=>gvs e l fun r=>K (s::r)
def gva (e:Ev) (l:Array Operand) (K:KL):Prop:=gvs e l.toList K
theorem Zlu {e:Ev} {l:List Operand} {K:KL}:gva e l.toArray K=gvs e l K:=rfl
def gvo (m0:Nat) (e:Ev) (x:Option Operand) (K:Option Sy→Prop):Prop:=match m0,x with
 | 0,_=>False
 | _+2,none=>K none
 | _+2,some x=>gv 2 e x fun s=>K (some s)
 | m1+1,_=>gvo m1 e x K
def gvp (e:Ev):List (Nat × Operand)→(List (Nat × Sy)→Prop)→Prop
 | [],K=>K []
 | (i,x)::l,K=>gv 2 e x fun s=>gvp e l fun r=>K ((i,s)::r)
def gvpa (e:Ev) (l:Array (Nat × Operand)) (K:List (Nat × Sy)→Prop):Prop:=gvp e l.toList K
theorem Zgp {e:Ev} {l:List (Nat × Operand)} {K:List (Nat × Sy)→Prop}:gvpa e l.toArray K=gvp e l K:=rfl
def gfs:List (Nat × Nat)→Nat→(Nat→Nat→Prop)→Prop
 | [],_,_=>False
 | (o,t)::_,0,K=>K o t
 | _::l,f+1,K=>gfs l f K
def gag (m0:Nat) (c:TK) (A B:Prop):Prop:=match m0,c with
 | 0,_=>False | _+2,.st=>A | _+2,.ar=>A | _+2,.pk=>A | _+2,.one=>B | _+2,.sl=>B | _+2,.str=>B | _+2,.tup=>B | _+2,.mp=>B | _+2,.ifc=>B
 | m1+1,_=>gag m1 c A B
def gdr:Nat→List Sy→KL→Prop
 | 0,l,K=>K l
 | n+1,_::l,K=>gdr n l K
 | _+1,[],_=>False
def gtk:List Lf→List Sy→KL→Prop
 | [],_,K=>K []
 | _::ls,x::l,K=>gtk ls l fun r=>K (x::r)
 | _::_,[],_=>False
def ghd (m0:Nat) (l:List Sy) (K:KS):Prop:=match m0,l with
 | 0,_=>False | _+2,x::_=>K x | _+2,[]=>False
 | m1+1,_=>ghd m1 l K
def gov:List Sy→Nat→List Sy→KL→Prop
 | l,0,[],K=>K l
 | _::l,0,x::r,K=>gov l 0 r fun l'=>K (x::l')
 | [],0,_::_,K=>K []
 | x::l,n+1,r,K=>gov l n r fun l'=>K (x::l')
 | [],_+1,_,K=>K []
def gptr (m0:Nat) (x:Sy) (K:Addr→Prop):Prop:=match m0,x with
 | 0,_=>False | _+2,.v (.pointer p)=>pt p K | _+2,_=>False
 | m1+1,_=>gptr m1 x K
def gi (m0:Nat) (x:Sy) (K:Int→Prop):Prop:=match m0,x with
 | 0,_=>False | _+2,.v (.int _ n)=>K n | _+2,.n _ i=>K i | _+2,_=>False
 | m1+1,_=>gi m1 x K
def gal (m0:Nat) (x:Sy) (K:KL):Prop:=match m0,x with
 | 0,_=>False | _+2,.a l=>K l | _+2,.v (.agg cs)=>gks cs.toList K | _+2,_=>False
 | m1+1,_=>gal m1 x K
theorem Zlz {l:List Value} {K:KL}:gal 2 (.v (.agg l.toArray)) K=gks l K:=rfl
theorem Zl0 {l:List Sy} {K:KL}:gal 2 (.a l) K=K l:=rfl
def gz:List Lf→KL→Prop
 | [],K=>K []
 | .int k::l,K=>gz l fun r=>K (.n k 0::r)
 | .bool::l,K=>gz l fun r=>K (.f::r)
 | .str::l,K=>gz l fun r=>K (.v (.string ⟨#[]⟩)::r)
 | .ptr::l,K=>gz l fun r=>K (.v (.pointer none)::r)
 | .slc::l,K=>gz l fun r=>K (.v (.slice none 0 0)::r)
 | .ifc::l,K=>gz l fun r=>K (.v .nilIface::r)
 | .fn::l,K=>gz l fun r=>K (.v .nilFunc::r)
 | .map::l,K=>gz l fun r=>K (.v (.map none)::r)
def gap:List Sy→List Sy→KL→Prop
 | [],r,K=>K r
 | x::l,r,K=>gap l r fun l'=>K (x::l')
def gzn:Nat→List Sy→KL→Prop
 | 0,_,K=>K []
 | n+1,z,K=>gzn n z fun r=>gap z r K
def gsp:Nat→List Sy→(List Sy→KL)→Prop
 | 0,l,K=>K [] l
 | n+1,x::l,K=>gsp n l fun a b=>K (x::a) b
 | _+1,[],_=>False
def go2:List Sy→Nat→Nat→List Sy→KL→Prop
 | l,0,_,xs,K=>gov l 0 xs K
 | l,i+1,s,xs,K=>gsp s l fun a b=>go2 b i s xs fun b'=>gap a b' K
def gocm (m0:Nat) (x:Sy) (A:Prop):Prop:=match m0,x with
 | 0,_=>False | _+2,.o x=>ocm x A | _+2,.v _=>A | _+2,.n _ _=>A | _+2,.t=>A | _+2,.f=>A | _+2,.u=>A | _+2,.a _=>A | _+2,.p _=>A
 | m1+1,_=>gocm m1 x A
def gex (m0:Nat) (l:Lf) (K:KS):Prop:=match m0,l with
 | 0,_=>False
 | _+2,.int k=>∃n:Int,ap1 K (.v (.int k n))
 | _+2,.bool=>∃b:Bool,ap1 K (.v (.bool b))
 | _+2,.str=>∃s:ByteArray,ap1 K (.v (.string s))
 | _+2,.ptr=>∃p:Option Addr,ap1 K (.v (.pointer p))
 | _+2,.slc=>∃(b:Option Addr) (l c:Nat),ap1 K (.v (.slice b l c))
 | _+2,.ifc=>∃x:Value,ap1 K (.o x)
 | _+2,.fn=>∃x:Value,ap1 K (.o x)
 | _+2,.map=>∃r:Option Nat,ap1 K (.v (.map r))
 | m1+1,_=>gex m1 l K
def gexs:List Lf→KL→Prop
 | [],K=>K []
 | l::r,K=>gex 2 l fun x=>gexs r fun xs=>K (x::xs)
def ge1 (m0:Nat) (ls:List Lf) (K:KS):Prop:=match m0,ls with
 | 0,_=>False | _+2,l::_=>gex 2 l K | _+2,[]=>False
 | m1+1,_=>ge1 m1 ls K
def gex1 (t:Nat) (K:KS):Prop:=gT tb t fun c _ _ _ _ _ ls=>gag 2 c (gexs ls fun l=>K (.a l)) (ge1 2 ls K)
def gexn:List (Nat × Nat)→KL→Prop
 | [],K=>K []
 | (_,t)::r,K=>gex1 t fun x=>gexn r fun xs=>K (x::xs)
def gext (m0:Nat) (c:TK) (t:Nat) (fs:List (Nat × Nat)) (K:KS):Prop:=match m0,c with
 | 0,_=>False
 | _+2,.tup=>gexn fs fun l=>K (.p l)
 | _+2,.one=>gex1 t K | _+2,.st=>gex1 t K | _+2,.ar=>gex1 t K | _+2,.sl=>gex1 t K | _+2,.str=>gex1 t K | _+2,.pk=>gex1 t K | _+2,.mp=>gex1 t K | _+2,.ifc=>gex1 t K
 | m1+1,_=>gext m1 c t fs K
def gexT (t:Nat) (K:KS):Prop:=gT tb t fun c _ _ _ _ fs _=>gext 2 c t fs K
def gall (m0:Nat) (l:Lf) (K:KS):Prop:=match m0,l with
 | 0,_=>False
 | _+2,.int k=>∀n:Int,ap1 K (.v (.int k n))
 | _+2,.bool=>∀b:Bool,ap1 K (.v (.bool b))
 | _+2,.str=>∀s:ByteArray,ap1 K (.v (.string s))
 | _+2,.ptr=>∀p:Option Addr,ap1 K (.v (.pointer p))
 | _+2,.slc=>∀(b:Option Addr) (l c:Nat),ap1 K (.v (.slice b l c))
 | _+2,.ifc=>∀x:Value,ap1 K (.o x)
 | _+2,.fn=>∀x:Value,ap1 K (.o x)
 | _+2,.map=>∀r:Option Nat,ap1 K (.v (.map r))
 | m1+1,_=>gall m1 l K
def galls:List Lf→KL→Prop
 | [],K=>K []
 | l::r,K=>gall 2 l fun x=>galls r fun xs=>K (x::xs)
def gallt:List Ty→KL→Prop
 | [],K=>K []
 | .one l::r,K=>gall 2 l fun x=>gallt r fun xs=>K (x::xs)
 | .agg ls::r,K=>galls ls fun x=>gallt r fun xs=>K (.a x::xs)
 | .tup _::_,_=>False
 | .bad::_,_=>False
def glt (i j:Int) (A B:Prop):Prop:=bif decide (i<j) then A else B
theorem glt01 {A B:Prop}:glt 0 1 A B=A:=rfl
theorem glt11 {A B:Prop}:glt 1 1 A B=B:=rfl
theorem glt02 {A B:Prop}:glt 0 2 A B=A:=rfl
theorem glt12 {A B:Prop}:glt 1 2 A B=A:=rfl
theorem glt22 {A B:Prop}:glt 2 2 A B=B:=rfl
theorem glt03 {A B:Prop}:glt 0 3 A B=A:=rfl
theorem glt13 {A B:Prop}:glt 1 3 A B=A:=rfl
theorem glt23 {A B:Prop}:glt 2 3 A B=A:=rfl
theorem glt33 {A B:Prop}:glt 3 3 A B=B:=rfl
def geq:Nat→Nat→Prop→Prop→Prop
 | 0,0,A,_=>A
 | 0,_+1,_,B=>B
 | _+1,0,_,B=>B
 | m+1,n+1,A,B=>geq m n A B
def gE (m0:Nat) (op:BinOp) (b:Bool) (K:KS):Prop:=match m0,op with
 | 0,_=>False | _+2,.eql=>K (.v (.bool b)) | _+2,.neq=>K (.v (.bool (!b))) | _+2,_=>False
 | m1+1,_=>gE m1 op b K
def gbi (m0:Nat) (op:BinOp) (k:IntKind) (a b:Int) (K:KS):Prop:=match m0,op with
 | 0,_=>False
 | _+2,.shl=>0≤b∧ap1 K (.v (.int k (k.wrap (a*2 ^ (min b.toNat k.bits)))))
 | _+2,.shr=>0≤b∧ap1 K (.v (.int k (a.fdiv (2 ^ (min b.toNat k.bits)))))
 | _+2,.add=>K (.v (.int k (k.wrap (a+b))))
 | _+2,.sub=>K (.v (.int k (k.wrap (a-b))))
 | _+2,.mul=>K (.v (.int k (k.wrap (a*b))))
 | _+2,.quo=>b≠0∧ap1 K (.v (.int k (k.wrap (a.tdiv b))))
 | _+2,.rem=>b≠0∧ap1 K (.v (.int k (a.tmod b)))
 | _+2,.and=>K (.v (.int k (k.wrap ((BitVec.ofInt k.bits a &&& BitVec.ofInt k.bits b).toNat))))
 | _+2,.or=>K (.v (.int k (k.wrap ((BitVec.ofInt k.bits a ||| BitVec.ofInt k.bits b).toNat))))
 | _+2,.xor=>K (.v (.int k (k.wrap ((BitVec.ofInt k.bits a ^^^ BitVec.ofInt k.bits b).toNat))))
 | _+2,.andNot=>K (.v (.int k (k.wrap ((BitVec.ofInt k.bits a &&& ~~~(BitVec.ofInt k.bits b)).toNat))))
 | _+2,.eql=>K (.v (.bool (a==b)))
 | _+2,.neq=>K (.v (.bool (a != b)))
 | _+2,.lss=>K (.v (.bool (decide (a<b))))
 | _+2,.leq=>K (.v (.bool (decide (a≤b))))
 | _+2,.gtr=>K (.v (.bool (decide (a>b))))
 | _+2,.geq=>K (.v (.bool (decide (a ≥ b))))
 | m1+1,_=>gbi m1 op k a b K
def gad (i j:Int) (K:Int→Prop):Prop:=K (i+j)
theorem gad0 {K:Int→Prop}:gad 0 1 K=K 1:=rfl
theorem gad1 {K:Int→Prop}:gad 1 1 K=K 2:=rfl
theorem gad2 {K:Int→Prop}:gad 2 1 K=K 3:=rfl
def gbl (m0:Nat) (op:BinOp) (k:IntKind) (i j:Int) (K:KS):Prop:=match m0,op with
 | 0,_=>False
 | _+2,.add=>gad i j fun s=>K (.n k s)
 | _+2,.lss=>glt i j (ap1 K .t) (ap1 K .f)
 | _+2,.gtr=>glt j i (ap1 K .t) (ap1 K .f)
 | _+2,.leq=>glt j i (ap1 K .f) (ap1 K .t)
 | _+2,.geq=>glt i j (ap1 K .f) (ap1 K .t)
 | _+2,.eql=>gbi 2 .eql k i j K
 | _+2,.neq=>gbi 2 .neq k i j K
 | _+2,.sub=>gbi 2 .sub k i j K
 | _+2,.mul=>gbi 2 .mul k i j K
 | _+2,.quo=>gbi 2 .quo k i j K
 | _+2,.rem=>gbi 2 .rem k i j K
 | _+2,.shl=>gbi 2 .shl k i j K
 | _+2,.shr=>gbi 2 .shr k i j K
 | _+2,.and=>gbi 2 .and k i j K
 | _+2,.or=>gbi 2 .or k i j K
 | _+2,.xor=>gbi 2 .xor k i j K
 | _+2,.andNot=>gbi 2 .andNot k i j K
 | m1+1,_=>gbl m1 op k i j K
def gbin (m0:Nat) (op:BinOp) (x y:Sy) (K:KS):Prop:=match m0,y,x with
 | 0,_,_=>False
 | _+2,.v .nilIface,x=>isI (sv x)∧gE 2 op (nilI (sv x)) K
 | _+2,.v (.pointer none),.v (.pointer p)=>gE 2 op p.isNone K
 | _+2,.v (.slice none _ _),.v (.slice b _ _)=>gE 2 op b.isNone K
 | _+2,.v (.string b),.v (.string a)=>gE 2 op (a.toList==b.toList) K
 | _+2,.v (.bool b),.v (.bool a)=>gE 2 op (a==b) K
 | _+2,.t,.v (.bool a)=>gE 2 op (a==true) K
 | _+2,.f,.v (.bool a)=>gE 2 op (a==false) K
 | _+2,.v (.int _ b),.v (.int k a)=>gbi 2 op k a b K
 | _+2,.n _ b,.v (.int k a)=>gbi 2 op k a (b) K
 | _+2,.v (.int _ b),.n k a=>gbi 2 op k (a) b K
 | _+2,.n _ b,.n k a=>gbl 2 op k a b K
 | _+2,_,_=>False
 | m1+1,_,_=>gbin m1 op x y K
def gun (m0:Nat) (op:UnOp) (x:Sy) (K:KS):Prop:=match m0,op,x with
 | 0,_,_=>False
 | _+2,.neg,.v (.int k n)=>K (.v (.int k (k.wrap (0-n))))
 | _+2,.neg,.n k n=>K (.v (.int k (k.wrap (0-n))))
 | _+2,.xor,.v (.int k n)=>K (.v (.int k (k.wrap ((BitVec.ofInt k.bits (if k.signed then -1 else k.max) ^^^ BitVec.ofInt k.bits n).toNat))))
 | _+2,.not,.v (.bool b)=>K (.v (.bool (!b)))
 | _+2,.not,.t=>K .f
 | _+2,.not,.f=>K .t
 | _+2,_,_=>False
 | m1+1,_,_=>gun m1 op x K
def gpk2 (m0:Nat) (a b:Sy) (t:Bool) (K:KS):Prop:=match m0,a,b with
 | 0,_,_=>False
 | _+2,.v (.bool x),.v (.bool y)=>K (.v (.bool (bif t then x else y)))
 | _+2,.v (.bool x),.t=>K (.v (.bool (bif t then x else true)))
 | _+2,.v (.bool x),.f=>K (.v (.bool (bif t then x else false)))
 | _+2,.t,.v (.bool y)=>K (.v (.bool (bif t then true else y)))
 | _+2,.f,.v (.bool y)=>K (.v (.bool (bif t then false else y)))
 | _+2,.t,.t=>K (.v (.bool (bif t then true else true)))
 | _+2,.t,.f=>K (.v (.bool (bif t then true else false)))
 | _+2,.f,.t=>K (.v (.bool (bif t then false else true)))
 | _+2,.f,.f=>K (.v (.bool (bif t then false else false)))
 | _+2,.v (.int k x),b=>bif t then ap1 K (.v (.int k x)) else ap1 K b
 | _+2,.n k x,b=>bif t then ap1 K (.n k x) else ap1 K b
 | _+2,.v (.string x),b=>bif t then ap1 K (.v (.string x)) else ap1 K b
 | _+2,.v (.pointer x),b=>bif t then ap1 K (.v (.pointer x)) else ap1 K b
 | _+2,.v (.slice x y z),b=>bif t then ap1 K (.v (.slice x y z)) else ap1 K b
 | _+2,.v .nilIface,b=>bif t then ap1 K (.v .nilIface) else ap1 K b
 | _+2,.v (.iface x y),b=>bif t then ap1 K (.v (.iface x y)) else ap1 K b
 | _+2,.o x,b=>bif t then ap1 K (.o x) else ap1 K b
 | _+2,.a x,b=>bif t then ap1 K (.a x) else ap1 K b
 | _+2,_,_=>False
 | m1+1,_,_=>gpk2 m1 a b t K
def gpick (m0:Nat) (c a b:Sy) (K:KS):Prop:=match m0,c with
 | 0,_=>False
 | _+2,.t=>K a
 | _+2,.f=>K b
 | _+2,.v (.bool t)=>gpk2 2 a b t K
 | _+2,_=>False
 | m1+1,_=>gpick m1 c a b K
def gcv (m0:Nat) (ls:List Lf) (x:Sy) (K:KS) (E:Prop):Prop:=match m0,ls with
 | 0,_=>False
 | _+2,.int k::_=>gi 2 x fun n=>K (.v (.int k (k.wrap n)))
 | _+2,.str::_=>E | _+2,.slc::_=>E | _+2,.ptr::_=>E | _+2,.bool::_=>E | _+2,.ifc::_=>E | _+2,.fn::_=>E | _+2,.map::_=>E
 | _+2,[]=>False
 | m1+1,_=>gcv m1 ls x K E
def gsb (m0:Nat) (o:Option Sy) (y d:Nat) (K:Nat→Prop):Prop:=match m0,o with
 | 0,_=>False
 | _+2,none=>K d
 | _+2,some (.v (.int _ n))=>0≤n∧n≤(y:Int)∧ap1 K n.toNat
 | _+2,some (.n _ i)=>0≤i∧i≤(y:Int)∧ap1 K i.toNat
 | _+2,_=>False
 | m1+1,_=>gsb m1 o y d K
def gsl (m0:Nat) (c:TK) (n s:Nat) (x:Sy) (lo hi mx:Option Sy) (K:KS):Prop:=match m0,c,x with
 | 0,_,_=>False
 | _+2,.str,.v (.string t)=>gsb 2 hi t.size t.size fun h=>gsb 2 lo h 0 fun l=>K (.v (.string (t.extract l h)))
 | _+2,.sl,.v (.slice b len cap)=>gsb 2 mx cap cap fun m=>gsb 2 hi m len fun h=>gsb 2 lo h 0 fun l=>K (.v (.slice (if m=l then b else b.map (·.add (l*s))) (h-l) (m-l)))
 | _+2,.ar,.v (.pointer p)=>pt p fun a=>gsb 2 mx n n fun m=>gsb 2 hi m n fun h=>gsb 2 lo h 0 fun l=>K (.v (.slice (some (if m=l then a else a.add (l*s))) (h-l) (m-l)))
 | _+2,_,_=>False
 | m1+1,_,_=>gsl m1 c n s x lo hi mx K
def gfl (fs:List (Nat × Nat)):List (Nat × Sy)→List Sy→KL→Prop
 | [],l,K=>K l
 | (i,x)::r,l,K=>gfs fs i fun o t=>gT tb t fun c _ _ _ _ _ _=>gag 2 c (gal 2 x fun xs=>gov l o xs fun l=>gfl fs r l K) (gov l o [x] fun l=>gocm 2 x (gfl fs r l K))
def gfe (c:TK) (s:Nat):List (Nat × Sy)→List Sy→KL→Prop
 | [],l,K=>K l
 | (i,x)::r,l,K=>gag 2 c (gal 2 x fun xs=>go2 l i s xs fun l=>gfe c s r l K) (go2 l i s [x] fun l=>gocm 2 x (gfe c s r l K))
def gbd (m0:Nat) (c:TK) (el:Nat) (fs:List (Nat × Nat)) (ps:List (Nat × Sy)) (z:List Sy) (K:KL):Prop:=match m0,c with
 | 0,_=>False
 | _+2,.ar=>gT tb el fun c _ _ s _ _ _=>gfe c s ps z K
 | _+2,.st=>gfl fs ps z K
 | _+2,.pk=>gfl fs ps z K
 | _+2,_=>False
 | m1+1,_=>gbd m1 c el fs ps z K
inductive Hd where
 | o (l:List (Addr × Value)) | k (a:Addr) (l:List Value)
def gl1 (m0:Nat) (l:Lf) (a:Addr) (w:World) (K:KS):Prop:=match m0,l with
 | 0,_=>False
 | _+2,.int k=>ldI k a w fun n=>ap1 K (.v (.int k n))
 | _+2,.bool=>ldB a w fun b=>ap1 K (.v (.bool b))
 | _+2,.str=>ldT a w fun s=>ap1 K (.v (.string s))
 | _+2,.ptr=>ldP a w fun p=>ap1 K (.v (.pointer p))
 | _+2,.slc=>ldS a w fun b l c=>ap1 K (.v (.slice b l c))
 | _+2,.ifc=>ldV a w fun x=>ap1 K (.o x)
 | _+2,.fn=>ldV a w fun x=>ap1 K (.o x)
 | _+2,.map=>ldM a w fun r=>ap1 K (.v (.map r))
 | m1+1,_=>gl1 m1 l a w K
def gls:List Lf→Addr→Nat→World→(List (Addr × Value)→KL)→Prop
 | [],_,_,_,K=>K [] []
 | l::r,a,i,w,K=>gl1 2 l (a.add i) w fun x=>gls r a (i+1) w fun hs xs=>K ((a.add i,sv x)::hs) (x::xs)
def gl0 (m0:Nat) (ls:List Lf) (a:Addr) (w:World) (K:Hd→KS):Prop:=match m0,ls with
 | 0,_=>False
 | _+2,l::_=>gl1 2 l a w fun x=>K (.o [(a,sv x)]) x
 | _+2,[]=>False
 | m1+1,_=>gl0 m1 ls a w K
def gpk (t:Nat) (ls:List Lf) (a:Addr) (w:World) (K:KL):Prop:=gls ls a 0 w fun _=>K
def gldc (m0:Nat) (c:TK) (t:Nat) (ls:List Lf) (a:Addr) (w:World) (K:Hd→KS):Prop:=match m0,c with
 | 0,_=>False
 | _+2,.pk=>gpk t ls a w fun l=>K (.k a (svs l)) (.a l)
 | _+2,.st=>gls ls a 0 w fun h l=>K (.o h) (.a l)
 | _+2,.ar=>gls ls a 0 w fun h l=>K (.o h) (.a l)
 | _+2,.one=>gl0 2 ls a w K | _+2,.sl=>gl0 2 ls a w K | _+2,.str=>gl0 2 ls a w K | _+2,.mp=>gl0 2 ls a w K | _+2,.ifc=>gl0 2 ls a w K
 | _+2,.tup=>False
 | m1+1,_=>gldc m1 c t ls a w K
def gld (t:Nat) (x:Sy) (w:World) (K:Hd→KS):Prop:=gptr 2 x fun a=>gT tb t fun c _ _ _ _ _ ls=>gldc 2 c t ls a w K
abbrev KW:=Sy→World→Prop
def gsto:List Sy→Addr→Nat→World→(World→Prop)→Prop
 | [],_,_,w,K=>K w
 | x::r,a,i,w,K=>sto (a.add i) (sv x) w fun w'=>gsto r a (i+1) w' K
def gstc (m0:Nat) (c:TK) (a:Addr) (x:Sy) (w:World) (K:World→Prop):Prop:=match m0,c with
 | 0,_=>False
 | _+2,.pk=>gal 2 x fun l=>sts a 0 (svs l) w K
 | _+2,.st=>gal 2 x fun l=>gsto l a 0 w K
 | _+2,.ar=>gal 2 x fun l=>gsto l a 0 w K
 | _+2,.one=>sto a (sv x) w K | _+2,.sl=>sto a (sv x) w K | _+2,.str=>sto a (sv x) w K | _+2,.mp=>sto a (sv x) w K | _+2,.ifc=>sto a (sv x) w K
 | _+2,.tup=>False
 | m1+1,_=>gstc m1 c a x w K
def gcall (m0:Nat) (f:Sy) (xs0:List Sy) (w:World) (F:Ending→World→Prop):Prop:=match m0,f with
 | 0,_=>False
 | _+2,.v (.func (.func g) a c)=>Calls Pg g ((a.toList++svs xs0)++c.toList).toArray w F
 | _+2,.o x=>dcv Pg Eall x (svs xs0) w F
 | _+2,_=>False
 | m1+1,_=>gcall m1 f xs0 w F
def grun (s:Sem Value) (t:Nat) (w:World) (K:KW):Prop:=gexT t fun v=>∃w',s.run Pg w=.ok (sv v) w'∧ap2 K v w'
def grul (s:Sem Value) (l:Lf) (w:World) (K:KW):Prop:=gex 2 l fun v=>∃w',s.run Pg w=.ok (sv v) w'∧ap2 K v w'
def gx2 (m0:Nat) (l:List Sy) (K:Sy→KS):Prop:=match m0,l with
 | 0,_=>False | _+2,[x,y]=>K x y | _+2,_=>False
 | m1+1,_=>gx2 m1 l K
def gki (m0:Nat) (x:Sy) (K:IntKind→Int→Prop):Prop:=match m0,x with
 | 0,_=>False | _+2,.v (.int k n)=>K k n | _+2,.n k i=>K k i | _+2,_=>False
 | m1+1,_=>gki m1 x K
def gmn (x y:Sy) (K:KS):Prop:=gki 2 x fun k a=>gi 2 y fun b=>K (.v (.int k (if b<a then b else a)))
def gmX (x y:Sy) (K:KS):Prop:=gki 2 x fun k a=>gi 2 y fun b=>K (.v (.int k (if b>a then b else a)))
def glen (m0:Nat) (x:Sy) (n:Nat) (c:TK) (K:KS) (M:Prop):Prop:=match m0,c,x with
 | 0,_,_=>False
 | _+2,.mp,_=>M
 | _+2,.ar,_=>K (.v (.int .i64 (n:Nat)))
 | _+2,.str,.v (.string s)=>K (.v (.int .i64 s.size))
 | _+2,.sl,.v (.slice _ l _)=>K (.v (.int .i64 l))
 | _+2,_,_=>False
 | m1+1,_,_=>glen m1 x n c K M
def gcap (m0:Nat) (x:Sy) (K:KS):Prop:=match m0,x with
 | 0,_=>False | _+2,.v (.slice _ _ n)=>K (.v (.int .i64 n)) | _+2,_=>False
 | m1+1,_=>gcap m1 x K
def gla (m0:Nat) (ats:Array Nat) (K:Nat→Prop):Prop:=match m0,ats with
 | 0,_=>False | _+2,⟨t::_⟩=>K t | _+2,⟨[]⟩=>False
 | m1+1,_=>gla m1 ats K
theorem Zly {t:Nat} {l:List Nat} {K:Nat→Prop}:gla 2 (t::l).toArray K=K t:=rfl
def gblt (m0:Nat) (b:Builtin) (ats:Array Nat) (xs0:List Sy) (ty:Nat) (w:World) (K:KW):Prop:=match m0,b with
 | 0,_=>False
 | _+2,.len=>gla 2 ats fun t=>gT tb t fun c _ n _ _ _ _=>ghd 2 xs0 fun x=>glen 2 x n c (fun v=>K v w) (grul (Builtin.len_ ats ty (svs xs0).toArray) (.int .i64) w K)
 | _+2,.cap=>ghd 2 xs0 fun x=>gcap 2 x fun v=>K v w
 | _+2,.min=>gx2 2 xs0 fun x y=>gmn x y fun v=>K v w
 | _+2,.max=>gx2 2 xs0 fun x y=>gmX x y fun v=>K v w
 | _+2,.append=>grul (Builtin.append_ ats ty (svs xs0).toArray) .slc w K
 | _+2,.copy=>grul (Builtin.copy_ ats ty (svs xs0).toArray) (.int .i64) w K
 | _+2,.clear=>grun (Builtin.clear_ ats ty (svs xs0).toArray) ty w K
 | _+2,.delete=>grun (Builtin.delete_ ats ty (svs xs0).toArray) ty w K
 | _+2,_=>False
 | m1+1,_=>gblt m1 b ats xs0 ty w K
def gcl (m0:Nat) (cl:Callee) (e:Ev) (xs0:List Sy) (ats:Array Nat) (ty:Nat) (w:World) (K:KW):Prop:=match m0,cl with
 | 0,_=>False
 | _+2,.value f=>gv 2 e f fun f=>gcall 2 f xs0 w fun en w'=>gexT ty fun v=>en=.returned (sv v)∧ap2 K v w'
 | _+2,.builtin b=>gblt 2 b ats xs0 ty w K
 | _+2,_=>False
 | m1+1,_=>gcl m1 cl e xs0 ats ty w K
def gbs (m0:Nat) (op:BinOp) (xT:Nat) (x y:Operand) (ty:Nat) (a b:Sy) (w:World) (K:KW):Prop:=match m0,op with
 | 0,_=>False
 | _+2,.eql=>gbin 2 .eql a b fun v=>K v w
 | _+2,.neq=>gbin 2 .neq a b fun v=>K v w
 | _+2,.add=>grun (do eqGuard .add xT x y (sv a) (sv b);binOp .add xT (sv a) (sv b)) ty w K
 | _+2,.lss=>grun (do eqGuard .lss xT x y (sv a) (sv b);binOp .lss xT (sv a) (sv b)) ty w K
 | _+2,_=>False
 | m1+1,_=>gbs m1 op xT x y ty a b w K
def gbop (m0:Nat) (c:TK) (op:BinOp) (xT:Nat) (x y:Operand) (ty:Nat) (a b:Sy) (w:World) (K:KW):Prop:=match m0,c with
 | 0,_=>False
 | _+2,.st=>grun (do eqGuard op xT x y (sv a) (sv b);binOp op xT (sv a) (sv b)) ty w K
 | _+2,.pk=>grun (do eqGuard op xT x y (sv a) (sv b);binOp op xT (sv a) (sv b)) ty w K
 | _+2,.ar=>grun (do eqGuard op xT x y (sv a) (sv b);binOp op xT (sv a) (sv b)) ty w K
 | _+2,.str=>gbs 2 op xT x y ty a b w K
 | _+2,.one=>gbin 2 op a b fun v=>K v w | _+2,.sl=>gbin 2 op a b fun v=>K v w | _+2,.mp=>gbin 2 op a b fun v=>K v w | _+2,.ifc=>gbin 2 op a b fun v=>K v w
 | _+2,.tup=>False
 | m1+1,_=>gbop m1 c op xT x y ty a b w K
def gidx (m0:Nat) (c:TK) (ce:TK) (t:Nat) (n s:Nat) (ls:List Lf) (x:Sy) (i:Sy) (ty:Nat) (w:World) (K:KW):Prop:=match m0,c,x with
 | 0,_,_=>False
 | _+2,.str,.v (.string b)=>gi 2 i fun i=>ixStr b i fun z=>ap2 K (.v (.int .u8 z)) w
 | _+2,.ar,.a vs=>gag 2 ce (grun (Instr.index t (sv (.a vs)) (sv i)) ty w K) (gi 2 i fun i=>ge1 2 ls fun v=>0≤i∧i<((n:Nat):Int)∧((svs vs).toArray)[i.toNat*s]?=some (sv v)∧ap2 K v w)
 | _+2,_,_=>False
 | m1+1,_,_=>gidx m1 c ce t n s ls x i ty w K
def gia (m0:Nat) (c:TK) (n s:Nat) (x:Sy) (i:Int) (K:KS):Prop:=match m0,c,x with
 | 0,_,_=>False
 | _+2,.sl,.v (.slice b l _)=>ixS b l i s fun a=>ap1 K (.v (.pointer (some a)))
 | _+2,.ar,.v (.pointer p)=>pt p fun q=>ixA q n i s fun a=>ap1 K (.v (.pointer (some a)))
 | _+2,_,_=>False
 | m1+1,_,_=>gia m1 c n s x i K
def gnc (m0:Nat) (x:Sy) (K:KS):Prop:=match m0,x with
 | 0,_=>False
 | _+2,.v (.pointer p)=>pt p fun a=>ap1 K (.v (.pointer (some a)))
 | _+2,.v (.func f a c)=>K (.v (.func f a c))
 | _+2,_=>False
 | m1+1,_=>gnc m1 x K
def gnx:Nat→List Sy→KS→Prop
 | 0,x::_,K=>K x
 | n+1,_::l,K=>gnx n l K
 | _,[],_=>False
def gtu (m0:Nat) (x:Sy) (K:KL):Prop:=match m0,x with
 | 0,_=>False | _+2,.p l=>K l | _+2,_=>False
 | m1+1,_=>gtu m1 x K
def gop (m0:Nat) (op:Op) (ty:Nat) (e:Ev) (w:World) (K:Hd→Sy→World→Prop):Prop:=match m0,op with
 | 0,_=>False
 | _+2,.move x=>gv 2 e x fun v=>K (.o []) v w
 | _+2,.assign x=>gv 2 e x fun v=>K (.o []) v w
 | _+2,.pick c a b=>gv 2 e c fun c=>gv 2 e a fun a=>gv 2 e b fun b=>gpick 2 c a b fun v=>K (.o []) v w
 | _+2,.nilCheck x=>gv 2 e x fun x=>gnc 2 x fun v=>K (.o []) v w
 | _+2,.fieldAddr s x f=>gT tb s fun _ _ _ _ _ fs _=>gfs fs f fun o _=>gv 2 e x fun x=>gptr 2 x fun a=>K (.o []) (.v (.pointer (some (a.add o)))) w
 | _+2,.field s x f=>gT tb s fun _ _ _ _ _ fs _=>gfs fs f fun o t=>gT tb t fun c _ _ _ _ _ ls=>gv 2 e x fun x=>gal 2 x fun l=>gdr o l fun l=>gag 2 c (gtk ls l fun l=>K (.o []) (.a l) w) (ghd 2 l fun v=>K (.o []) v w)
 | _+2,.indexAddr t x i=>gT tb t fun c el n _ _ _ _=>gT tb el fun _ _ _ s _ _ _=>gv 2 e x fun x=>gv 2 e i fun i=>gi 2 i fun i=>gia 2 c n s x i fun v=>K (.o []) v w
 | _+2,.index t x i=>gT tb t fun c el n _ _ _ _=>gT tb el fun ce _ _ s _ _ ls=>gv 2 e x fun x=>gv 2 e i fun i=>gidx 2 c ce t n s ls x i ty w (K (.o []))
 | _+2,.binOp op xT x y _=>gT tb xT fun c _ _ _ _ _ _=>gv 2 e x fun a=>gv 2 e y fun b=>gbop 2 c op xT x y ty a b w (K (.o []))
 | _+2,.unOp op _ x=>gv 2 e x fun x=>gun 2 op x fun v=>K (.o []) v w
 | _+2,.convert s d x=>gT tb d fun _ _ _ _ _ _ ls=>gv 2 e x fun x=>gcv 2 ls x (fun v=>K (.o []) v w) (grun (convert s d (sv x)) ty w (K (.o [])))
 | _+2,.makeInterface t x=>gv 2 e x fun x=>K (.o []) (.v (.iface t (sv x))) w
 | _+2,.makeFunc fn a c=>gva e a fun a=>gva e c fun c=>K (.o []) (.v (.func fn (svs a).toArray (svs c).toArray)) w
 | _+2,.slice t x lo hi mx=>gT tb t fun c el n _ _ _ _=>gT tb el fun _ _ _ s _ _ _=>gv 2 e x fun x=>gvo 2 e lo fun lo=>gvo 2 e hi fun hi=>gvo 2 e mx fun mx=>gsl 2 c n s x lo hi mx fun v=>K (.o []) v w
 | _+2,.extract t i=>gv 2 e t fun x=>gtu 2 x fun l=>gnx i l fun v=>K (.o []) v w
 | _+2,.build t ps=>gT tb t fun c el _ _ _ fs ls=>gz ls fun z=>gvpa e ps fun ps=>gbd 2 c el fs ps z fun l=>K (.o []) (.a l) w
 | _+2,.load t a=>gv 2 e a fun a=>gld t a w fun h v=>K h v w
 | _+2,.alloc t=>gT tb t fun _ _ _ _ _ _ ls=>gz ls fun z=>alo (svs z).toArray t w fun a w'=>ap3 K (.o []) (.v (.pointer (some a))) w'
 | _+2,.box t x=>gT tb t fun c _ _ _ _ _ _=>gv 2 e x fun x=>gag 2 c (gal 2 x fun l=>alo (svs l).toArray t w fun a w'=>ap3 K (.o []) (.v (.pointer (some a))) w') (gocm 2 x (alo #[sv x] t w fun a w'=>ap3 K (.o []) (.v (.pointer (some a))) w'))
 | _+2,.buildSlice t len ps=>gT tb t fun _ el _ _ _ _ _=>gT tb el fun c _ _ s _ _ ls=>gz ls fun z=>gzn len z fun z=>gvpa e ps fun ps=>gfe c s ps z fun l=>alo (svs l).toArray el w fun a w'=>ap3 K (.o []) (.v (.slice (some a) len len)) w'
 | _+2,.store t a x=>gT tb t fun c _ _ _ _ _ _=>gv 2 e a fun a=>gv 2 e x fun x=>gptr 2 a fun a=>gstc 2 c a x w fun w'=>ap3 K (.o []) .u w'
 | _+2,.makeSlice t l c=>gT tb t fun _ el _ _ _ _ _=>gT tb el fun _ _ _ _ b _ ls=>gv 2 e l fun l=>gv 2 e c fun c=>gi 2 l fun l=>gi 2 c fun c=>gz ls fun z=>0≤l∧l≤c∧b*c≤140737488355328∧alo (Qby (svs z).toArray c.toNat) el w fun a w'=>ap3 K (.o []) (.v (.slice (some a) l.toNat c.toNat)) w'
 | _+2,.call ⟨cl,xs0,ats⟩=>gva e xs0 fun xs0=>gcl 2 cl e xs0 ats ty w (K (.o []))
 | _+2,.makeMap t r=>gvo 2 e r fun r=>grun (Instr.makeMap t (r.map sv)) ty w (K (.o []))
 | _+2,.lookup t x i ok=>gv 2 e x fun x=>gv 2 e i fun i=>grun (Instr.lookup t (sv x) (sv i) ok) ty w (K (.o []))
 | _+2,.typeAssert x xT a ok=>gv 2 e x fun x=>grun (Instr.typeAssert (sv x) xT a ok) ty w (K (.o []))
 | _+2,.mapUpdate t m k x=>gv 2 e m fun m=>gv 2 e k fun k=>gv 2 e x fun x=>∃w',(Instr.mapUpdate t (sv m) (sv k) (sv x)).run Pg w=.ok () w'∧ap3 K (.o []) .u w'
 | _+2,.range t x=>gv 2 e x fun x=>grul (Instr.range t (sv x)) .ptr w (K (.o []))
 | _+2,.next i s=>gv 2 e i fun i=>(∃w',(Instr.next (sv i) s ty).run Pg w=.ok (.tuple #[.bool false]) w'∧ap3 K (.o []) (.p [.f]) w')∨grun (Instr.next (sv i) s ty) ty w (K (.o []))
 | _+2,_=>False
 | m1+1,_=>gop m1 op ty e w K
def gnth:List Oper→Nat→(Oper→Prop)→Prop
 | [],_,_=>False
 | o::_,0,K=>K o
 | _::l,n+1,K=>gnth l n K
def gw (m0:Nat) (b:Bool) (A B:Prop):Prop:=match m0,b with
 | 0,_=>False | _+2,true=>A | _+2,false=>B
 | m1+1,_=>gw m1 b A B
def gg1 (m0:Nat) (v:Sy) (d:Nat) (want:Bool) (e:Ev) (yes no:KL):Prop:=match m0,v with
 | 0,_=>False
 | _+2,.t=>gw 2 want (ap1 yes e) (ap1 no e)
 | _+2,.f=>gw 2 want (ap1 no e) (ap1 yes e)
 | _+2,.v (.bool b)=>bif b then (gp e d .t fun e=>gw 2 want (ap1 yes e) (ap1 no e)) else (gp e d .f fun e=>gw 2 want (ap1 no e) (ap1 yes e))
 | _+2,.u=>no e
 | _+2,_=>False
 | m1+1,_=>gg1 m1 v d want e yes no
def ggo (m0:Nat) (o:Oper) (e:Ev) (K:Nat→KS):Prop:=match m0,o with
 | 0,_=>False
 | _+2,⟨some d,_,_,_,_,_⟩=>gt e d (K d)
 | _+2,⟨none,_,_,_,_,_⟩=>False
 | m1+1,_=>ggo m1 o e K
def ggd (m0:Nat) (ops:List Oper) (g:Option (Nat × Bool)) (e:Ev) (yes no:KL):Prop:=match m0,g with
 | 0,_=>False
 | _+2,none=>yes e
 | _+2,some (j,want)=>gnth ops j fun o=>ggo 2 o e fun d v=>gg1 2 v d want e yes no
 | m1+1,_=>ggd m1 ops g e yes no
def go1 (m0:Nat) (ops:List Oper) (o:Oper) (e:Ev) (w:World) (Y:Hd→Ev→World→Prop) (N:KL):Prop:=match m0,o with
 | 0,_=>False
 | _+2,⟨d,op,ty,_,_,g⟩=>ggd 2 ops g e (fun e=>gop 2 op ty e w fun h v w'=>gpo 2 d e v fun e'=>Y h e' w') (fun e=>gpo 2 d e .u N)
 | m1+1,_=>go1 m1 ops o e w Y N
def gsq (ops:List Oper):List Oper→Ev→World→(Ev→World→Prop)→Prop
 | [],e,w,K=>K e w
 | o::r,e,w,K=>go1 2 ops o e w (fun _ e w=>gsq ops r e w K) (fun e=>gsq ops r e w K)
abbrev EW:=Ev→World→Prop
abbrev GH:=List (List Nat × Hd)
def gmb:Nat→List Nat→Prop→Prop→Prop
 | _,[],_,B=>B
 | i,d::D,A,B=>geq i d A (gmb i D A B)
def gh1 (w:World) (A:Prop):List (Addr × Value)→Prop
 | []=>A
 | (a,v)::r=>w.cell? a=some v∧gh1 w A r
def gkh (m0:Nat) (h:Hd) (w:World) (A:Prop):Prop:=match m0,h with
 | 0,_=>False | _+2,.o l=>gh1 w A l | _+2,.k a l=>kps w a 0 l A
 | m1+1,_=>gkh m1 h w A
def gkp (i:Nat):GH→World→(GH→Prop)→Prop
 | [],_,K=>K []
 | (D,h)::r,w,K=>gmb i D (gkp i r w K) (gkh 2 h w (gkp i r w fun r'=>K ((D,h)::r')))
inductive R2 where
 | e | t (a n:Nat) (r:R2) | k (i:Nat) (C D:List Nat) (r:R2) | o (i:Nat) (r:R2) | w (i:Nat) (r:R2) (j:Nat) (s:R2) | h (i:Nat) (r:R2) (j:Nat) (s:R2) (k:Nat) (u:R2)
def R2.ro:R2→Ro
 | .e=>.fin
 | .t x y z=>(List.range y).foldr (fun i r=>.tk (x+i) [] [] r) z.ro
 | .k x C D z=>.tk x C D z.ro
 | .o x z=>.one x z.ro
 | .w x z y v=>.two x z.ro y v.ro
 | .h x z y v q u=>.thr x z.ro y v.ro q u.ro
inductive Am where
 | l | r (r:R2) | s (a b:Am) | j (ds:List Nat) (ts:List Ty) (a b:Am) | c (a b:Am) | b (a:Am) | o (ds:List Nat) (ts:List Ty) (a:Am) | u (k:Nat) (a:Am)
inductive Hn where
 | r (r:R2) | j (n:Nat) (ds:List Nat) (ts:List Ty) | o (ds:List Nat) (ts:List Ty) | u (k:Nat)
abbrev HL:=List Hn
def grt (ops:List Oper):List Oper→Nat→GH→Ev→World→(GH→Ev→World→Prop)→Prop
 | _,0,H,e,w,K=>K H e w
 | o::l,n+1,H,e,w,K=>go1 2 ops o e w (fun h e w=>grt ops l n (([],h)::H) e w K) (fun e=>grt ops l n H e w K)
 | [],_+1,_,_,_,_=>False
def gdo:List Oper→Nat→(List Oper→Prop)→Prop
 | l,0,K=>K l
 | _::l,n+1,K=>gdo l n K
 | [],_+1,_=>False
def gro (ops:List Oper):R2→GH→Ev→World→(Ev→World→Prop)→Prop
 | .e,_,e,w,K=>K e w
 | .t a n r,H,e,w,K=>gdo ops a fun l=>grt ops l n H e w fun H e w=>gro ops r H e w K
 | .k i _ D r,H,e,w,K=>gnth ops i fun o=>go1 2 ops o e w (fun h e w=>gro ops r ((D,h)::H) e w K) (fun e=>gro ops r H e w K)
 | .o i r,H,e,w,K=>gnth ops i fun o=>go1 2 ops o e w (fun _ e w=>gkp i H w fun H=>gro ops r H e w K) (fun e=>gkp i H w fun H=>gro ops r H e w K)
 | .w i r j s,H,e,w,K=>
  (gnth ops i fun o=>go1 2 ops o e w (fun _ e w=>gkp i H w fun H=>gro ops r H e w K) (fun e=>gkp i H w fun H=>gro ops r H e w K))∧
  (gnth ops j fun o=>go1 2 ops o e w (fun _ e w=>gkp j H w fun H=>gro ops s H e w K) (fun e=>gkp j H w fun H=>gro ops s H e w K))
 | .h i r j s k u,H,e,w,K=>
  (gnth ops i fun o=>go1 2 ops o e w (fun _ e w=>gkp i H w fun H=>gro ops r H e w K) (fun e=>gkp i H w fun H=>gro ops r H e w K))∧
  (gnth ops j fun o=>go1 2 ops o e w (fun _ e w=>gkp j H w fun H=>gro ops s H e w K) (fun e=>gkp j H w fun H=>gro ops s H e w K))∧
  (gnth ops k fun o=>go1 2 ops o e w (fun _ e w=>gkp k H w fun H=>gro ops u H e w K) (fun e=>gkp k H w fun H=>gro ops u H e w K))
def gqa (ops:Array Oper) (e:Ev) (w:World) (K:EW):Prop:=gsq ops.toList ops.toList e w K
theorem Zlw {l:List Oper} {e:Ev} {w:World} {K:EW}:gqa l.toArray e w K=gsq l l e w K:=rfl
def gra (ops:Array Oper) (r:R2) (e:Ev) (w:World) (K:EW):Prop:=gro ops.toList r [] e w.drew K
theorem Zlv {l:List Oper} {r:R2} {e:Ev} {w:World} {K:EW}:gra l.toArray r e w K=gro l r [] e w.drew K:=rfl
def gxb (id:Nat) (N:Ev→World→Prop) (X:Nat→Ev→World→Prop) (i:Nat) (e:Ev) (w:World):Prop:=geq i id (ap2 N e w) (ap3 X i e w)
def gts (e:Ev):List Nat→(List Sy→Prop)→Prop
 | [],K=>K []
 | d::r,K=>gt e d fun x=>gts e r fun xs=>K (x::xs)
def gps:List Nat→List Sy→Ev→KL→Prop
 | d::ds,v::vs,e,K=>gp e d v fun e=>gps ds vs e K
 | _,_,e,K=>K e
def gcd (m0:Nat) (v:Sy) (A B:Prop):Prop:=match m0,v with
 | 0,_=>False | _+2,.t=>A | _+2,.f=>B | _+2,.v (.bool b)=>bif b then A else B | _+2,_=>False
 | m1+1,_=>gcd m1 v A B
def gun1 (body:EW→EW):Nat→EW
 | 0,_,_=>False
 | k+1,e,w=>body (gun1 body k) e w
def gC:Am→Code→EW→(Nat→EW)→EW→EW
 | .l,.skip,N,X,R,e,w=>N e w
 | .l,.label _,N,X,R,e,w=>N e w
 | .l,.exit id,N,X,R,e,w=>X id e w
 | .l,.ret,N,X,R,e,w=>R e w
 | .l,.region _ ops _,N,X,R,e,w=>gqa ops e w N
 | .r r,.region _ ops _,N,X,R,e,w=>gra ops r e w N
 | .s a b,.seq x y,N,X,R,e,w=>gC a x (fun e w=>gC b y N X R e w) X R e w
 | .j ds ts a b,.seq x y,N,X,R,e,w=>∃J:JP,gC a x (fun e w=>gts e ds fun vs=>J (svs vs) w) X R e w∧
   ∀f:Env,gallt ts fun vs=>∀w',J (svs vs) w'→gps ds vs e fun e=>gC b y N X R e w'
 | .c a b,.cond t x y,N,X,R,e,w=>gv 2 e t fun v=>gcd 2 v (gC a x N X R e w) (gC b y N X R e w)
 | .b a,.block id x,N,X,R,e,w=>gC a x N (gxb id N X) R e w
 | .o ds ts a,.loop x,N,X,R,e,w=>∃(I:JP) (μ:JN),gts e ds fun v0=>I (svs v0) w∧
   ∀f:Env,gallt ts fun vs=>∀w',I (svs vs) w'→gps ds vs e fun e=>gC a x (fun e w''=>gts e ds fun us=>I (svs us) w''∧μ (svs us) w'' < μ (svs vs) w') X R e w'
 | .u k a,.loop x,N,X,R,e,w=>gun1 (fun J e w=>gC a x J X R e w) k e w
 | _,_,_,_,_,_,_=>False
def gjn:HL→(HL→Prop)→(HL→List Nat→List Ty→Prop)→Prop
 | .j 0 ds ts::h,_,J=>J h ds ts
 | .j (n+1) ds ts::h,S,_=>S (.j n ds ts::h)
 | .r r::h,S,_=>S (.r r::h)
 | .o ds ts::h,S,_=>S (.o ds ts::h)
 | .u k::h,S,_=>S (.u k::h)
 | [],S,_=>S []
def gA:Code→HL→(Am→HL→Prop)→Prop
 | .region _ _ true,.r r::h,K=>K (.r r) h
 | .region _ _ false,h,K=>K .l h
 | .skip,h,K=>K .l h
 | .label _,h,K=>K .l h
 | .exit _,h,K=>K .l h
 | .ret,h,K=>K .l h
 | .seq x y,h,K=>gjn h (fun h=>gA x h fun a h=>gA y h fun b h=>K (.s a b) h) (fun h ds ts=>gA x h fun a h=>gA y h fun b h=>K (.j ds ts a b) h)
 | .cond _ x y,h,K=>gA x h fun a h=>gA y h fun b h=>K (.c a b) h
 | .block _ x,h,K=>gA x h fun a h=>K (.b a) h
 | .loop x,.o ds ts::h,K=>gA x h fun a h=>K (.o ds ts a) h
 | .loop x,.u k::h,K=>gA x h fun a h=>K (.u k a) h
 | _,_,_=>False
def hsq (h:HL):HL × Option (List Nat × List Ty):=match h with
 | .j 0 ds ts::h=>(h,some (ds,ts))
 | .j (n+1) ds ts::h=>(.j n ds ts::h,none)
 | h=>(h,none)
def hA:Code→HL→An × HL
 | .region _ _ true,.r r::h=>(.reg r.ro,h)
 | .seq x y,h=>match hsq h with
  | (h,none)=>(fun p=>(fun q=>(.seq p.1 q.1,q.2)) (hA y p.2)) (hA x h)
  | (h,some d)=>(fun p=>(fun q=>(.join d.1 d.2 p.1 q.1,q.2)) (hA y p.2)) (hA x h)
 | .cond _ x y,h=>(fun p=>(fun q=>(.cond p.1 q.1,q.2)) (hA y p.2)) (hA x h)
 | .block _ x,h=>(fun p=>(.block p.1,p.2)) (hA x h)
 | .loop x,.o ds ts::h=>(fun p=>(.loop ds ts p.1,p.2)) (hA x h)
 | .loop x,.u k::h=>(fun p=>(.unr k p.1,p.2)) (hA x h)
 | _,h=>(.leaf,h)
def hn (fn:Func) (h:HL):An:=match fn.body with | some c=>(hA c h).1 | none=>.leaf
def gres:List ResultVar→Ev→World→KL→Prop
 | [],_,_,K=>K []
 | .tmp t::r,e,w,K=>gt e t fun v=>gres r e w fun vs=>K (v::vs)
 | .cell a t::r,e,w,K=>gt e a fun p=>gld t p w fun _ v=>gres r e w fun vs=>K (v::vs)
def gone (m0:Nat) (l:List Sy) (K:Value→Prop):Prop:=match m0,l with
 | 0,_=>False
 | _+2,[]=>K (.tuple #[])
 | _+2,[x]=>K (sv x)
 | _+2,x::y::l=>K (.tuple (svs (x::y::l)).toArray)
 | m1+1,_=>gone m1 l K
def gF (c:Code) (rs:List ResultVar) (h:HL) (xs0:List Sy) (w:World) (R:RV):Prop:=
 gA c h fun an _=>gC an c (fun e w=>gres rs e w fun vs=>gone 2 vs fun v=>R v w) (fun _ _ _=>False) (fun e w=>gres rs e w fun vs=>gone 2 vs fun v=>R v w) xs0 w
theorem Zgv {a:Addr} {w:World} {K:KL}:gpk 25 [.int .i64,.slc,.slc,.slc] a w K=Qbn a w fun n0 s1b s1l s1c s2b s2l s2c s3b s3l s3c=>K [.v (.int .i64 n0),.v (.slice s1b s1l s1c),.v (.slice s2b s2l s2c),.v (.slice s3b s3l s3c)]:=rfl
theorem Zgu {a:Addr} {w:World} {K:KL}:gpk 36 [.int .i64,.slc,.slc,.slc] a w K=Qcy a w fun n0 s1b s1l s1c s2b s2l s2c s3b s3l s3c=>K [.v (.int .i64 n0),.v (.slice s1b s1l s1c),.v (.slice s2b s2l s2c),.v (.slice s3b s3l s3c)]:=rfl
theorem Zgt {a:Addr} {w:World} {K:KL}:gpk 65 [.int .i64,.slc] a w K=Qcd a w fun n0 s1b s1l s1c=>K [.v (.int .i64 n0),.v (.slice s1b s1l s1c)]:=rfl
theorem Zgs {a:Addr} {w:World} {K:KL}:gpk 72 [.int .i64,.slc,.int .i64,.slc,.slc] a w K=Qcc a w fun n0 s1b s1l s1c n2 s3b s3l s3c s4b s4l s4c=>K [.v (.int .i64 n0),.v (.slice s1b s1l s1c),.v (.int .i64 n2),.v (.slice s3b s3l s3c),.v (.slice s4b s4l s4c)]:=rfl
theorem Zgr {a:Addr} {w:World} {K:KL}:gpk 82 [.int .i64,.int .i64,.int .i64,.int .i64,.int .i64,.int .i64,.int .i32] a w K=Qp0 a w fun n0 n1 n2 n3 n4 n5 n6=>K [.v (.int .i64 n0),.v (.int .i64 n1),.v (.int .i64 n2),.v (.int .i64 n3),.v (.int .i64 n4),.v (.int .i64 n5),.v (.int .i32 n6)]:=rfl
theorem Zgq {a:Addr} {w:World} {K:KL}:gpk 88 [.int .i64,.int .i64,.int .i64,.int .i64,.int .i64,.int .i64,.int .i32] a w K=Qyu a w fun n0 n1 n2 n3 n4 n5 n6=>K [.v (.int .i64 n0),.v (.int .i64 n1),.v (.int .i64 n2),.v (.int .i64 n3),.v (.int .i64 n4),.v (.int .i64 n5),.v (.int .i32 n6)]:=rfl
theorem Zbt {a:Addr} {w:World} {K:KL}:gpk 107 [.int .u32,.int .u32,.int .u32,.int .u32,.int .i32] a w K=Qef a w fun n0 n1 n2 n3 n4=>K [.v (.int .u32 n0),.v (.int .u32 n1),.v (.int .u32 n2),.v (.int .u32 n3),.v (.int .i32 n4)]:=rfl
theorem Zbs {a:Addr} {w:World} {K:KL}:gpk 109 [.int .u32,.int .u32,.int .u32,.int .u32,.int .i32] a w K=Qew a w fun n0 n1 n2 n3 n4=>K [.v (.int .u32 n0),.v (.int .u32 n1),.v (.int .u32 n2),.v (.int .u32 n3),.v (.int .i32 n4)]:=rfl
theorem Zbr {a:Addr} {w:World} {K:KL}:gpk 240 [.int .i64,.int .i64,.int .i32] a w K=Qnv a w fun n0 n1 n2=>K [.v (.int .i64 n0),.v (.int .i64 n1),.v (.int .i32 n2)]:=rfl
theorem Zbq {a:Addr} {w:World} {K:KL}:gpk 325 [.int .i64,.int .i64,.int .i32] a w K=Qxp a w fun n0 n1 n2=>K [.v (.int .i64 n0),.v (.int .i64 n1),.v (.int .i32 n2)]:=rfl
theorem Zam {a:Addr} {K:Addr→Prop}:pt (some a) K=K a:=rfl
theorem add_nil {a:Addr}:a.add 0=a:=rfl
theorem gk_n {k:IntKind} {n:Int} {K:KS}:gk (.int k n) K=K (.n k n):=rfl
theorem gk_t {K:KS}:gk (.bool true) K=K .t:=rfl
theorem gk_f {K:KS}:gk (.bool false) K=K .f:=rfl
theorem gk_s {s:ByteArray} {K:KS}:gk (.string s) K=K (.v (.string s)):=rfl
theorem gk_p {p:Option Addr} {K:KS}:gk (.pointer p) K=K (.v (.pointer p)):=rfl
theorem gk_l {b:Option Addr} {l c:Nat} {K:KS}:gk (.slice b l c) K=K (.v (.slice b l c)):=rfl
theorem gk_i {K:KS}:gk .nilIface K=K (.v .nilIface):=rfl
theorem gk_g {K:KS}:gk .nilFunc K=K (.v .nilFunc):=rfl
theorem gk_x {t:TypeId} {x:Value} {K:KS}:gk (.iface t x) K=K (.v (.iface t x)):=rfl
theorem gk_u {f:Fn} {a c:Array Value} {K:KS}:gk (.func f a c) K=K (.v (.func f a c)):=rfl
theorem gk_y {r:Option Nat} {K:KS}:gk (.map r) K=K (.v (.map r)):=rfl
theorem gk_a {cs:Array Value} {K:KS}:gk (.agg cs) K=K (.v (.agg cs)):=rfl
end Rw
@[reducible] def nr (fn:Func) (h:Rw.HL) (xs0:List Rw.Sy) (w:World) (R:RV) {c:Code} (hc:fn.body=some c:=by exact rfl) {rs:List ResultVar} (hr:fn.results=rs.toArray:=by exact rfl)
 {F:Prop} (hF:Rw.gF c rs h xs0 w R=F:=by (simp (maxSteps:=100000000) only [↓Rw.gT,↓Rw.ap1,↓Rw.ap2,↓Rw.ap3,↓Rw.gt,↓Rw.gp,↓Rw.gpo,↓Rw.gks,↓Rw.gv,↓Rw.gvs,↓Rw.gvo,↓Rw.gvp,↓Rw.gfs,↓Rw.gag,↓Rw.gdr,↓Rw.gtk,↓Rw.ghd,↓Rw.gov,↓Rw.gptr,↓Rw.gi,↓Rw.gz,↓Rw.gap,↓Rw.gzn,↓Rw.gsp,↓Rw.go2,↓Rw.gocm,↓Rw.gex,↓Rw.gexs,↓Rw.ge1,↓Rw.gex1,↓Rw.gexn,↓Rw.gext,↓Rw.gexT,↓Rw.gall,↓Rw.galls,↓Rw.gallt,↓Rw.geq,↓Rw.gE,↓Rw.gbi,↓Rw.gbl,↓Rw.gbin,↓Rw.gun,↓Rw.gpk2,↓Rw.gpick,↓Rw.gcv,↓Rw.gsb,↓Rw.gsl,↓Rw.gfl,↓Rw.gfe,↓Rw.gbd,↓Rw.gl1,↓Rw.gls,↓Rw.gl0,↓Rw.gldc,↓Rw.gld,↓Rw.gsto,↓Rw.gstc,↓Rw.gcall,↓Rw.grun,↓Rw.grul,↓Rw.gx2,↓Rw.gki,↓Rw.gmn,↓Rw.gmX,↓Rw.glen,↓Rw.gcap,↓Rw.gblt,↓Rw.gcl,↓Rw.gbs,↓Rw.gbop,↓Rw.gidx,↓Rw.gia,↓Rw.gnc,↓Rw.gnx,↓Rw.gtu,↓Rw.gop,↓Rw.gnth,↓Rw.gw,↓Rw.gg1,↓Rw.ggo,↓Rw.ggd,↓Rw.go1,↓Rw.gsq,↓Rw.gmb,↓Rw.gh1,↓Rw.gkh,↓Rw.gkp,↓Rw.grt,↓Rw.gdo,↓Rw.gro,↓Rw.gxb,↓Rw.gts,↓Rw.gps,↓Rw.gcd,↓Rw.gun1,↓Rw.gC,↓Rw.gjn,↓Rw.gA,↓Rw.gres,↓Rw.gone,↓Rw.gF,↓Rw.Zlu,↓Rw.Zgp,↓Rw.Zlz,↓Rw.Zl0,↓Rw.glt01,↓Rw.glt11,↓Rw.glt02,↓Rw.glt12,↓Rw.glt22,↓Rw.glt03,↓Rw.glt13,↓Rw.glt23,↓Rw.glt33,↓Rw.gad0,↓Rw.gad1,↓Rw.gad2,↓Rw.Zly,↓Rw.Zlw,↓Rw.Zlv,↓Rw.Zam,↓Rw.gk_n,↓Rw.gk_t,↓Rw.gk_f,↓Rw.gk_s,↓Rw.gk_p,↓Rw.gk_l,↓Rw.gk_i,↓Rw.gk_g,↓Rw.gk_x,↓Rw.gk_u,↓Rw.gk_y,↓Rw.gk_a,Rw.sv,Rw.svs,Rw.add_nil,Nat.reduceAdd,List.nil_append,List.cons_append,List.toList_toArray,↓Rw.Zgv,↓Rw.Zgu,↓Rw.Zgt,↓Rw.Zgs,↓Rw.Zgr,↓Rw.Zgq,↓Rw.Zbt,↓Rw.Zbs,↓Rw.Zbr,↓Rw.Zbq];exact rfl)):Prop:=F
example:Rw.gt [] 0 (fun _=>True)=True:=by simp only [↓Rw.gT,↓Rw.ap1,↓Rw.ap2,↓Rw.ap3,↓Rw.gt,↓Rw.gp,↓Rw.gpo,↓Rw.gks,↓Rw.gv,↓Rw.gvs,↓Rw.gvo,↓Rw.gvp,↓Rw.gfs,↓Rw.gag,↓Rw.gdr,↓Rw.gtk,↓Rw.ghd,↓Rw.gov,↓Rw.gptr,↓Rw.gi,↓Rw.gz,↓Rw.gap,↓Rw.gzn,↓Rw.gsp,↓Rw.go2,↓Rw.gocm,↓Rw.gex,↓Rw.gexs,↓Rw.ge1,↓Rw.gex1,↓Rw.gexn,↓Rw.gext,↓Rw.gexT,↓Rw.gall,↓Rw.galls,↓Rw.gallt,↓Rw.geq,↓Rw.gE,↓Rw.gbi,↓Rw.gbl,↓Rw.gbin,↓Rw.gun,↓Rw.gpk2,↓Rw.gpick,↓Rw.gcv,↓Rw.gsb,↓Rw.gsl,↓Rw.gfl,↓Rw.gfe,↓Rw.gbd,↓Rw.gl1,↓Rw.gls,↓Rw.gl0,↓Rw.gldc,↓Rw.gld,↓Rw.gsto,↓Rw.gstc,↓Rw.gcall,↓Rw.grun,↓Rw.grul,↓Rw.gx2,↓Rw.gki,↓Rw.gmn,↓Rw.gmX,↓Rw.glen,↓Rw.gcap,↓Rw.gblt,↓Rw.gcl,↓Rw.gbs,↓Rw.gbop,↓Rw.gidx,↓Rw.gia,↓Rw.gnc,↓Rw.gnx,↓Rw.gtu,↓Rw.gop,↓Rw.gnth,↓Rw.gw,↓Rw.gg1,↓Rw.ggo,↓Rw.ggd,↓Rw.go1,↓Rw.gsq,↓Rw.gmb,↓Rw.gh1,↓Rw.gkh,↓Rw.gkp,↓Rw.grt,↓Rw.gdo,↓Rw.gro,↓Rw.gxb,↓Rw.gts,↓Rw.gps,↓Rw.gcd,↓Rw.gun1,↓Rw.gC,↓Rw.gjn,↓Rw.gA,↓Rw.gres,↓Rw.gone,↓Rw.gF,↓Rw.Zlu,↓Rw.Zgp,↓Rw.Zlz,↓Rw.Zl0,↓Rw.glt01,↓Rw.glt11,↓Rw.glt02,↓Rw.glt12,↓Rw.glt22,↓Rw.glt03,↓Rw.glt13,↓Rw.glt23,↓Rw.glt33,↓Rw.gad0,↓Rw.gad1,↓Rw.gad2,↓Rw.Zly,↓Rw.Zlw,↓Rw.Zlv,↓Rw.Zam,↓Rw.gk_n,↓Rw.gk_t,↓Rw.gk_f,↓Rw.gk_s,↓Rw.gk_p,↓Rw.gk_l,↓Rw.gk_i,↓Rw.gk_g,↓Rw.gk_x,↓Rw.gk_u,↓Rw.gk_y,↓Rw.gk_a,Rw.sv,Rw.svs,Rw.add_nil,Nat.reduceAdd,List.nil_append,List.cons_append,List.toList_toArray,↓Rw.Zgv,↓Rw.Zgu,↓Rw.Zgt,↓Rw.Zgs,↓Rw.Zgr,↓Rw.Zgq,↓Rw.Zbt,↓Rw.Zbs,↓Rw.Zbr,↓Rw.Zbq]
theorem cdf {f:Nat} {fn:Func} {a:List Value} {F:World→RV→Prop} (hf:Pg.funcs[f]?=some fn) (l:Rw.HL) (h:∀w R,F w R=denF Pg Eall fn (Rw.hn fn l) a w R:=by (intro _ _;kernel_rfl)):SH f a F:=fun w R k=>Qz3 Qlh Qld hf (by rw [←h];exact k)
theorem cdr {f:Nat} {fn:Func} {a:List Value} {F:World→RV→Prop} (hf:Pg.funcs[f]?=some fn) (l:Rw.HL) (h:∀w R,F w R=denR Pg Eall fn (Rw.hn fn l) a w R:=by (intro _ _;kernel_rfl)):SH f a F:=fun w R k=>Qx6 Qlh Qld hf (by rw [←h];exact k)
abbrev HL:=Rw.HL
end Go.Proofs.YtfeekmmfdkfgmaaGreatDoor
