/- Parts of the proof. -/
import Derived.Lib.Hide
import Derived.RangeFuncNested
import Derived.RangeFuncBound
import Derived.WalkKit
import Derived.OwnWalkIn
import Derived.TacticsInMore
import Derived.LoopNIn
import Derived.LoopIn
import Derived.OrdersHeld
import Derived.OrdersIn
set_option linter.unusedSimpArgs false
set_option linter.unusedVariables false
namespace Go
theorem zA:type_of% @List.getElem?_eq_some_iff:=@List.getElem?_eq_some_iff
theorem zB:type_of% @List.getElem?_eq_getElem:=@List.getElem?_eq_getElem
theorem zD:type_of% @Nat.zero_add:=@Nat.zero_add
theorem zE:type_of% @Go.World.ownsRow.lt:=@Go.World.ownsRow.lt
theorem zF:type_of% @if_neg:=@if_neg
theorem zG:type_of% @Nat.le_refl:=@Nat.le_refl
theorem zH:type_of% @List.mem_of_getElem?:=@List.mem_of_getElem?
theorem zI:type_of% @if_pos:=@if_pos
theorem zJ:type_of% @List.getD_eq_getElem?_getD:=@List.getD_eq_getElem?_getD
theorem zL:type_of% @List.length_map:=@List.length_map
theorem zM:type_of% @decide_eq_false:=@decide_eq_false
theorem zO:type_of% @Go.World.size_alloc:=@Go.World.size_alloc
theorem zP:type_of% @List.getElem?_map:=@List.getElem?_map
theorem zQ:type_of% @Go.World.block_lt_of_cell?:=@Go.World.block_lt_of_cell?
theorem zR:type_of% @List.length_append:=@List.length_append
theorem zS:type_of% @decide_eq_true:=@decide_eq_true
theorem zT:type_of% @decide_eq_true_eq:=@decide_eq_true_eq
theorem zU:type_of% @Go.callsIn_wide:=@Go.callsIn_wide
theorem zV:type_of% @Bool.and_eq_true:=@Bool.and_eq_true
theorem zW:type_of% @Nat.le_trans:=@Nat.le_trans
theorem zZ:type_of% @Go.Oper.semAt_some:=@Go.Oper.semAt_some
theorem zg:type_of% @Go.Lib.hid:=@Go.Lib.hid
theorem zh:type_of% @List.take_add_one:=@List.take_add_one
theorem zi:type_of% @List.take_length:=@List.take_length
theorem zj:type_of% @Go.World.ownsRow_nil:=@Go.World.ownsRow_nil
theorem zk:type_of% @Nat.lt_of_lt_of_le:=@Nat.lt_of_lt_of_le
theorem zm:type_of% @List.mem_singleton:=@List.mem_singleton
theorem zn:type_of% @List.map_append:=@List.map_append
theorem zr:type_of% @List.mem_append:=@List.mem_append
theorem zt:type_of% @List.drop_eq_getElem_cons:=@List.drop_eq_getElem_cons
theorem zw:type_of% @List.mem_cons:=@List.mem_cons
theorem zy:type_of% @List.mem_iff_getElem?:=@List.mem_iff_getElem?
theorem zz:type_of% @Bool.false_eq_true:=@Bool.false_eq_true
theorem yA:type_of% @Go.bodyPost_ret:=@Go.bodyPost_ret
theorem yB:type_of% @Nat.mul_one:=@Nat.mul_one
theorem yC:type_of% @List.length_take:=@List.length_take
theorem yD:type_of% @List.mem_cons_of_mem:=@List.mem_cons_of_mem
theorem yE:type_of% @of_decide_eq_true:=@of_decide_eq_true
theorem yF:type_of% @List.flatMap_cons:=@List.flatMap_cons
theorem yG:type_of% @List.flatMap_append:=@List.flatMap_append
theorem yH:type_of% @List.getElem?_append_right:=@List.getElem?_append_right
theorem yI:type_of% @Option.some.inj:=@Option.some.inj
theorem yJ:type_of% @List.mem_cons_self:=@List.mem_cons_self
theorem yK:type_of% @List.setIfInBounds_toArray:=@List.setIfInBounds_toArray
theorem yL:type_of% @List.mem_map:=@List.mem_map
theorem yM:type_of% @List.all_eq_true:=@List.all_eq_true
theorem yN:type_of% @congrArg:=@congrArg
theorem yO:type_of% @Bool.and_false:=@Bool.and_false
theorem yP:type_of% @List.append_nil:=@List.append_nil
theorem yQ:type_of% @decide_eq_false_iff_not:=@decide_eq_false_iff_not
theorem yR:type_of% @List.getElem?_append_left:=@List.getElem?_append_left
theorem yS:type_of% @List.not_mem_nil:=@List.not_mem_nil
theorem yT:type_of% @List.filter_append:=@List.filter_append
theorem yU:type_of% @Bool.true_and:=@Bool.true_and
theorem yV:type_of% @List.mem_filter:=@List.mem_filter
theorem yW:type_of% @Nat.mul_le_mul_right:=@Nat.mul_le_mul_right
theorem yX:type_of% @List.map_cons:=@List.map_cons
theorem yY:type_of% @Nat.lt_or_ge:=@Nat.lt_or_ge
theorem yZ:type_of% @Bool.false_and:=@Bool.false_and
theorem y7:type_of% @beq_eq_false_iff_ne:=@beq_eq_false_iff_ne
theorem y8:type_of% @Bool.or_eq_true:=@Bool.or_eq_true
theorem y9:type_of% @List.idxOf_lt_length_of_mem:=@List.idxOf_lt_length_of_mem
theorem ya:type_of% @Nat.zero_le:=@Nat.zero_le
theorem yb:type_of% @Option.some.injEq:=@Option.some.injEq
theorem yc:type_of% @Nat.mul_assoc:=@Nat.mul_assoc
theorem yd:type_of% @List.length_filter_le:=@List.length_filter_le
theorem ye:type_of% @List.filter_cons:=@List.filter_cons
theorem yf:type_of% @or_false:=@or_false
theorem yg:type_of% @if_true:=@if_true
theorem yi:type_of% @List.mem_range:=@List.mem_range
theorem yj:type_of% @decide_eq_decide:=@decide_eq_decide
theorem yk:type_of% @Go.World.cell?_of_block:=@Go.World.cell?_of_block
theorem yl:type_of% @List.foldl_append:=@List.foldl_append
theorem ym:type_of% @Go.run_underlying:=@Go.run_underlying
theorem yn:type_of% @List.find?_eq_none:=@List.find?_eq_none
theorem yo:type_of% @List.eq_nil_of_length_eq_zero:=@List.eq_nil_of_length_eq_zero
theorem yp:type_of% @Nat.pow_add:=@Nat.pow_add
theorem yq:type_of% @Go.Sem.run_bind:=@Go.Sem.run_bind
theorem yr:type_of% @List.append_assoc:=@List.append_assoc
theorem yt:type_of% @Go.results_none:=@Go.results_none
theorem yu:type_of% @Bool.eq_iff_iff:=@Bool.eq_iff_iff
theorem yw:type_of% @List.take_append_drop:=@List.take_append_drop
theorem yx:type_of% @List.take_of_length_le:=@List.take_of_length_le
theorem yy:type_of% @if_false:=@if_false
theorem yz:type_of% @Go.World.putObj_heap_same:=@Go.World.putObj_heap_same
theorem xA:type_of% @List.map_congr_left:=@List.map_congr_left
theorem xB:type_of% @List.getElem?_eq_none:=@List.getElem?_eq_none
theorem xC:type_of% @beq_iff_eq:=@beq_iff_eq
theorem xD:type_of% @List.mem_flatMap:=@List.mem_flatMap
theorem xE:type_of% @List.getElem_mem:=@List.getElem_mem
theorem xF:type_of% @Bool.or_eq_false_iff:=@Bool.or_eq_false_iff
theorem xG:type_of% @Nat.add_assoc:=@Nat.add_assoc
theorem xH:type_of% @Bool.false_or:=@Bool.false_or
theorem xI:type_of% @Nat.add_mul:=@Nat.add_mul
theorem xJ:type_of% @Bool.not_eq_true':=@Bool.not_eq_true'
theorem xK:type_of% @Bool.and_true:=@Bool.and_true
theorem xL:type_of% @Nat.mul_comm:=@Nat.mul_comm
theorem xM:type_of% @Go.RowKit.Below.heap_alloc:=@Go.RowKit.Below.heap_alloc
theorem xN:type_of% @Go.World.alloc_heap_new:=@Go.World.alloc_heap_new
theorem xO:type_of% @Option.map_eq_some_iff:=@Option.map_eq_some_iff
theorem xP:type_of% @List.getElem?_take_of_lt:=@List.getElem?_take_of_lt
theorem xQ:type_of% @Nat.min_eq_left:=@Nat.min_eq_left
theorem xR:type_of% @Array.getElem?_eq_getElem:=@Array.getElem?_eq_getElem
theorem xS:type_of% @List.nodup_cons:=@List.nodup_cons
theorem xT:type_of% @of_decide_eq_false:=@of_decide_eq_false
theorem xU:type_of% @List.getElem?_replicate:=@List.getElem?_replicate
theorem xV:type_of% @List.filter_cons_of_pos:=@List.filter_cons_of_pos
theorem xW:type_of% @List.nodup_append:=@List.nodup_append
theorem xX:type_of% @List.ext_getElem?:=@List.ext_getElem?
theorem xY:type_of% @Nat.sub_self:=@Nat.sub_self
theorem xZ:type_of% @List.any_eq_false:=@List.any_eq_false
theorem xa:type_of% @Go.results_tmp2:=@Go.results_tmp2
theorem xb:type_of% @List.mem_of_find?_eq_some:=@List.mem_of_find?_eq_some
theorem xc:type_of% @Go.wpIn_wide:=@Go.wpIn_wide
theorem xd:type_of% @List.mem_append_left:=@List.mem_append_left
theorem xe:type_of% @Go.World.ownsRow_made:=@Go.World.ownsRow_made
theorem xf:type_of% @List.filter_cons_of_neg:=@List.filter_cons_of_neg
theorem xg:type_of% @Array.getElem?_toList:=@Array.getElem?_toList
theorem xi:type_of% @List.map_nil:=@List.map_nil
theorem xj:type_of% @List.mem_of_mem_take:=@List.mem_of_mem_take
theorem xk:type_of% @List.drop_eq_nil_of_le:=@List.drop_eq_nil_of_le
theorem xm:type_of% @Go.results_tmp:=@Go.results_tmp
theorem xn:type_of% @List.flatMap_nil:=@List.flatMap_nil
theorem xo:type_of% @List.drop_length:=@List.drop_length
theorem xp:type_of% @List.length_set:=@List.length_set
theorem xq:type_of% @Go.wpIn_mono:=@Go.wpIn_mono
theorem xr:type_of% @List.getElem?_range:=@List.getElem?_range
theorem xt:type_of% @Bool.not_eq_true:=@Bool.not_eq_true
theorem xu:type_of% @List.length_drop:=@List.length_drop
theorem xw:type_of% @List.getElem?_inj:=@List.getElem?_inj
theorem xx:type_of% @List.range_succ:=@List.range_succ
theorem xy:type_of% @Go.bodyPost_end:=@Go.bodyPost_end
theorem xz:type_of% @funext:=@funext
theorem wF:True:=⟨⟩
theorem wA{p:Prop}(h:p:=by omega):p:=h
theorem wB{p:Prop}(h:p:=by kernel_rfl):p:=h
theorem wC{p:Prop}(h:p:=by simp):p:=h
theorem wD{p:Prop}(h:p:=by decide):p:=h
end Go
open List(append_toArray find?_append find?_cons foldl_cons getElem?_cons_succ getElem?_take length_cons map_toArray nil_append push_toArray size_toArray take_append_of_le_length take_left take_succ_eq_append_getElem take_take)
namespace Go.RowKit
theorem Hid.o {p:Prop}(h:Hid p):p:=h
end Go.RowKit
namespace Go.Ink
section
variable {A B C D E F G H I J K L M N O P Z : Prop}
theorem hd1 (k:RowKit.Hid A->Z)(a':A):Z:=k a'
theorem hd2 (k:RowKit.Hid A->RowKit.Hid B->Z)(a':A)(b:B):Z:=k a' b
theorem hd3 (k:RowKit.Hid A->RowKit.Hid B->RowKit.Hid C->Z)(a':A)(b:B)(c:C):Z:=k a' b c
theorem hd4 (k:RowKit.Hid A->RowKit.Hid B->RowKit.Hid C->RowKit.Hid D->Z)(a':A)(b:B)(c:C)(d:D):Z:=k a' b c d
theorem hd5 (k:RowKit.Hid A->RowKit.Hid B->RowKit.Hid C->RowKit.Hid D->RowKit.Hid E->Z)(a':A)(b:B)(c:C)(d:D)(e:E):Z:=k a' b c d e
theorem hd6 (k:RowKit.Hid A->RowKit.Hid B->RowKit.Hid C->RowKit.Hid D->RowKit.Hid E->RowKit.Hid F->Z)(a':A)(b:B)(c:C)(d:D)(e:E)(g:F):Z:=k a' b c d e g
theorem hd7 (k:RowKit.Hid A->RowKit.Hid B->RowKit.Hid C->RowKit.Hid D->RowKit.Hid E->RowKit.Hid F->RowKit.Hid G->Z)(a':A)(b:B)(c:C)(d:D)(e:E)(g:F)(h:G):Z:=k a' b c d e g h
theorem hd8 (k:RowKit.Hid A->RowKit.Hid B->RowKit.Hid C->RowKit.Hid D->RowKit.Hid E->RowKit.Hid F->RowKit.Hid G->RowKit.Hid H->Z)(a':A)(b:B)(c:C)(d:D)(e:E)(g:F)(h:G)(l:H):Z:=k a' b c d e g h l
theorem hd9 (k:RowKit.Hid A->RowKit.Hid B->RowKit.Hid C->RowKit.Hid D->RowKit.Hid E->RowKit.Hid F->RowKit.Hid G->RowKit.Hid H->RowKit.Hid I->Z)(a':A)(b:B)(c:C)(d:D)(e:E)(g:F)(h:G)(l:H)(m:I):Z:=k a' b c d e g h l m
theorem qdx (k:RowKit.Hid A->RowKit.Hid B->RowKit.Hid C->RowKit.Hid D->RowKit.Hid E->RowKit.Hid F->RowKit.Hid G->RowKit.Hid H->RowKit.Hid I->RowKit.Hid J->Z)(a':A)(b:B)(c:C)(d:D)(e:E)(g:F)(h:G)(l:H)(m:I)(p:J):Z:=k a' b c d e g h l m p
theorem qib (k:RowKit.Hid A->RowKit.Hid B->RowKit.Hid C->RowKit.Hid D->RowKit.Hid E->RowKit.Hid F->RowKit.Hid G->RowKit.Hid H->RowKit.Hid I->RowKit.Hid J->RowKit.Hid K->Z)(a':A)(b:B)(c:C)(d:D)(e:E)(g:F)(h:G)(l:H)(m:I)(p:J)(q:K):Z:=k a' b c d e g h l m p q
theorem qhw (k:RowKit.Hid A->RowKit.Hid B->RowKit.Hid C->RowKit.Hid D->RowKit.Hid E->RowKit.Hid F->RowKit.Hid G->RowKit.Hid H->RowKit.Hid I->RowKit.Hid J->RowKit.Hid K->RowKit.Hid L->Z)(a':A)(b:B)(c:C)(d:D)(e:E)(g:F)(h:G)(l:H)(m:I)(p:J)(q:K)(s:L):Z:=k a' b c d e g h l m p q s
theorem qlx (k:RowKit.Hid A->RowKit.Hid B->RowKit.Hid C->RowKit.Hid D->RowKit.Hid E->RowKit.Hid F->RowKit.Hid G->RowKit.Hid H->RowKit.Hid I->RowKit.Hid J->RowKit.Hid K->RowKit.Hid L->RowKit.Hid M->Z)(a':A)(b:B)(c:C)(d:D)(e:E)(g:F)(h:G)(l:H)(m:I)(p:J)(q:K)(s:L)(t:M):Z:=k a' b c d e g h l m p q s t
theorem qk2 (k:RowKit.Hid A->RowKit.Hid B->RowKit.Hid C->RowKit.Hid D->RowKit.Hid E->RowKit.Hid F->RowKit.Hid G->RowKit.Hid H->RowKit.Hid I->RowKit.Hid J->RowKit.Hid K->RowKit.Hid L->RowKit.Hid M->RowKit.Hid N->Z)(a':A)(b:B)(c:C)(d:D)(e:E)(g:F)(h:G)(l:H)(m:I)(p:J)(q:K)(s:L)(t:M)(u:N):Z:=k a' b c d e g h l m p q s t u
theorem qub (k:RowKit.Hid A->RowKit.Hid B->RowKit.Hid C->RowKit.Hid D->RowKit.Hid E->RowKit.Hid F->RowKit.Hid G->RowKit.Hid H->RowKit.Hid I->RowKit.Hid J->RowKit.Hid K->RowKit.Hid L->RowKit.Hid M->RowKit.Hid N->RowKit.Hid O->Z)(a':A)(b:B)(c:C)(d:D)(e:E)(g:F)(h:G)(l:H)(m:I)(p:J)(q:K)(s:L)(t:M)(u:N)(o':O):Z:=k a' b c d e g h l m p q s t u o'
theorem qby (k:RowKit.Hid A->RowKit.Hid B->RowKit.Hid C->RowKit.Hid D->RowKit.Hid E->RowKit.Hid F->RowKit.Hid G->RowKit.Hid H->RowKit.Hid I->RowKit.Hid J->RowKit.Hid K->RowKit.Hid L->RowKit.Hid M->RowKit.Hid N->RowKit.Hid O->RowKit.Hid P->Z)(a':A)(b:B)(c:C)(d:D)(e:E)(g:F)(h:G)(l:H)(m:I)(p:J)(q:K)(s:L)(t:M)(u:N)(o':O)(v:P):Z:=k a' b c d e g h l m p q s t u o' v
end
theorem qdy:(∀(α:Type) (l:List α),l.toArray.size=l.length)/\(∀(α:Type) (l:List α) (a:α),(a::l).length=l.length+1)/\(∀(α:Type),([]:List α).length=0)/\(∀(α:Type) (n:Nat) (a:α),Array.replicate (n+1) a=(Array.replicate n a).push a)/\(∀(α:Type) (a:α),Array.replicate 0 a= #[])/\
  (∀(α:Type) (l:List α) (a:α),l.toArray.push a=(l++ [a]).toArray)/\(∀(α:Type) (l m:List α),l.toArray++m.toArray=(l++m).toArray)/\(∀(α:Type) (l:List α),[]++l=l)/\(∀(α:Type) (a:α) (l m:List α),(a::l)++m=a::(l++m)):=
 ⟨fun _ _=>rfl,fun _ _ _=>rfl,fun _=>rfl,fun _ _ _=>Array.replicate_succ,fun _ _=>rfl,fun _ _ _=>push_toArray ..,fun _ _ _=>append_toArray ..,fun _ _=>rfl,fun _ _ _ _=>rfl⟩
theorem ex {α:Type}(e:α): ∃x,e=x:=⟨_,rfl⟩
end Go.Ink
namespace Go.Ink
open Go.RowKit
structure Keep (C:Nat->Prop)(w w':World):Prop where
 os:w'.os=w.os
 tape:w'.tape=w.tape
 output:w'.output=w.output
 size:w.heap.size<=w'.heap.size
 block: ∀k,k<w.heap.size->C k->w'.heap[k]?=w.heap[k]?
abbrev wE:=Keep fun _=>True
theorem Keep.refl (C:Nat->Prop)(w:World):Keep C w w:=⟨rfl,rfl,rfl,zG _,fun _ _ _=>rfl⟩
theorem Keep.trans {C:Nat->Prop}{a b c:World}(h:Keep C a b)(k:Keep C b c):Keep C a c:=
 ⟨k.os.trans h.os,k.tape.trans h.tape,k.output.trans h.output,zW h.size k.size,
  fun i hi d=>(k.block i (zk hi h.size) d).trans (h.block i hi d)⟩
theorem Keep.mono {C C':Nat->Prop}{w w':World}(h:Keep C w w')(c: ∀k,k<w.heap.size->C' k->C k):Keep C' w w':=
 ⟨h.os,h.tape,h.output,h.size,fun k b d=>h.block k b (c k b d)⟩
theorem Keep.mt{C:Nat->Prop}{w w':World}(h:wE w w'):Keep C w w':=h.mono fun _ _ _=>trivial
theorem Keep.below {B:Nat}{w w':World}(h:Keep (fun k=>k<B) w w')(c:B<=w.heap.size):Below B w w':=
 ⟨h.os,h.tape,h.output,h.size,fun k b=>h.block k wA b⟩
theorem Keep.of_grown {w w':World}{row:Option Nat}(h:w.grownBy w' row):Keep (fun k=>some k≠row) w w':=
 ⟨h.os,h.tape,h.output,h.size,fun k c b=>h.block k c b⟩
theorem Keep.drew (C:Nat->Prop)(w:World):Keep C w w.drew:=⟨rfl,rfl,rfl,zG _,fun _ _ _=>rfl⟩
theorem Keep.alloc (C:Nat->Prop)(w:World)(o:Obj):Keep C w (w.alloc o):=
 ⟨rfl,rfl,rfl,wC,fun k b _=>xM w o k b⟩
theorem Keep.setCell {C:Nat->Prop}(w:World)(p:Addr)(u:Value)(c: ¬C p.block):Keep C w (w.setCell p u):=
 ⟨rfl,rfl,rfl,by simp [World.setCell],fun k d b=>Below.heap_setCell _ _ _ _ (fun e=>c (e▸b))⟩
theorem Keep.putObj {C:Nat->Prop}(w:World)(l:Nat)(o:Obj)(c: ¬C l):Keep C w (w.putObj l o):=
 ⟨rfl,rfl,rfl,wC,fun k d b=>World.putObj_heap_other (fun e=>c (e▸b))⟩
theorem Keep.heap {C:Nat->Prop}{w w':World}(h:Keep C w w'){k:Nat}{o:Obj}(b:w.heap[k]?=some o)(c:C k):w'.heap[k]?=some o:=
 (h.block k (Array.getElem?_eq_some_iff.1 b).1 c).trans b
theorem Keep.cell {C:Nat->Prop}{w w':World}(h:Keep C w w'){a:Addr}{v:Value}(b:w.cell? a=some v)(c:C a.block):w'.cell? a=some v:=
 (yk (h.block a.block (zQ w a b) c)).trans b
theorem qe {w:World}{k:Nat}{o:Obj}(h:w.heap[k]?=some o):k<w.heap.size:=(Array.getElem?_eq_some_iff.1 h).1
abbrev inR (l:Nat):Fence:=Fence.wide.inRound l
def quc (S:Nat)(V:World->Prop)(J Jx:Nat->(Nat->Prop)->World->Prop)(k:Nat)(O:Nat->Prop)(X:World)(e:Ending)(Y:World):Prop:=
 ∃O':Nat->Prop,(∀b,O b->O' b)/\(∀b,O' b->O b∨(X.heap.size<=b/\b<Y.heap.size))/\Keep (fun b=>S<=b/\ ¬O b) X Y/\V Y/\
  ((e=.returned (.bool true)/\J (k+1) O' Y)∨(e=.returned (.bool false)/\Jx k O' Y))
def qzm (P:Program)(g:Nat)(lb:Array Value)(encs:Nat->Array Value)(N:Nat)(V:World->Prop)(T:Nat->Prop):Prop:=
 ∀(l:Nat) (J Jx:Nat->(Nat->Prop)->World->Prop) (O0:Nat->Prop) (W:World),l<W.heap.size->(∀b,O0 b->b<W.heap.size)->V W->
  (∀k O X Y,J k O X->Keep (fun b=>(b<W.heap.size/\ ¬T b)∨O b) X Y->J k O Y)->
  (∀k O X Y,Jx k O X->Keep (fun b=>(b<W.heap.size/\ ¬T b)∨O b) X Y->Jx k O Y)->
  (∀k O X,k<N->J k O X->V X->W.heap.size<=X.heap.size->YieldAt Fence.wide 0 P l (encs k) X (quc W.heap.size V J Jx k O X))->
  J 0 O0 W->
  Calls P g (#[.func (.yield l) #[] #[]]++lb) W fun e W'=>(∃v,e=.returned v)/\W.heap.size<=W'.heap.size/\V W'/\
   ∃O':Nat->Prop,(J N O' W'∨ ∃k,k<N/\Jx k O' W')
def qer (B n:Nat)(V:World->Prop)(O:Nat->Prop)(Y0 Y:World)(R:(Nat->Prop)->Prop):Prop:=
 ∃O':Nat->Prop,(∀b,O b->O' b)/\(∀b,O' b->O b∨(n<=b/\b<Y.heap.size))/\Keep (fun b=>B<=b/\b<n/\ ¬O b) Y0 Y/\V Y/\R O'
def q9z (B n:Nat)(V:World->Prop)(I:Nat->(Nat->Prop)->World->Prop)(Ix:Code->Nat->(Nat->Prop)->World->Prop)(k:Nat)(O:Nat->Prop)(Y0:World):Exit->Act->World->Prop
 |.normal,_,Y=>qer B n V O Y0 Y fun O'=>I (k+1) O' Y
 |.ret,_,Y=>qer B n V O Y0 Y fun O'=>Ix .ret k O' Y
 |.exit id,_,Y=>qer B n V O Y0 Y fun O'=>Ix (.exit id) k O' Y
 |.goto t,_,Y=>qer B n V O Y0 Y fun O'=>Ix (.goto t) k O' Y
 |.panic _,_,_=>False
 |.outgrown,_,_=>False
def qud (P:Program)(l B:Nat)(body:Code)(V:World->Prop)(I:Nat->(Nat->Prop)->World->Prop)(Ix:Code->Nat->(Nat->Prop)->World->Prop)(k:Nat)(O:Nat->Prop)(X:World)(a₁:Act)(X₁:World):Prop:=
 Keep (fun b=>b<X.heap.size) X X₁/\
  ∀Y,Keep (fun b=>b≠l) X₁ Y->Y.heap.size=X₁.heap.size->(∃r,Y.heap[l]?=some (.loop r))->body.wpIn (inR l) 0 P (q9z B X.heap.size V I Ix k O Y) a₁ Y
theorem q5k {P:Program}{fn:FuncId}{l B S:Nat}{rec:LoopState->Option Code->Loop}{tmps0:Array Value}{ps:Array Tmp}{assign body:Code}{df:Nat}
  (s:rec=fun st pe=>{state:=st,pending:=pe,fn:=fn,tmps:=tmps0,params:=ps,assign:=assign,body:=body,defers:=df})
  (hlB:B<=l) (hS:B<=S) (hlS:l<S) {encs:Nat->Array Value} (hps: ∀k,(encs k).size=ps.size) {V:World->Prop} {T:Nat->Prop} (hTl: ¬T l) (hVst: ∀X Y,V X->Keep (fun b=>b<B) X Y->V Y)
  {I:Nat->(Nat->Prop)->World->Prop} {Ix:Code->Nat->(Nat->Prop)->World->Prop}
  (hI: ∀k O X Y,I k O X->Keep (fun b=>(b<S/\ ¬T b/\b≠l)∨O b) X Y->I k O Y) (hIx: ∀c k O X Y,Ix c k O X->Keep (fun b=>(b<S/\ ¬T b/\b≠l)∨O b) X Y->Ix c k O Y)
  (X:World) (k:Nat) (O:Nat->Prop) (hOl: ¬O l) (hi:I k O X) (hl:X.heap[l]?=some (.loop (rec .ready none)))
  (hround:assign.wpIn (inR l) 0 P (Exit.then (qud P l B body V I Ix k O X) (fun _ _ _=>False)) {tmps:=(ps.zip (encs k)).foldl (fun t (p,v)=>t.setIfInBounds p v) tmps0,defers:= []} X):
  YieldAt Fence.wide 0 P l (encs k) X (quc S V
   (fun k O W=>I k O W/\ ¬O l/\W.heap[l]?=some (.loop (rec .ready none)))
   (fun k O W=> ∃c,Ix c k O W/\ ¬O l/\W.heap[l]?=some (.loop (rec .done (some c)))) k O X):=by
 have hy:=run_yield (P:=P) (args:=encs k) hl (by rw [s];exact hps k);rw [s]at hy;have ae:=qe hl;refine⟨fn,_,assign,body,hy,roundIn_of_wpIn (F:=Fence.wide) trivial (xq hround ?_)⟩;intro e a₁ X₁ he;cases e with
 |normal=>
  obtain⟨al,hb⟩:=he;have ad:X₁.heap[l]?=some (.loop (rec .ready none)):=al.heap hl ae;refine⟨_,run_beginRound ad (by rw [s]),?_⟩;have ah:(X₁.putObj l (.loop {rec .ready none with state:=.busy})).heap[l]?=some (.loop {rec .ready none with state:=.busy}):=yz (qe ad);have ag:Keep (fun b=>b≠l) X₁ (X₁.putObj l (.loop {rec .ready none with state:=.busy})):=Keep.putObj _ _ _ wC;refine xq (hb _ ag wC ⟨_,ah⟩) ?_;generalize hY0:X₁.putObj l (.loop {rec .ready none with state:=.busy})=Y0 at ah ag;clear hY0 hb;have y: ∀(d:Option Code) (Y:World) (R:(Nat->Prop)->Prop),qer B X.heap.size V O Y0 Y R->
    ∃u,(Instr.endRound l d).run P Y=.ok (.bool d.isNone) u/\u.heap[l]?=some (.loop (rec (if d.isNone then .ready else .done) d))/\Keep (fun b=>b≠l) Y u/\
    ∃O':Nat->Prop,(∀b,O b->O' b)/\(∀b,O' b->O b∨(X.heap.size<=b/\b<u.heap.size))/\Keep (fun b=>S<=b/\ ¬O b) X u/\V u/\ ¬O' l/\R O':=by
   rintro d Y R ⟨O',z,g,hK,hV,U⟩;have am:Y.heap[l]?=some (.loop {rec .ready none with state:=.busy}):=hK.heap ah ⟨hlB,ae,hOl⟩;have:=run_endRound (P:=P) d am;refine⟨_,this,?_,Keep.putObj _ _ _ wC,O',z,by simpa using g,?_,?_,?_,U⟩
   ·rw [yz (qe am)];subst s;rfl
   ·have h1:Keep (fun b=>(S<=b/\ ¬O b)/\b<X.heap.size) X X₁:=al.mono (fun _ h _=>h);have h2:Keep (fun b=>(S<=b/\ ¬O b)/\b<X.heap.size) X₁ Y0:=ag.mono (fun b _ h e=>by have:=h.1.1;omega);have h3:Keep (fun b=>(S<=b/\ ¬O b)/\b<X.heap.size) Y0 Y:=hK.mono (fun b _ h=>⟨by have:=h.1.1;omega,h.2,h.1.2⟩);have h4:Keep (fun b=>(S<=b/\ ¬O b)/\b<X.heap.size) Y (Y.putObj l (.loop {({rec .ready none with state:=.busy}:Loop) with state:=if d.isNone then .ready else .done,pending:=d})):=Keep.putObj _ _ _ (fun h=>by have:=h.1.1;omega);exact(((h1.trans h2).trans h3).trans h4).mono (fun b hb h=>⟨h,hb⟩)
   ·exact hVst _ _ hV (Keep.putObj _ _ _ (by simp;omega))
   ·intro h;rcases g l h with h |h
    ·exact hOl h
    ·omega
  have ab: ∀{O':Nat->Prop} {Y u:World},¬O' l->Keep (fun b=>b≠l) Y u->Keep (fun b=>(b<S/\ ¬T b/\b≠l)∨O' b) Y u:=fun x hK=>hK.mono (fun b _ h=>by
   rcases h with h |h
   ·exact h.2.2
   ·intro e;subst e;exact x h)
  rintro e a3 Y hp;cases e with
  |normal=>
   obtain⟨u,hr,q,m,O',z,g,hK,hV,x,U⟩:=y none Y _ hp;exact⟨_,_,hr,O',z,g,hK,hV,.inl ⟨rfl,hI _ _ _ _ U (ab x m),x,q⟩⟩
  |ret=>
   obtain⟨u,hr,q,m,O',z,g,hK,hV,x,U⟩:=y (some .ret) Y _ hp;exact⟨_,_,hr,O',z,g,hK,hV,.inr ⟨rfl,.ret,hIx _ _ _ _ _ U (ab x m),x,q⟩⟩
  |exit id=>
   obtain⟨u,hr,q,m,O',z,g,hK,hV,x,U⟩:=y (some (.exit id)) Y _ hp;exact⟨_,_,hr,O',z,g,hK,hV,.inr ⟨rfl,.exit id,hIx _ _ _ _ _ U (ab x m),x,q⟩⟩
  |goto t=>
   obtain⟨u,hr,q,m,O',z,g,hK,hV,x,U⟩:=y (some (.goto t)) Y _ hp;exact⟨_,_,hr,O',z,g,hK,hV,.inr ⟨rfl,.goto t,hIx _ _ _ _ _ U (ab x m),x,q⟩⟩
  |panic ch=>exact hp.elim
  |outgrown=>exact hp.elim
 |ret=>exact he.elim
 |exit id=>exact he.elim
 |goto t=>exact he.elim
 |panic c=>exact he.elim
 |outgrown=>exact he.elim
theorem qzn {P:Program}{F:Fence}(U:F=Fence.wide∨ ∃l0,F=inR l0){g:Operand}{ps:Array Tmp}{assign body:Code}{Q:Exit->Act->World->Prop}{a:Act}{w:World}
  {gf:Nat} {lb:Array Value} (hg:a.eval g=.func (.func gf) #[] lb) (eg: ∀args w,(callFunc gf args).run P w=.ok (.enter gf args) w)
  {d:Nat->Array Value} {N:Nat} {V:World->Prop} {T:Nat->Prop} (af:qzm P gf lb d N V T) (aj: ∀k,(d k).size=ps.size)
  {l df:Nat} {mark:List Deferred} {W1:World}
  (q: ∀fn,∃W1',(Instr.enterLoop fn a.tmps ps assign body F.round).run P w=.ok (l,mark) W1'/\wE w W1'/\W1'.heap.size=W1.heap.size/\
    W1'.heap[l]?=some (.loop {state:=.ready,pending:=none,fn:=fn,tmps:=a.tmps,params:=ps,assign:=assign,body:=body,defers:=df})/\Keep (fun b=>b≠l) W1 W1')
  (hl:w.heap.size<=l) (hl1:l<W1.heap.size) (hTb: ∀b,T b->b<w.heap.size) (hV0:V w) (hVst: ∀X Y,V X->Keep (fun b=>b<w.heap.size) X Y->V Y)
  (I:Nat->(Nat->Prop)->World->Prop) (Ix:Code->Nat->(Nat->Prop)->World->Prop)
  (hI: ∀k O X Y,I k O X->Keep (fun b=>(b<W1.heap.size/\ ¬T b/\b≠l)∨O b) X Y->I k O Y) (hIx: ∀c k O X Y,Ix c k O X->Keep (fun b=>(b<W1.heap.size/\ ¬T b/\b≠l)∨O b) X Y->Ix c k O Y)
  (h0:I 0 (fun _=>False) W1)
  (hround: ∀k O X,k<N->I k O X->V X->W1.heap.size<=X.heap.size-> ¬O l->assign.wpIn (inR l) 0 P (Exit.then (qud P l w.heap.size body V I Ix k O X) (fun _ _ _=>False)) {tmps:=(ps.zip (d k)).foldl (fun t (p,v)=>t.setIfInBounds p v) a.tmps,defers:= []} X)
  (hdone: ∀O W,I N O W->V W->W1.heap.size<=W.heap.size->Q .normal {a with defers:=mark++a.defers} W)
  (hstop: ∀c k O W,k<N->Ix c k O W->V W->W1.heap.size<=W.heap.size->c.wpIn F 0 P Q {a with defers:=mark++a.defers} W):
  (Code.rangeFunc g ps assign body).wpIn F 0 P Q a w:=by
 have ab:F.depth=none:=by rcases U with rfl |⟨l0,rfl⟩<;>rfl
 have ad: ∀f,F.fn f:=by rcases U with rfl |⟨l0,rfl⟩<;>(intro f;trivial)
 refine wpIn_rangeFunc ?_;intro fn _;obtain⟨W1',he,ah,s,z,ai⟩:=q fn;refine⟨l,mark,W1',{target:=.fn (.func gf) lb,args:= #[.func (.yield l) #[] #[]]},W1',gf,#[.func (.yield l) #[] #[]]++lb,W1',he,?_,fun f' _=>ad f',?_,fun h=>by simp [ab] at h,?_⟩
 ·simp only [resolve,hg];simp [go_sem]
 ·simp [invoke,go_sem,eg]
 ·have m:=af l
   (fun k O W=>I k O W/\ ¬O l/\W.heap[l]?=some (.loop {state:=.ready,pending:=none,fn:=fn,tmps:=a.tmps,params:=ps,assign:=assign,body:=body,defers:=df}))
   (fun k O W=> ∃c,Ix c k O W/\ ¬O l/\W.heap[l]?=some (.loop {state:=.done,pending:=some c,fn:=fn,tmps:=a.tmps,params:=ps,assign:=assign,body:=body,defers:=df}))
   (fun _=>False) W1' wA (fun b h=>h.elim) (hVst _ _ hV0 (ah.mono (fun _ _ _=>wF)))
   (fun k O X Y h hK=>⟨hI k O X Y h.1 (hK.mono (fun b _ u=>u.imp (fun h=>⟨s▸h.1,h.2.1⟩) id)),h.2.1,hK.heap h.2.2 (.inl ⟨wA,fun h=>by have:=hTb _ h;omega⟩)⟩)
   (fun k O X Y h hK=>by
    obtain⟨c,hc,R,y⟩:=h;exact⟨c,hIx c k O X Y hc (hK.mono (fun b _ u=>u.imp (fun h=>⟨s▸h.1,h.2.1⟩) id)),R,hK.heap y (.inl ⟨wA,fun h=>by have:=hTb _ h;omega⟩)⟩)
   (fun k O X hk h hV hs=>q5k (rec:=fun st pe=>{state:=st,pending:=pe,fn:=fn,tmps:=a.tmps,params:=ps,assign:=assign,body:=body,defers:=df}) rfl (B:=w.heap.size) hl wA wA aj (T:=T) (fun h=>by have:=hTb _ h;omega) hVst
    (fun k O X Y h hK=>hI k O X Y h (hK.mono (fun b _ u=>u.imp (fun h=>⟨s▸h.1,h.2⟩) id))) (fun c k O X Y h hK=>hIx c k O X Y h (hK.mono (fun b _ u=>u.imp (fun h=>⟨s▸h.1,h.2⟩) id)))
    X k O h.2.1 h.1 h.2.2 (hround k O X hk h.1 hV wA h.2.1))
   ⟨hI _ _ _ _ h0 (ai.mono (fun b _ h=>h.elim (fun h=>h.2.2) False.elim)),fun h=>h,z⟩
  have aa:CallsIn F (0-1) P gf (#[.func (.yield l) #[] #[]]++lb) W1' (rangePost F 0 P l Q {a with defers:=mark++a.defers}):=by
   have ae:Calls P gf (#[.func (.yield l) #[] #[]]++lb) W1' (rangePost F 0 P l Q {a with defers:=mark++a.defers}):=by
    refine m.mono ?_;rintro e W2 ⟨⟨v,rfl⟩,au,x,O',hJ |⟨k,hk,c,hx,R,y⟩⟩
    ·obtain⟨hi,R,y⟩:=hJ;refine⟨none,_,run_endLoop (P:=P) y wC,hdone O' _ (hI _ _ _ _ hi (Keep.putObj _ _ _ (fun h=>h.elim (fun h=>h.2.2 rfl) R))) (hVst _ _ x (Keep.putObj _ _ _ wA)) (by simp;omega)⟩
    ·refine⟨some c,_,run_endLoop (P:=P) y wC,hstop c k O' _ hk (hIx _ _ _ _ _ hx (Keep.putObj _ _ _ (fun h=>h.elim (fun h=>h.2.2 rfl) R))) (hVst _ _ x (Keep.putObj _ _ _ wA)) (by simp;omega)⟩
   have hw:CallsIn Fence.wide (0-1) P gf (#[.func (.yield l) #[] #[]]++lb) W1' (rangePost F 0 P l Q {a with defers:=mark++a.defers}):=zU.2 ae;rcases U with rfl |⟨l0,rfl⟩
   ·exact hw
   ·exact CallsIn.inRound l0 hw
  exact aa
theorem qk3 {P:Program}{g:Operand}{ps:Array Tmp}{assign body:Code}{Q:Exit->Act->World->Prop}{a:Act}{w:World}
  {gf:Nat} {lb:Array Value} (hg:a.eval g=.func (.func gf) #[] lb) (eg: ∀args w,(callFunc gf args).run P w=.ok (.enter gf args) w)
  {m:Nat->Array Value} {N:Nat} {V:World->Prop} {T:Nat->Prop} (ap:qzm P gf lb m N V T) (aq: ∀k,(m k).size=ps.size)
  (U: ∀b,T b->b<w.heap.size) (an:V w) (af: ∀X Y,V X->Keep (fun b=>b<w.heap.size) X Y->V Y)
  (I:Nat->(Nat->Prop)->World->Prop) (Ix:Code->Nat->(Nat->Prop)->World->Prop)
  (hI: ∀k O X Y,I k O X->Keep (fun b=>(b<w.heap.size/\ ¬T b)∨O b) X Y->I k O Y) (ak: ∀c k O X Y,Ix c k O X->Keep (fun b=>(b<w.heap.size/\ ¬T b)∨O b) X Y->Ix c k O Y)
  (h0:I 0 (fun _=>False) w)
  (z: ∀l k O X,w.heap.size<=l->l<X.heap.size-> ¬O l->k<N->I k O X->V X->w.heap.size+2<=X.heap.size->assign.wpIn (inR l) 0 P (Exit.then (qud P l w.heap.size body V I Ix k O X) (fun _ _ _=>False)) {tmps:=(ps.zip (m k)).foldl (fun t (p,v)=>t.setIfInBounds p v) a.tmps,defers:= []} X)
  (hdone: ∀D O W,w.heap.size<=D-> ¬O D->W.heap[D]?=some (.deferred (some []))->w.heap.size<=W.heap.size->I N O W->V W->Q .normal {a with defers:={target:=.collected D,args:= #[]}::a.defers} W)
  (hstop: ∀D c k O W,w.heap.size<=D-> ¬O D->W.heap[D]?=some (.deferred (some []))->w.heap.size<=W.heap.size->k<N->Ix c k O W->V W->c.wpIn Fence.wide 0 P Q {a with defers:={target:=.collected D,args:= #[]}::a.defers} W):
  (Code.rangeFunc g ps assign body).wpIn Fence.wide 0 P Q a w:=by
 obtain⟨W1,x⟩:=ex ((w.alloc (.deferred (some []))).alloc (.deferred (some [])));have ar:W1.heap.size=w.heap.size+2:=by rw [←x];simp
 have aj:W1.heap[w.heap.size]?=some (.deferred (some [])):=by
  rw [←x];exact(xM _ _ _ wC).trans (xN w _)
 have y:wE w W1:=by rw [←x];exact(Keep.alloc _ w _).trans (Keep.alloc _ _ _)
 refine qzn (.inl rfl) hg eg ap aq (l:=w.heap.size+1) (df:=w.heap.size) (mark:= [{target:=.collected w.heap.size,args:= #[]}]) (W1:=W1) ?_ wA wA U an af
  (fun k O W=>I k O W/\ ¬O w.heap.size/\W.heap[w.heap.size]?=some (.deferred (some [])))
  (fun c k O W=>Ix c k O W/\ ¬O w.heap.size/\W.heap[w.heap.size]?=some (.deferred (some []))) ?_ ?_ ?_ ?_ ?_ ?_
 ·intro fn;refine⟨_,run_enterLoop_outer _ _ _ _ _,(Keep.alloc _ w _).trans (Keep.alloc _ _ _),by rw [ar];simp,?_,?_⟩
  ·have:=xN (w.alloc (.deferred (some []))) (.loop {state:=.ready,pending:=none,fn:=fn,tmps:=a.tmps,params:=ps,assign:=assign,body:=body,defers:=w.heap.size})
   rwa [zO] at this
  ·rw [←x];refine⟨rfl,rfl,rfl,wC,fun k hk hC=>?_⟩;have ah:k<(w.alloc (.deferred (some []))).heap.size:=by simp at hk⊢;omega
   rw [xM _ _ _ ah,xM _ _ _ ah]
 ·rintro k O X Y ⟨s,q,u⟩ hK;exact⟨hI k O X Y s (hK.mono (fun b _ h=>h.imp (fun h=>⟨wA,h.2,wA⟩) id)),q,hK.heap u (.inl ⟨wA,fun h=>by have:=U _ h;omega,wA⟩)⟩
 ·rintro c k O X Y ⟨s,q,u⟩ hK;exact⟨ak c k O X Y s (hK.mono (fun b _ h=>h.imp (fun h=>⟨wA,h.2,wA⟩) id)),q,hK.heap u (.inl ⟨wA,fun h=>by have:=U _ h;omega,wA⟩)⟩
 ·exact⟨hI _ _ _ _ h0 (y.mono (fun _ _ _=>wF)),fun h=>h,aj⟩
 ·rintro k O X hk ⟨s,q,u⟩ hV ai al;refine xq (z _ k O X wA wA al hk s hV wA) ?_;intro e a₁ X₁ he;cases e with
  |normal=>
   obtain⟨y,hb⟩:=he;refine⟨y,fun Y hY hs hl=>xq (hb Y hY hs hl) ?_⟩;have ao:Y.heap[w.heap.size]?=some (.deferred (some [])):=hY.heap (y.heap u wA) wA;have d: ∀(R:(Nat->Prop)->Prop) (Z:World),qer w.heap.size X.heap.size V O Y Z R->qer w.heap.size X.heap.size V O Y Z (fun O'=>R O'/\ ¬O' w.heap.size/\Z.heap[w.heap.size]?=some (.deferred (some []))):=by
    rintro R Z ⟨O',hO,ad,hK,am,hR⟩;exact⟨O',hO,ad,hK,am,hR,fun h=>(ad _ h).elim q wA,hK.heap ao ⟨zG _,wA,q⟩⟩
   rintro e' a' Z hz;cases e' with
   |normal=>exact d _ _ hz
   |ret=>exact d _ _ hz
   |exit id=>exact d _ _ hz
   |goto t=>exact d _ _ hz
   |panic c=>exact hz.elim
   |outgrown=>exact hz.elim
  |ret=>exact he.elim
  |exit id=>exact he.elim
  |goto t=>exact he.elim
  |panic c=>exact he.elim
  |outgrown=>exact he.elim
 ·rintro O W ⟨s,q,u⟩ hV ai;exact hdone _ O W (zG _) q u wA s hV
 ·rintro c k O W hk ⟨s,q,u⟩ hV ai;exact hstop _ c k O W (zG _) q u wA hk s hV
theorem qhp {P:Program}{fn:Func}{tmps:Array Value}{R:Ending->World->Prop}{D:Nat}{b:List Deferred}{w:World}(c:w.heap[D]?=some (.deferred (some [])))
  (h:LeavesInM Fence.wide 0 P fn tmps R b .returning (w.putObj D (.deferred none))):
  LeavesInM Fence.wide 0 P fn tmps R ({target:=.collected D,args:= #[]}::b) .returning w:=
 ⟨wC,.inl ⟨_,_,rfl,run_takeDeferred c,h⟩⟩
theorem qbr {P:Program}{f:FuncId}{fn:Func}{c:Code}{args:Array Value}{w:World}{R:Ending->World->Prop}
  (d:P.funcs[f]?=some fn) (b:fn.body=some c)
  (h:c.wpIn Fence.wide 0 P (bodyPost P fn R) {tmps:=args++Array.replicate (fn.ntmps-args.size) undef,defers:= []} w):Calls P f args w R:=
 zU.1 (callsIn_of_wp d b trivial h rfl)
theorem qf5 {P:Program}{f:FuncId}{fn:Func}{c:Code}{args:Array Value}{w:World}{R:Ending->World->Prop}
  (d:P.funcs[f]?=some fn) (b:fn.body=some c)
  (h:c.wpIn Fence.wide 0 P (bodyPostM Fence.wide 0 P fn R) {tmps:=args++Array.replicate (fn.ntmps-args.size) undef,defers:= []} w):Calls P f args w R:=
 zU.1 (callsIn_of_wp_marks d b trivial h rfl)
def qtp (c:Code):Prop:=c=.ret
def q7a (Ds:List Nat):List Deferred:=Ds.map fun D=>{target:=.collected D,args:= #[]}
def MarksAt (Ds:List Nat)(O:Nat->Prop)(w:World):Prop:= ∀D,D∈Ds-> ¬O D/\w.heap[D]?=some (.deferred (some []))
theorem MarksAt.keep {b:List Nat}{O O' C:Nat->Prop}{w w':World}(h:MarksAt b O w)(hK:Keep C w w')(d: ∀D,D∈b->C D)(e: ∀D,D∈b-> ¬O D-> ¬O' D):MarksAt b O' w':=
 fun D c=>⟨e D c (h D c).1,hK.heap (h D c).2 (d D c)⟩
theorem qgz {P:Program}{fn:Func}{tmps:Array Value}{R:Ending->World->Prop}: ∀(Ds:List Nat) (w:World),Ds.Nodup->(∀D,D∈Ds->w.heap[D]?=some (.deferred (some [])))->
  (∀w',Keep (fun b=>b∉Ds) w w'->w'.heap.size=w.heap.size->LeavesInM Fence.wide 0 P fn tmps R [] .returning w')->LeavesInM Fence.wide 0 P fn tmps R (q7a Ds) .returning w
 | [],w,_,_,h=>h w (Keep.refl _ _) rfl
 |D::Ds,w,hn,hD,h=>by
  refine qhp (hD D wC) (qgz Ds _ (xS.1 hn).2 (fun E hE=>?_) (fun w' hK hs=>h w' ?_ (by simpa using hs)))
  ·rw [World.putObj_heap_other (fun e:E=D=>(xS.1 hn).1 (by rw [←e];exact hE))];exact hD E (by simp [hE])
  ·exact(Keep.putObj (C:=fun b=>b∉D::Ds) w D _ wC).trans (hK.mono fun b _ c=>fun h=>c (by simp [h]))
theorem qcn {P:Program}{fn:Func}{tmps:Array Value}{R:Ending->World->Prop}{w:World}{v:Value}(c:(results fn tmps).run P w=.ok v w)(b:R (.returned v) w):LeavesInM Fence.wide 0 P fn tmps R [] .returning w:=⟨v,c,b⟩
theorem qd6 {P:Program}{f:FuncId}{fn:Func}{c:Code}(g:P.funcs[f]?=some fn)(b:(fn.name== "runtime.NumGoroutine")=false)(e:fn.body=some c):
  ∀(args:Array Value) (w:World),(callFunc f args).run P w=.ok (.enter f args) w:=by
 intro args w;have d:fn.name≠ "runtime.NumGoroutine" :=by simpa using b
 simp [callFunc,g,d,e,mark]
theorem qo8 {F:Fence}{n:Nat}{P:Program}{c:Code}{Q:Exit->Act->World->Prop}{a:Act}{w:World}(G:World->Prop)(h:G w)(k: ∀W,G W->c.wpIn F n P Q a W):c.wpIn F n P Q a w:=k w h
theorem qlb {P:Program}{c:Code}{Q:Exit->Act->World->Prop}{a:Act}{w:World}(G:World->Prop)(h:G w)(k: ∀W,G W->c.wp P Q a W):c.wp P Q a w:=k w h
theorem qjw {Q:Exit->Act->World->Prop}{e:Exit}{a:Act}{w:World}(G:World->Prop)(h:G w)(k: ∀W,G W->Q e a W):Q e a w:=k w h
theorem qww {F:Fence}{n:Nat}{P:Program}{f:FuncId}{args:Array Value}{R:Ending->World->Prop}{w:World}(G:World->Prop)(h:G w)(k: ∀W,G W->CallsIn F n P f args W R):CallsIn F n P f args w R:=k w h
end Go.Ink
namespace Go.Ink
theorem kAl {C:Nat->Prop}{w:World}{o:Obj}:Keep C w (w.alloc o):=Keep.alloc C w o
theorem kDr {C:Nat->Prop}{w:World}:Keep C w w.drew:=Keep.drew C w
theorem kSc {C:Nat->Prop}{w:World}{p:Addr}{u:Value}(h: ¬C p.block:=by simp):Keep C w (w.setCell p u):=Keep.setCell w p u h
end Go.Ink
namespace Go.Ink
open Go.RowKit
instance reflBytes:ReflBEq ByteArray:=⟨fun {a}=>(MapKept.bytes_beq a a).2 rfl⟩
instance lawfulBytes:LawfulBEq ByteArray:=⟨fun {a b} h=>(MapKept.bytes_beq a b).1 h⟩
structure TermD where
 var:Bool
 text:ByteArray
 deriving DecidableEq,Inhabited
structure qcg where
 pred:ByteArray
 args:List TermD
 deriving DecidableEq,Inhabited
structure LitD where
 kind:Int
 atom:qcg
 left:TermD
 right:TermD
 deriving DecidableEq,Inhabited
structure RuleD where
 head:qcg
 body:List LitD
 deriving DecidableEq,Inhabited
def TermD.val (t:TermD):Value:=.agg #[.bool t.var,.string t.text]
def SliceIn {α:Type}(n:Nat)(w:World)(sz:Nat)(E:World->Nat->Nat->α->Prop)(v:Value)(xs:List α):Prop:=
 ∃a cap,v=.slice a xs.length cap/\xs.length<=1073741824/\(xs.length<=cap/\cap<=maxLen)/\ ∀k x,xs[k]?=some x-> ∃b off,a=some ⟨b,off,none⟩/\b<n/\E w b (off+k*sz) x
def TermE (w:World)(b o:Nat)(t:TermD):Prop:=w.cell? ⟨b,o,none⟩=some (.bool t.var)/\w.cell? ⟨b,o+1,none⟩=some (.string t.text)
abbrev qak (n:Nat)(w:World)(v:Value)(ts:List TermD):Prop:=SliceIn n w 2 TermE v ts
def qap (L:LitD)(sa:Value):List Value:= [.int .i64 L.kind,.string L.atom.pred,sa,.bool L.left.var,.string L.left.text,.bool L.right.var,.string L.right.text]
def CellsE (w:World)(b o:Nat)(vs:List Value):Prop:= ∀j v,vs[j]?=some v->w.cell? ⟨b,o+j,none⟩=some v
def LitE (n:Nat)(w:World)(b o:Nat)(L:LitD):Prop:= ∃sa,CellsE w b o (qap L sa)/\qak n w sa L.atom.args
abbrev qge (n:Nat)(w:World)(v:Value)(ls:List LitD):Prop:=SliceIn n w 7 (LitE n) v ls
def LitD.terms (L:LitD):List TermD:=if L.kind=1∨L.kind=2 then L.atom.args else if L.kind=3 then [L.left,L.right] else []
theorem SliceIn.mono {α:Type}{n:Nat}{w w':World}{sz:Nat}{E c:World->Nat->Nat->α->Prop}{v:Value}{xs:List α}(h:SliceIn n w sz E v xs)
  (e: ∀b o x,b<n->E w b o x->c w' b o x):SliceIn n w' sz c v xs:=by
 obtain⟨a,cap,q,p,l,m⟩:=h;refine⟨a,cap,q,p,l,fun k x s=>?_⟩;obtain⟨b,off,g,d,h⟩:=m k x s;exact⟨b,off,g,d,e _ _ _ d h⟩
theorem SliceIn.wider {α:Type}{n d:Nat}{w w':World}{sz:Nat}{E c:World->Nat->Nat->α->Prop}{v:Value}{xs:List α}(h:SliceIn n w sz E v xs)(u:n<=d)
  (e: ∀b o x,b<n->E w b o x->c w' b o x):SliceIn d w' sz c v xs:=by
 obtain⟨a,cap,s,q,m,p⟩:=h;refine⟨a,cap,s,q,m,fun k x t=>?_⟩;obtain⟨b,off,g,l,h⟩:=p k x t;exact⟨b,off,g,wA,e _ _ _ l h⟩
theorem TermE.keep {n:Nat}{w w':World}{b o:Nat}{t:TermD}(h:TermE w b o t)(c:b<n)(hK:Keep (fun k=>k<n) w w'):TermE w' b o t:=
 ⟨hK.cell h.1 c,hK.cell h.2 c⟩
theorem qan {n:Nat}{w w':World}{v:Value}{ts:List TermD}(h:qak n w v ts)(hK:Keep (fun k=>k<n) w w'):qak n w' v ts:=
 h.mono fun _ _ _ b h=>h.keep b hK
theorem qfj {n b:Nat}{w:World}{v:Value}{ts:List TermD}(h:qak n w v ts)(c:n<=b):qak b w v ts:=
 SliceIn.wider h c fun _ _ _ _ h=>h
theorem CellsE.keep {n:Nat}{w w':World}{b o:Nat}{c:List Value}(h:CellsE w b o c)(d:b<n)(hK:Keep (fun k=>k<n) w w'):CellsE w' b o c:=
 fun j v e=>hK.cell (h j v e) d
theorem LitE.keep {n:Nat}{w w':World}{b o:Nat}{L:LitD}(h:LitE n w b o L)(d:b<n)(hK:Keep (fun k=>k<n) w w'):LitE n w' b o L:=by
 obtain⟨g,e,c⟩:=h;exact⟨g,e.keep d hK,qan c hK⟩
theorem LitE.wider {n c:Nat}{w:World}{b o:Nat}{L:LitD}(h:LitE n w b o L)(g:n<=c):LitE c w b o L:=by
 obtain⟨l,e,d⟩:=h;exact⟨l,e,qfj d g⟩
theorem qi8 {n:Nat}{w w':World}{v:Value}{ls:List LitD}(h:qge n w v ls)(hK:Keep (fun k=>k<n) w w'):qge n w' v ls:=
 h.mono fun _ _ _ b h=>h.keep b hK
theorem qzo {n c:Nat}{w:World}{v:Value}{ls:List LitD}(h:qge n w v ls)(b:n<=c):qge c w v ls:=
 SliceIn.wider h b fun _ _ _ _ h=>h.wider b
theorem qb {w:World}{B t:Nat}{b:Array Value}{c:Nat×Nat}(h:w.heap[B]?=some (.cells b t c)):CellsE w B 0 b.toList:=by
 intro j v d;simp [World.cell?,h]at*;exact d
theorem qbn {w:World}{B t:Nat}{v:Value}(h:w.heap[B]?=some (.cells #[v] t (0,0))):w.cell? ⟨B,0,none⟩=some v:=by simp [World.cell?,h]
theorem qg {w:World}{B t:Nat}{b:Array Value}(h:w.heap[B]?=some (.cells b t (0,0)))(o:Nat):w.frozen? ⟨B,o,none⟩=false:=by simp [World.frozen?,h]
def que (w:World):Value->Int
 |.pointer (some q)=>intOf ((w.cell? q).getD undef)
 |_=>0
theorem qr8 {w:World}{q:Addr}{k:IntKind}{n:Int}(h:w.cell? q=some (.int k n)):que w (.pointer (some q))=n:=by simp [que,h,intOf]
theorem qh (w:World)(o:Obj):(w.alloc o).heap[w.heap.size]?=some o:=xN w o
theorem qf0 {w:World}{k:Nat}{o:Obj}(h:w.heap[k]?=some o)(o':Obj):(w.alloc o').heap[k]?=some o:=(Keep.alloc (fun _=>True) w o').heap h trivial
def LitD.uses (L:LitD):List ByteArray:=(L.terms.filter (·.var)).map (·.text)
def RuleD.headLit (r:RuleD):LitD:=⟨1,r.head,⟨false,⟨#[]⟩⟩,⟨false,⟨#[]⟩⟩⟩
def RuleD.lits (r:RuleD):List LitD:=r.headLit::r.body
def qc8:List LitD->Nat->List (Int×ByteArray)
 | [],_=> []
 |L::ls,i=>(L.uses.map fun t=>((i:Int)-1,t))++qc8 ls (i+1)
def RuleD.stands (r:RuleD):List (Int×ByteArray):=qc8 r.lits 0
def RuleD.off (r:RuleD)(i:Nat):Nat:=(qc8 (r.lits.take i) 0).length
theorem qkm (a b:List LitD)(i:Nat):qc8 (a++b) i=qc8 a i++qc8 b (i+a.length):=by
 induction a generalizing i with
 |nil=>simp [qc8]
 |cons L a ih=>simp [qc8,ih,xG,Nat.add_comm 1]
theorem q5l {r:RuleD}{i:Nat}{L:LitD}(h:r.lits[i]?=some L):r.off (i+1)=r.off i+L.uses.length:=by
 unfold RuleD.off;have b:i<r.lits.length:=(zA.1 h).1;have c:r.lits[i]=L:=(zA.1 h).2;rw [take_succ_eq_append_getElem b,qkm,zR,c];simp [qc8]
theorem q7q (r:RuleD):r.off r.lits.length=r.stands.length:=by simp [RuleD.off,RuleD.stands]
theorem q2b {r:RuleD}{i c:Nat}{L:LitD}(h:r.lits[i]?=some L)(e:c<L.uses.length):r.stands[r.off i+c]?=some ((i:Int)-1,L.uses[c]):=by
 unfold RuleD.off RuleD.stands;have d:i<r.lits.length:=(zA.1 h).1;have l:r.lits[i]=L:=(zA.1 h).2;have m:r.lits=r.lits.take i++(L::r.lits.drop (i+1)):=by
  rw [←l,←zt d,yw]
 conv=>lhs;rw [m,qkm]
 have b:(r.lits.take i).length=i:=by simp;omega
 simp only [qc8,b,zD,take_append_of_le_length (Nat.le_of_eq b.symm),take_take,Nat.min_self];have g:(List.take i (List.take i r.lits++L::List.drop (i+1) r.lits))=List.take i r.lits:=by
  rw [take_append_of_le_length (Nat.le_of_eq b.symm),take_take,Nat.min_self]
 try rw [g]
 rw [yH wA,Nat.add_sub_cancel_left,yR (by simpa using e)];simp [e]
def LitD.cnt (L:LitD)(k:Nat):Nat:=((L.terms.take k).filter (·.var)).length
theorem q5m (L:LitD):L.cnt 0=0:=by simp [LitD.cnt]
theorem q7r (L:LitD):L.cnt L.terms.length=L.uses.length:=by simp [LitD.cnt,LitD.uses]
theorem q5n {L:LitD}{k:Nat}{t:TermD}(h:L.terms[k]?=some t):L.cnt (k+1)=L.cnt k+if t.var then 1 else 0:=by
 unfold LitD.cnt;have b:k<L.terms.length:=(zA.1 h).1;have d:L.terms[k]=t:=(zA.1 h).2;rw [take_succ_eq_append_getElem b,yT,d];by_cases c:t.var=true
 ·simp [ye,c]
 ·simp [ye,Bool.eq_false_iff.2 c]
theorem qx6 {L:LitD}{k:Nat}{t:TermD}(h:L.terms[k]?=some t)(e:t.var=true):L.uses[L.cnt k]?=some t.text:=by
 unfold LitD.uses LitD.cnt;have b:k<L.terms.length:=(zA.1 h).1;have c:L.terms[k]=t:=(zA.1 h).2;have d:L.terms=L.terms.take k++(t::L.terms.drop (k+1)):=by
  rw [←c,←zt b,yw]
 conv=>lhs;rw [d]
 rw [yT,zn,ye,zI e,take_append_of_le_length (by simp;omega),take_take,Nat.min_self];rw [yH wC];simp
def qa9 (l:List ByteArray):List ByteArray:=l.foldl (fun acc x=>if x∈acc then acc else acc++ [x]) []
theorem qic (l:List ByteArray)(x:ByteArray):qa9 (l++ [x])=if x∈qa9 l then qa9 l else qa9 l++ [x]:=by
 unfold qa9;rw [yl];rfl
theorem qm7 (l:List ByteArray):(qa9 l).length<=l.length:=by
 have h: ∀(l acc:List ByteArray),(l.foldl (fun acc x=>if x∈acc then acc else acc++ [x]) acc).length<=acc.length+l.length:=by
  intro l
  induction l with
  |nil=>simp
  |cons x l ih=>
   intro acc;simp only [foldl_cons,length_cons];refine zW (ih _) ?_;split<;>simp<;>omega
 simpa [qa9]using h l []
theorem q5o: ∀(l acc:List ByteArray),(acc++l).Nodup->l.foldl (fun acc x=>if x∈acc then acc else acc++ [x]) acc=acc++l:=by
 intro l
 induction l with
 |nil=>simp
 |cons x l ih=>
  intro acc h;have b:x∉acc:=fun b=>by
   rw [xW]at h;exact h.2.2 x b x wC rfl
  rw [foldl_cons,zF b,ih]
  ·simp
  ·simpa using h
theorem qk4 (l:List ByteArray):(qa9 l).Nodup:=by
 have h: ∀(l acc:List ByteArray),acc.Nodup->(l.foldl (fun acc x=>if x∈acc then acc else acc++ [x]) acc).Nodup:=by
  intro l
  induction l with
  |nil=>simp
  |cons x l ih=>
   intro acc d;rw [foldl_cons];split
   ·exact ih _ d
   ·refine ih _ ?_;rw [xW];exact⟨d,wC,fun a g b c e=>by simp at c;subst c;subst e;contradiction⟩
 exact h l [] wC
theorem qzp (l:List ByteArray):qa9 (qa9 l)=qa9 l:=by
 have:=q5o (qa9 l) [] (by simpa using qk4 l)
 simpa [qa9]using this
theorem qr9 (l:List ByteArray)(x:ByteArray):x∈qa9 l↔x∈l:=by
 have h: ∀(l acc:List ByteArray),x∈l.foldl (fun acc x=>if x∈acc then acc else acc++ [x]) acc↔x∈acc∨x∈l:=by
  intro l
  induction l with
  |nil=>simp
  |cons y l ih=>
   intro acc;simp only [foldl_cons,ih,zw];split
   ·constructor
    ·rintro(h |h)
     ·exact .inl h
     ·exact .inr (.inr h)
    ·rintro(h |h |h)
     ·exact .inl h
     ·subst h;exact .inl (by assumption)
     ·exact .inr h
   ·simp [or_assoc]
 simpa [qa9]using h l []
theorem q7s {α:Type}{p:α->Bool}{l:List α}{k:Nat}{s:α}(h: ∀x,x∈l.take k->p x=false)(d:l[k]?=some s)(g:p s=true):l.find? p=some s:=by
 have c:=(zA.1 d).1;have e:=(zA.1 d).2;have b:l=l.take k++(s::l.drop (k+1)):=by rw [←e,←zt c,yw]
 rw [b,find?_append,yn.2 (fun x m=>by simp [h x m]),find?_cons,g]
 rfl
def RuleD.names (r:RuleD):List ByteArray:=r.stands.map (·.2)
def RuleIn (n:Nat)(w:World)(sh sb:Value)(r:RuleD):Prop:=qak n w sh r.head.args/\qge n w sb r.body
theorem RuleIn.keep {n:Nat}{w w':World}{sh sb:Value}{r:RuleD}(h:RuleIn n w sh sb r)(hK:Keep (fun k=>k<n) w w'):RuleIn n w' sh sb r:=⟨qan h.1 hK,qi8 h.2 hK⟩
theorem RuleIn.wider {n c:Nat}{w:World}{sh sb:Value}{r:RuleD}(h:RuleIn n w sh sb r)(b:n<=c):RuleIn c w sh sb r:=⟨qfj h.1 b,qzo h.2 b⟩
def qgq (w:World)(b o:Nat)(s:ByteArray):Prop:=w.cell? ⟨b,o,none⟩=some (.string s)
abbrev qaf (n:Nat)(w:World)(v:Value)(ss:List ByteArray):Prop:=SliceIn n w 1 qgq v ss
theorem qm8 {n:Nat}{w w':World}{v:Value}{ts:List ByteArray}(h:qaf n w v ts)(hK:Keep (fun k=>k<n) w w'):qaf n w' v ts:=
 h.mono fun _ _ _ b h=>hK.cell h b
theorem qb4 {n b:Nat}{w:World}{v:Value}{ts:List ByteArray}(h:qaf n w v ts)(c:n<=b):qaf b w v ts:=
 SliceIn.wider h c fun _ _ _ _ h=>h
def qf6 (w:World)(b o:Nat)(s:Int):Prop:=w.cell? ⟨b,o,none⟩=some (.int .i64 s)
abbrev qay (n:Nat)(w:World)(v:Value)(ss:List Int):Prop:=SliceIn n w 1 qf6 v ss
theorem qda {α:Type}{w:World}{base:Nat}{e:TypeId}{sz:Nat}{v:Value}{n:Nat}{xs:List Value}(h:w.ownsRow base e sz v n xs)(c:List α)(t:n=c.length)(p:c.length<=1073741824)
  (E:World->Nat->Nat->α->Prop) (q: ∀b k d,c[k]?=some d->(∀j,j<sz->w.cell? ⟨b,k*sz+j,none⟩=xs[k*sz+j]?)->E w b (k*sz) d):SliceIn w.heap.size w sz E v c:=by
 subst t;obtain⟨y,h⟩:=h;rcases h with ⟨rfl,h0⟩ |⟨g,cap,cur,rfl,hbg,hg,hc,hm,hs,ht⟩
 ·refine⟨none,0,by rw [h0],p,by simp [h0,maxLen],fun k x l=>?_⟩;have:=(zA.1 l).1;omega
 ·refine⟨_,cap,rfl,p,⟨hc,hm⟩,fun k x l=>⟨g,0,rfl,qe hg,?_⟩⟩;rw [zD];refine q _ _ _ l (fun j u=>?_);have s:=(zA.1 l).1;have m:k*sz+j<c.length*sz:=by
   have:(k+1)*sz<=c.length*sz:=yW _ s;rw [xI]at this;omega
  subst ht;simp [World.cell?,hg,getElem?_take,m]
theorem qbj {w:World}{base:Nat}{e:TypeId}{v:Value}{n:Nat}{ss:List ByteArray}(h:w.ownsRow base e 1 v n (ss.map .string))(c:ss.length<=1073741824):qaf w.heap.size w v ss:=
 qda h ss (by have:=h.1;simpa using this.symm) c qgq fun b k d hd g=>by
  have:=g 0 wA;simp only [yB,Nat.add_zero]at this⊢;rw [qgq,this];simp [hd]
theorem qfk {w:World}{base:Nat}{e:TypeId}{v:Value}{n:Nat}{ss:List Int}(h:w.ownsRow base e 1 v n (ss.map (.int .i64)))(c:ss.length<=1073741824):qay w.heap.size w v ss:=
 qda h ss (by have:=h.1;simpa using this.symm) c qf6 fun b k d hd g=>by
  have:=g 0 wA;simp only [yB,Nat.add_zero]at this⊢;rw [qf6,this];simp [hd]
theorem qf {w w':World}{base:Nat}{e:TypeId}{sz:Nat}{v:Value}{n:Nat}{xs:List Value}{C:Nat->Prop}(h:w.ownsRow base e sz v n xs)(hK:Keep C w w')(c: ∀b,v.ownBlock=some b->C b):w'.ownsRow base e sz v n xs:=by
 refine⟨h.1,?_⟩;rcases h.2 with hn |⟨g,cap,cur,rfl,hb,hgg,rest⟩
 ·exact .inl hn
 ·exact .inr ⟨g,cap,cur,rfl,hb,hK.heap hgg (c g rfl),rest⟩
theorem qbf {α:Type}(f:α->List Value)(sz:Nat)(b: ∀a,(f a).length=sz): ∀(ps:List α) (k j:Nat) (p:α),ps[k]?=some p->j<sz->(ps.flatMap f)[k*sz+j]?=(f p)[j]?:=by
 intro ps
 induction ps with
 |nil=>intro k j p h;simp at h
 |cons a ps ih=>
  intro k j p h c;cases k with
  |zero=>
   simp at h;subst h;simp only [yF,Nat.zero_mul,zD];rw [yR (by rw [b];exact c)]
  |succ k=>
   simp only [getElem?_cons_succ]at h;simp only [yF];have e:(k+1)*sz+j=sz+(k*sz+j):=by rw [xI];omega
   rw [e,yH (by rw [b];omega),b,Nat.add_sub_cancel_left];exact ih k j p h c
theorem qa4 {α:Type}(f:α->List Value)(sz:Nat)(b: ∀a,(f a).length=sz)(ps:List α):(ps.flatMap f).length=ps.length*sz:=by
 induction ps with
 |nil=>simp
 |cons a ps ih=>simp [b,ih,xI];omega
theorem quf {n0:Nat}{w:World}{base:Nat}{e:TypeId}{v:Value}{n:Nat}{ps:List (LitD×Value)}(h:w.ownsRow base e 7 v n (ps.flatMap fun p=>qap p.1 p.2))(q:ps.length<=1073741824)(t:n0<=w.heap.size)
  (c: ∀p,p∈ps->qak n0 w p.2 p.1.atom.args):qge w.heap.size w v (ps.map (·.1)):=
 qda h (ps.map (·.1)) (by have:=h.1;rw [qa4 _ 7 (fun _=>rfl)] at this;simp;omega) (by simpa using q) (LitE w.heap.size) fun b k d hd s=>by
  rw [zP]at hd;obtain⟨p,l,rfl⟩:=xO.1 hd;refine⟨p.2,fun j u m=>?_,qfj (c p (zH l)) t⟩;have g:j<7:=(zA.1 m).1;rw [s j g,qbf _ 7 (fun _=>rfl) ps k j p l g];exact m
theorem qjx (r:RuleD):r.names=r.headLit.uses++r.body.flatMap LitD.uses:=by
 have h: ∀(ls:List LitD) (i:Nat),(qc8 ls i).map (·.2)=ls.flatMap LitD.uses:=by
  intro ls
  induction ls with
  |nil=>simp [qc8]
  |cons L ls ih=>intro i;simp [qc8,ih,Function.comp_def]
 rw [RuleD.names,RuleD.stands,h,RuleD.lits,yF]
def qcf (body:List LitD):List ByteArray:=qa9 ((body.filter fun L=>L.kind==1).flatMap LitD.uses)
def SetIn (w:World)(b:Nat)(s:List ByteArray):Prop:=
 ∃es clock,w.heap[b]?=some (.map es clock)/\es.toList.map (fun e=>(e.key,e.val))=s.map fun k=>(Value.string k,Value.bool true)
theorem SetIn.keep {w w':World}{b:Nat}{s:List ByteArray}{C:Nat->Prop}(h:SetIn w b s)(hK:Keep C w w')(l:C b):SetIn w' b s:=by
 obtain⟨d,c,e,g⟩:=h;exact⟨d,c,hK.heap e l,g⟩
theorem qm9 (w:World):SetIn (w.alloc (.map #[] 0)) w.heap.size []:=⟨#[],0,qh w _,rfl⟩
theorem SetIn.lt {w:World}{b:Nat}{s:List ByteArray}(h:SetIn w b s):b<w.heap.size:=by
 obtain⟨e,c,d,g⟩:=h;exact qe d
theorem qon (k:ByteArray): ∀(s:List ByteArray) (es:List MapEntry) (i:Nat),es.map (fun e=>(e.key,e.val))=s.map (fun k=>(Value.string k,Value.bool true))->
  ∃r,Instr.findNow .string (.string k) es i=some r/\(r=none/\k∉s∨ ∃j,r=some (i+j,.bool true)/\s[j]?=some k):=by
 intro s
 induction s with
 |nil=>intro es i h;cases es with
  |nil=>exact⟨none,rfl,.inl ⟨rfl,wC⟩⟩
  |cons e es=>simp at h
 |cons a s ih=>intro es i h;cases es with
  |nil=>simp at h
  |cons e es=>
   simp only [yX,List.cons.injEq,Prod.mk.injEq]at h;obtain⟨⟨c,d⟩,g⟩:=h;by_cases b:k=a
   ·subst b;refine⟨some (i,.bool true),?_,.inr ⟨0,rfl,rfl⟩⟩;simp [Instr.findNow,Instr.sameNow,c,d]
   ·obtain⟨r,m,l⟩:=ih es (i+1) g;refine⟨r,?_,?_⟩
    ·have:(k==a)=false:=by simpa using b
     simp [Instr.findNow,Instr.sameNow,c,this,m]
    ·rcases l with ⟨rfl,hn⟩ |⟨j,rfl,hj⟩
     ·exact .inl ⟨rfl,by simp [b,hn]⟩
     ·exact .inr ⟨j+1,by simp;omega,by simpa using hj⟩
section
variable {P : Program} {T K E : TypeId} (hT : P.underlying T = some (.map K E)) (hK : P.underlying K = some .string)
include hT hK
theorem qis (m: ∀w,(zeroValue E).run P w=.ok (.bool false) w){w:World}{b:Nat}{s:List ByteArray}(h:SetIn w b s)(k:ByteArray):
  (Instr.lookup T (.map (some b)) (.string k) false).run P w=.ok (.bool (decide (k∈s))) w:=by
 obtain⟨d,c,g,l⟩:=h;obtain⟨r,u,t⟩:=qon k s d.toList 0 l;have q:(getObj b).run P w=.ok (.map d c) w:=by simp [getObj,Sem.run,g]
 have p: ∀e n,(Instr.checkKey e (n+1) K (.string k)).run P w=.ok () w:=by intro e n;simp [Instr.checkKey,yq,ym hK,Result.andThen]
 simp only [Instr.lookup,yq,ym hT,Result.andThen,q,Sem.run_pure,p,Instr.findKey,ym hK,u];rcases t with ⟨rfl,hn⟩ |⟨j,rfl,hj⟩
 ·simp [yq,m,Result.andThen,hn]
 ·have:k∈s:=zH hj;simp [yq,Result.andThen,this]
theorem qit {w:World}{b:Nat}{s:List ByteArray}(h:SetIn w b s)(k:ByteArray):
  ∃w',(Instr.mapUpdate T (.map (some b)) (.string k) (.bool true)).run P w=.ok () w'/\SetIn w' b (if k∈s then s else s++ [k])/\Keep (fun j=>j≠b) w w'/\w'.heap.size=w.heap.size:=by
 obtain⟨m,c,x,q⟩:=h;obtain⟨r,R,U⟩:=qon k s m.toList 0 q;have z:(getObj b).run P w=.ok (.map m c) w:=by simp [getObj,Sem.run,x]
 have g: ∀o,(setObj b o).run P w=.ok () (w.putObj b o):=by intro o;simp [setObj,Sem.run,x,World.putObj]
 have y: ∀e n,(Instr.checkKey e (n+1) K (.string k)).run P w=.ok () w:=by intro e n;simp [Instr.checkKey,yq,ym hK,Result.andThen]
 rcases U with ⟨rfl,hn⟩ |⟨j,rfl,hj⟩
 ·refine⟨w.putObj b (.map (m.push {key:=.string k,val:=.bool true,born:=c}) (c+1)),?_,?_,Keep.putObj _ _ _ wC,wC⟩
  ·simp [Instr.mapUpdate,yq,ym hT,Result.andThen,z,y,Instr.findKey,ym hK,R,g]
  ·exact⟨_,_,yz (qe x),by simp [hn,q]⟩
 ·have v:k∈s:=zH hj;have u:(m[j]?).map (·.key)=some (.string k):=by
   have d:=yN (fun l=>l[j]?) q;simp only [zP,hj,Option.map_some]at d;cases t:m[j]? with
   |none=>simp [t] at d
   |some e=>simp [t] at d;simp [d.1]
  have p:(Instr.keyThatStays (.string k) (.string k)).run P w=.ok (.string k) w:=by simp [Instr.keyThatStays,Instr.sameBits]
  refine⟨w.putObj b (.map (m.modify j fun e=>{e with key:=.string k,val:=.bool true}) c),?_,?_,Keep.putObj _ _ _ wC,wC⟩
  ·simp [Instr.mapUpdate,yq,ym hT,Result.andThen,z,y,Instr.findKey,ym hK,R,g,u,p]
  ·refine⟨_,_,yz (qe x),?_⟩;rw [zI v,←q];apply xX;intro i;simp only [zP,xg,Array.getElem?_modify];by_cases hi:j=i
   ·subst hi;have d:=yN (fun l=>l[j]?) q;simp only [zP,hj,Option.map_some]at d;cases t:m[j]? with
    |none=>simp [t] at d
    |some e=>simp [t] at d;simp [d]
   ·simp [hi]
end
def qb2 (P:Program)(t e:TypeId)(size bytes:Nat):Prop:=
 P.underlying t=some (.slice e)/\0<size/\bytes<=4096/\ ∃i z,P.info? e=some i/\i.zero=some z/\i.size=size/\i.bytes=bytes/\z.cells.size=size
theorem qcl {P:Program}{t e:TypeId}{z:Value}{size b:Nat}(h:P.underlying t=some (.slice e))(hi:(P.info? e).map (fun i=>(i.zero,i.size,i.bytes))=some (some z,size,b))(q:z.cells.size=size)(p:0<size)(m:b<=4096):qb2 P t e size b:=by
 obtain⟨i,c,d,g,l⟩:=info_parts hi;exact⟨h,p,m,i,z,c,d,g,l,q⟩
theorem qar (w:World)(o:Obj)(k:Nat):(w.alloc o).heap[k]?=if k=w.heap.size then some o else w.heap[k]?:=by
 show(w.heap.push o)[k]?=_;rw [Array.getElem?_push]
theorem qgi {w:World}{B t:Nat}{v:Value}{c:Nat×Nat}(u:Value)(h:w.heap[B]?=some (.cells #[v] t c)):(w.setCell ⟨B,0,none⟩ u).heap[B]?=some (.cells #[u] t c):=by
 obtain⟨b,d⟩:=Array.getElem?_eq_some_iff.1 h;show(w.heap.modify B _)[B]?=_;rw [xR (by rw [Array.size_modify];exact b),Array.getElem_modify_self,d]
 rfl
theorem qaj {w:World}{B t:Nat}{c:Array Value}{d:Nat×Nat}(i:Nat)(u:Value)(h:w.heap[B]?=some (.cells c t d)):(w.setCell ⟨B,i,none⟩ u).heap[B]?=some (.cells (c.setIfInBounds i u) t d):=by
 obtain⟨b,e⟩:=Array.getElem?_eq_some_iff.1 h;show(w.heap.modify B _)[B]?=_;rw [xR (by rw [Array.size_modify];exact b),Array.getElem_modify_self,e]
 rfl
variable {P : Program}
theorem app {t e:TypeId}{size Y:Nat}(hE:qb2 P t e size Y)(ty:TypeId){w:World}{base:Nat}{v:Value}{n:Nat}{xs:List Value}(h:w.ownsRow base e size v n xs)
  (a:Addr) (m c:Nat) (d:List Value) (hl:d.length=m*size) (p: ∀j u,d[j]?=some u->w.cell? (a.add j)=some u) (h1: ∀u∈d,u.oneCell'=true)
  (aw:0<m) (am:n+m<=8589934592) (aa:base<=w.heap.size):
  ∃v' w',(Builtin.append_ #[t,t] ty #[v,.slice (some a) m c]).run P w=.ok v' w'/\w'.ownsRow base e size v' (n+m) (xs++d)/\Keep (fun b=>some b≠v.ownBlock) w w'/\
   ∃g cap,v'=.slice (some ⟨g,0,none⟩) (n+m) cap/\(v.ownBlock=some g∨w.heap.size<=g)/\g<w'.heap.size:=by
 obtain⟨ht,ax,aj,i,z,hi,hz,ad,R,ao⟩:=hE;subst ad;subst R;have U:(n+m)*i.bytes<=140737488355328:=zW (Nat.mul_le_mul am aj) wD;have ai:n+m<=maxLen:=by simp only [maxLen];omega
 have s:(xs++d).length=(n+m)*i.size:=by rw [zR,h.1,hl,xI]
 have y: ∀(l:Nat),l<n+m-> ∀(row:Option Nat),
   (w.drew.alloc (.cells (xs.toArray++d.toArray++Builtin.zeroCells z.cells (grownCap w (n+m) l e-(n+m))) e)).ownsRow base e i.size
    (.slice (some ⟨w.heap.size,0,none⟩) (n+m) (grownCap w (n+m) l e)) (n+m) (xs++d)/\
   w.grownBy (w.drew.alloc (.cells (xs.toArray++d.toArray++Builtin.zeroCells z.cells (grownCap w (n+m) l e-(n+m))) e)) row:=by
  intro l ho row;have ak:=grownCap_ge w (n+m) l e;have ab:grownCap w (n+m) l e<=maxLen:=grownCap_le_maxLen w (n+m) l e ai;refine⟨⟨s,.inr ⟨w.heap.size,_,_,rfl,aa,xN w.drew _,ak,ab,?_,?_⟩⟩,⟨rfl,rfl,rfl,wC,fun k hk _=>xM w.drew _ k hk⟩⟩
  ·simp only [Array.size_append,size_toArray,size_zeroCells,ao,h.1,hl,←xI]
   congr 1
   omega
  ·simp only [Array.toList_append,yr];rw [←yr,←s];exact take_left
 rcases h.2 with ⟨rfl,rfl⟩ |⟨g,cap,cur,rfl,hbg,hg,hnc,ab,hcs,htake⟩
 ·have hx:xs= []:=yo (by simpa using h.1);subst hx;have hr:=run_append_nil (P:=P) w t ty e i z ht hi hz a m c d hl p wA wA (by have hb:=U;simp only [zD] at hb;omega);have x:=y 0 wA (Value.ownBlock (.slice none 0 0));simp only [zD,nil_append,Array.empty_append]at x⊢;exact⟨_,_,hr,x.1,Keep.of_grown x.2,_,_,rfl,.inr (zG _),wC⟩
 ·by_cases q:n+m<=cap
  ·have af:n*i.size+d.length<=cur.size:=by rw [hl,hcs,←xI];exact yW _ q
   have hr:=run_append_room (P:=P) w t ty e i ht hi g n cap cur hg a m c d hl p h1 q af;have hG:w.grownBy (w.setRow g (cur.toList.take (n*i.size)++d++cur.toList.drop (n*i.size+d.length)).toArray) (some g):=⟨rfl,rfl,rfl,wC,fun k _ hk=>setRow_other w g k _ (fun e=>hk (by simp [e]))⟩;refine⟨_,_,hr,⟨s,.inr ⟨g,cap,_,rfl,hbg,setRow_heap w g cur _ e _ hg,q,ab,?_,?_⟩⟩,Keep.of_grown hG,g,cap,rfl,.inl rfl,?_⟩
   ·simp only [size_toArray,zR,yC,xu,Array.length_toList];omega
   ·rw [htake,←s];exact take_left
   ·exact zk (qe hg) hG.size
  ·have holds: ∀j u,xs[j]?=some u->w.cell? ((⟨g,0,none⟩:Addr).add j)=some u:=h.cells (g:=g) rfl;have hr:=run_append_grow (P:=P) w t ty e i z ht hi hz ⟨g,0,none⟩ n cap xs h.1 holds a m c d hl p wA wA (growslice_fits wA U);have x:=y cap wA (Value.ownBlock (.slice (some ⟨g,0,none⟩) n cap));exact⟨_,_,hr,x.1,Keep.of_grown x.2,_,_,rfl,.inr (zG _),wC⟩
theorem qc3 {t e:TypeId}{size d:Nat}(z:qb2 P t e size d)(x:TypeId){w:World}{base:Nat}{v:Value}{n:Nat}{xs:List Value}(l:w.ownsRow base e size v n xs)
  (c:List Value) (hl:c.length=size) (y: ∀u∈c,u.oneCell'=true) (q:n+1<=8589934592) (m:base<=w.heap.size):
  ∃v' w',(Builtin.append_ #[t,t] x #[v,.slice (some ⟨w.heap.size,0,none⟩) 1 1]).run P (w.alloc (.cells c.toArray e))=.ok v' w'/\w'.ownsRow base e size v' (n+1) (xs++c)/\Keep (fun b=>some b≠v.ownBlock) w w'/\
   ∃g cap,v'=.slice (some ⟨g,0,none⟩) (n+1) cap/\(v.ownBlock=some g∨w.heap.size<=g)/\g<w'.heap.size:=by
 have s:wE w (w.alloc (.cells c.toArray e)):=kAl;obtain⟨v',w',Y,ho,hK,g,cap,hv,R,p⟩:=app z x (qf l s (fun _ _=>wF)) ⟨w.heap.size,0,none⟩ 1 1 c wA (fun j u U=>by
   have:=qb (qh w (.cells c.toArray e)) j u (by simpa using U);simp only [zD]at this;rw [show((⟨w.heap.size,0,none⟩:Addr).add j)=⟨w.heap.size,j,none⟩ from by unfold Addr.add;split<;>simp_all];exact this) y wA q (by simp;omega)
 refine⟨v',w',Y,ho,s.mt.trans hK,g,cap,hv,R.imp id (fun h=>?_),p⟩;simp at h;omega
theorem qcd {F:Fence}{n:Nat}{w w':World}{ops:Array Oper}{rest:List Oper}{o:Oper}{a:Act}{Q:Exit->Act->World->Prop}{v u v':Value}
  (g:o.guard=none) (s x:Operand) (t:TypeId) (b:o.op=Op.call {callee:=Callee.builtin Builtin.append,args:= #[s,x],argTypes:= #[t,t]}) (hs:a.eval s=v) (hx:a.eval x=u)
  (hrun:(Builtin.append_ #[t,t] o.type #[v,u]).run P w=.ok v' w') (hK:wpListIn F n P ops Q rest (a.put o.dst v') w'):wpListIn F n P ops Q (o::rest) a w:=by
 refine wpListIn_plain g fun K d=>?_;unfold Oper.wpIn;refine⟨?_,?_⟩
 ·simp [Oper.about,b,resolve,Target.leads,Sem.run_pure]
 ·rw [Oper.semAt_plain F _ _ (by rw [b];intro c e;cases e)];simp [execOp,b,resolve,invoke,builtin,hs,hx,hrun,Result.andThen];exact d _ _ hK
theorem qbo {w w':World}{ops:Array Oper}{rest:List Oper}{o:Oper}{a:Act}{Q:Exit->Act->World->Prop}{v u v':Value}
  (d:o.guard=none) (s x:Operand) (t:TypeId) (c:o.op=Op.call {callee:=Callee.builtin Builtin.append,args:= #[s,x],argTypes:= #[t,t]}) (hs:a.eval s=v) (hx:a.eval x=u)
  (hrun:(Builtin.append_ #[t,t] o.type #[v,u]).run P w=.ok v' w') (hK:wpList P ops Q rest (a.put o.dst v') w'):wpList P ops Q (o::rest) a w:=by
 refine wpList_plain d fun K b=>?_;unfold Oper.wp execOp;simp only [c,resolve,invoke,builtin,yq,Sem.run_pure,Result.andThen_ok,map_toArray,yX,xi,hs,hx,hrun];exact b _ _ hK
variable {P : Program}
theorem qug {t e:TypeId}{size aa:Nat}(hE:qb2 P t e size aa)(ty:TypeId){w:World}{base:Nat}{v:Value}{n:Nat}{xs:List Value}(l:w.ownsRow base e size v n xs)
  (a:Addr) (m c:Nat) (d:List Value) (hl:d.length=m*size) (q: ∀j u,d[j]?=some u->w.cell? (a.add j)=some u) (h1: ∀u∈d,u.oneCell'=true)
  (ax:0<m) (an:n+m<=8589934592) (ab:base<=w.heap.size):
  ∃v' w',(Builtin.append_ #[t,t] ty #[v,.slice (some a) m c]).run P w=.ok v' w'/\w'.ownsRow base e size v' (n+m) (xs++d)/\
   ∃g cap,v'=.slice (some ⟨g,0,none⟩) (n+m) cap/\(v.ownBlock=some g∨w.heap.size<=g)/\g<w'.heap.size/\Keep (fun b=>b≠g) w w':=by
 obtain⟨ht,ay,ak,i,z,hi,hz,ae,U,ap⟩:=hE;subst ae;subst U;have Y:(n+m)*i.bytes<=140737488355328:=zW (Nat.mul_le_mul an ak) wD;have aj:n+m<=maxLen:=by simp only [maxLen];omega
 have x:(xs++d).length=(n+m)*i.size:=by rw [zR,l.1,hl,xI]
 have R: ∀(p:Nat),p<n+m-> ∀(row:Option Nat),
   (w.drew.alloc (.cells (xs.toArray++d.toArray++Builtin.zeroCells z.cells (grownCap w (n+m) p e-(n+m))) e)).ownsRow base e i.size
    (.slice (some ⟨w.heap.size,0,none⟩) (n+m) (grownCap w (n+m) p e)) (n+m) (xs++d)/\
   w.grownBy (w.drew.alloc (.cells (xs.toArray++d.toArray++Builtin.zeroCells z.cells (grownCap w (n+m) p e-(n+m))) e)) row:=by
  intro p ho row;have al:=grownCap_ge w (n+m) p e;have ad:grownCap w (n+m) p e<=maxLen:=grownCap_le_maxLen w (n+m) p e aj;refine⟨⟨x,.inr ⟨w.heap.size,_,_,rfl,ab,xN w.drew _,al,ad,?_,?_⟩⟩,⟨rfl,rfl,rfl,wC,fun k hk _=>xM w.drew _ k hk⟩⟩
  ·simp only [Array.size_append,size_toArray,size_zeroCells,ap,l.1,hl,←xI]
   congr 1
   omega
  ·simp only [Array.toList_append,yr];rw [←yr,←x];exact take_left
 rcases l.2 with ⟨rfl,rfl⟩ |⟨g,cap,cur,rfl,hbg,hg,hnc,ad,hcs,htake⟩
 ·have hx:xs= []:=yo (by simpa using l.1);subst hx;have hr:=run_append_nil (P:=P) w t ty e i z ht hi hz a m c d hl q wA wA (by have hb:=Y;simp only [zD] at hb;omega);have y:=R 0 wA none;simp only [zD,nil_append,Array.empty_append]at y⊢;exact⟨_,_,hr,y.1,_,_,rfl,.inr (zG _),wC,(Keep.of_grown y.2).mono fun _ _ _=>wC⟩
 ·by_cases s:n+m<=cap
  ·have ag:n*i.size+d.length<=cur.size:=by rw [hl,hcs,←xI];exact yW _ s
   have hr:=run_append_room (P:=P) w t ty e i ht hi g n cap cur hg a m c d hl q h1 s ag;have hG:w.grownBy (w.setRow g (cur.toList.take (n*i.size)++d++cur.toList.drop (n*i.size+d.length)).toArray) (some g):=⟨rfl,rfl,rfl,wC,fun k _ hk=>setRow_other w g k _ (fun e=>hk (by simp [e]))⟩;refine⟨_,_,hr,⟨x,.inr ⟨g,cap,_,rfl,hbg,setRow_heap w g cur _ e _ hg,s,ad,?_,?_⟩⟩,g,cap,rfl,.inl rfl,?_,(Keep.of_grown hG).mono fun _ _ h=>by simpa using h⟩
   ·simp only [size_toArray,zR,yC,xu,Array.length_toList];omega
   ·rw [htake,←x];exact take_left
   ·exact zk (qe hg) hG.size
  ·have holds: ∀j u,xs[j]?=some u->w.cell? ((⟨g,0,none⟩:Addr).add j)=some u:=l.cells (g:=g) rfl;have hr:=run_append_grow (P:=P) w t ty e i z ht hi hz ⟨g,0,none⟩ n cap xs l.1 holds a m c d hl q wA wA (growslice_fits wA Y);have y:=R cap wA none;exact⟨_,_,hr,y.1,_,_,rfl,.inr (zG _),wC,(Keep.of_grown y.2).mono fun _ _ _=>wC⟩
theorem qwx {t e:TypeId}{size d:Nat}(m:qb2 P t e size d)(v:TypeId)(w:World)(b:Option Addr)(n cap:Nat)(h:n<=cap)(a:Option Addr)(c:Nat):
  (Builtin.append_ #[t,t] v #[.slice b n cap,.slice a 0 c]).run P w=.ok (.slice b n cap) w:=by
 obtain⟨s,q,p,i,z,hi,x,l,g,u⟩:=m;cases a<;>cases b<;>simp [Builtin.append_,ym s,sizeOf,typeInfo,hi,Builtin.lenOf,Builtin.firstCells,loadCells,loadCellsFrom,h,storeCells]
theorem qhx {t e:TypeId}{size p:Nat}(hE:qb2 P t e size p)(ty:TypeId){w:World}{base:Nat}{v:Value}{n:Nat}{xs:List Value}(l:w.ownsRow base e size v n xs)
  (a:Option Addr) (m c:Nat) (d:List Value) (hl:d.length=m*size) (x: ∀b,a=some b-> ∀j u,d[j]?=some u->w.cell? (b.add j)=some u) (hn:a=none->m=0) (h1: ∀u∈d,u.oneCell'=true)
  (Y:n+m<=8589934592) (q:base<=w.heap.size):
  ∃v' w',(Builtin.append_ #[t,t] ty #[v,.slice a m c]).run P w=.ok v' w'/\w'.ownsRow base e size v' (n+m) (xs++d)/\(∀g,v'.ownBlock=some g->v.ownBlock=some g∨w.heap.size<=g)/\Keep (fun b=>v'.ownBlock≠some b) w w':=by
 by_cases h0:m=0
 ·subst h0;have:d= []:=yo (by simpa using hl);subst this;rw [yP];have y: ∃b z cap,v=.slice b z cap/\z<=cap:=by
   rcases l.2 with ⟨e1,e2⟩ |⟨g,cap,cur,e1,e2,e3,e4,e5,_⟩
   ·exact⟨none,0,0,e1,zG _⟩
   ·exact⟨_,_,_,e1,e4⟩
  obtain⟨b,z,cap,rfl,U⟩:=y;exact⟨_,_,qwx hE ty w b z cap U a c,l,fun g R=>.inl R,Keep.refl _ _⟩
 ·cases a with
  |none=>exact absurd (hn rfl) h0
  |some ad=>
   obtain⟨v',w',hr,ho,g,cap,y,R,ah,hK⟩:=qug hE ty l ad m c d hl (x ad rfl) h1 wA Y q;refine⟨v',w',hr,ho,fun g' s=>?_,hK.mono fun b _ h e=>h ?_⟩
   ·rw [y]at s;simp only [Value.ownBlock,yb]at s;subst s;exact R
   ·rw [y,e];rfl
section
variable {P : Program} {ops : Array Oper} {Q : Exit -> Act -> World -> Prop} {md : Region.Mode} {S : World -> Prop} {late : List Nat}
def qco (P:Program)(md:Region.Mode)(ops:Array Oper)(Q:Exit->Act->World->Prop)(S:World->Prop)(late:List Nat):Nat->Array Bool->Act->World->Prop
 |0,listed,a,w=>Region.ready md ops listed= []/\Q .normal a w
 |fuel+1,listed,a,w=>
  (Region.ready md ops listed= []->Q .normal a w)/\
  ∀i∈Region.ready md ops listed,wpOp P ops Q i (fun a' w'=>(late.contains i=false->S w')/\qco P md ops Q S late fuel (listed.setIfInBounds i true) a' w') a w
theorem qqa: ∀(fuel:Nat) (listed:Array Bool) (a:Act) (w:World),qco P md ops Q S late fuel listed a w->wpAny P md ops Q fuel listed a w
 |0,_,_,_,h=>h
 |fuel+1,_,_,_,h=>⟨h.1,fun i hi=>wpOp_mono (fun a' w' h'=>qqa fuel _ a' w' h'.2) (h.2 i hi)⟩
def qe6 (md:Region.Mode)(ops:Array Oper)(late:List Nat)(i:Nat):Bool:=
 late.all fun j=>match ops[j]? with
  |some oj=>oj.after.any fun e=>Region.binds md e&&e.on==i
  |none=>false
theorem quh {i:Nat}{y:Oper}{v:Value}(hi:ops[i]?=some y)(s: ∀(j:Nat) (o:Oper) cs b,ops[j]?=some o->o.op≠.select cs b)
  (hQ: ∀c a w,Q (.panic c) (a.put y.dst v) w->Q (.panic c) a w) (u:qe6 md ops late i=true):
  ∀(fuel:Nat) (listed:Array Bool) (a:Act) (w:World),
   (∀j oj,ops[j]?=some oj->j≠i->listed.getD j true=false->(∀e∈oj.after,Region.binds md e=true->e.on≠i)->y.apart ops oj=true)->
   i∈Region.ready md ops listed->YieldsIf P ops S y v a->S w->
   qco P md ops Q S late fuel (listed.setIfInBounds i true) (a.put y.dst v) w->qco P md ops Q S late (fuel+1) listed a w:=by
 intro fuel
 induction fuel with
 |zero=>
  intro listed a w _ x hy z H;refine⟨fun h=>(by rw [h] at x;cases x),fun j hj=>?_⟩;by_cases d:j=i
  ·subst d;exact hy.wpOp hi z ⟨fun _=>z,H⟩
  ·have:=ready_mono hj d;rw [H.1]at this;cases this
 |succ fuel ih=>
  intro listed a w g x hy z H;refine⟨fun h=>(by rw [h] at x;cases x),fun j hj=>?_⟩;by_cases d:j=i
  ·subst d;exact hy.wpOp hi z ⟨fun _=>z,H⟩
  ·have t:=H.2 j (ready_mono hj d);obtain⟨p,oj,m,R⟩:=mem_ready.1 hj;have q: ∀e∈oj.after,Region.binds md e=true->e.on≠i:=fun e he U ah=>by
    have t:=R e he U;have h0:=(mem_ready.1 x).1;rw [ah]at t;rcases yY i listed.size with h' |h'
    ·simp [h']at h0 t;rw [h0]at t;cases t
    ·simp [Array.getElem?_eq_none h']at t
   have aj:late.contains j=false:=by
    cases hc:late.contains j with
    |false=>rfl
    |true=>
     have hm:j∈late:=by simpa using hc
     have:=yM.1 u j hm;rw [m]at this;simp only at this;obtain⟨e,he,U⟩:=Array.any_eq_true'.1 this;simp only [zV,xC]at U;exact absurd U.2 (q e he U.1)
   have h2:=wpOp_putIf m (g j oj m d p q) (fun cs b=>s i y cs b hi) (fun cs b=>s j oj cs b m) hQ hy t;have l: ∀k ok,ops[k]?=some ok->k≠i->(listed.setIfInBounds j true).getD k true=false->
     (∀e∈ok.after,Region.binds md e=true->e.on≠i)->y.apart ops ok=true:=fun k ok hk ai aa ak=>by
    refine g k ok hk ai ?_ ak;by_cases Y:j=k
    ·subst Y;exact p
    ·rw [getD_set_ne true Y]at aa;exact aa
   refine wpOp_mono (fun a' w' h3=>⟨h3.2.1,ih (listed.setIfInBounds j true) a' w' l (ready_mono x (Ne.symm d)) h3.1 (h3.2.1 aj) ?_⟩) h2;rw [Array.setIfInBounds_comm _ _ d];exact h3.2.2
theorem qaz {i:Nat}{e:Oper}{v:Value}{d:Nat}{b:Array Bool}{a:Act}{w:World}(hi:ops[i]?=some e)
  (s:Region.noSelect ops=true) (m:Region.free md ops b i=true) (q:(Region.ready md ops b).contains i=true) (p:qe6 md ops late i=true)
  (g: ∀c a w,Q (.panic c) (a.put e.dst v) w->Q (.panic c) a w) (l:S w) (t:YieldsIf P ops S e v a)
  (h:qco P md ops Q S late d (b.setIfInBounds i true) (a.put e.dst v) w):qco P md ops Q S late (d+1) b a w:=
 quh hi (Region.noSelect_spec s) g p d b a w (Region.free_spec hi m) (by simpa using q) t l h
theorem qf1 {i:Nat}{p:Oper}{g:Nat}{b:Array Bool}{a:Act}{w:World}(hi:ops[i]?=some p)(v:Region.ready md ops b= [i])
  (h: ∀K:Act->World->Prop,(∀a' w',(late.contains i=false->S w')->qco P md ops Q S late g (b.setIfInBounds i true) a' w'->K a' w')->wpList P ops (Exit.then K Q) [p] a w):
  qco P md ops Q S late (g+1) b a w:=by
 refine⟨fun s=>(by rw [v] at s;cases s),fun j t=>?_⟩;rw [v]at t;have m:j=i:=by simpa using t
 subst m;have c:=h (fun a' w'=>(late.contains j=false->S w')/\qco P md ops Q S late g (b.setIfInBounds j true) a' w') (fun a' w' x y=>⟨x,y⟩);unfold wpOp;rw [hi];unfold wpList at c;simp only at c⊢;split
 ·rename_i hw;rw [zI hw]at c;rcases c with c |c
  ·refine .inl ?_;unfold Oper.wp at c⊢;generalize (execOp a.eval p).run P w=r at c⊢;cases r with
   |ok n w'=>
    cases n<;>simp only [Oper.upon] at c⊢
    case value u=>exact c
    case skip=>exact c
    case defer d=>exact c
    case enter f args=>exact Calls.mono c fun e q l=>by cases e<;>exact l
    case row row args=>exact Rows.mono c fun u q l=>l
   |halt x w'=>cases x<;>simp only [Oper.upon] at c⊢;exact c
  ·exact .inr c
 ·rename_i hw;rw [zF hw]at c;exact c
theorem qa0 {c:Nat}{b:Array Bool}{a:Act}{w:World}(d:Region.ready md ops b= [])(h:Q .normal a w):qco P md ops Q S late c b a w:=by
 cases c with
 |zero=>exact⟨d,h⟩
 |succ n=>exact⟨fun _=>h,fun i hi=>(by rw [d] at hi;cases hi)⟩
theorem qau {c:Nat}{a:Act}{w:World}(b:P.follows .mixedOrders=true)(S:World->Prop)(late:List Nat)
  (h:qco P .any ops Q S late ops.size (Array.replicate ops.size false) a w.drew):(Code.region c ops true).wp P Q a w:=
 wp_region_any b (qqa _ _ _ _ h)
end
section
variable {P : Program} {ops : Array Oper} {Q : Exit -> Act -> World -> Prop} {md : Region.Mode} {S : World -> Prop} {late : List Nat}
theorem qna {i:Nat}{g:Oper}{a:Act}{w:World}{K:Act->World->Prop}(hi:ops[i]?=some g)(b:wpList P ops (Exit.then K Q) [g] a w):wpOp P ops Q i K a w:=by
 unfold wpOp;rw [hi];unfold wpList at b;simp only at b⊢;split
 ·rename_i hw;rw [zI hw]at b;rcases b with b |b
  ·refine .inl ?_;unfold Oper.wp at b⊢;generalize (execOp a.eval g).run P w=r at b⊢;cases r with
   |ok n w'=>
    cases n<;>simp only [Oper.upon] at b⊢
    case value u=>exact b
    case skip=>exact b
    case defer d=>exact b
    case enter f args=>exact Calls.mono b fun e h c=>by cases e<;>exact c
    case row row args=>exact Rows.mono b fun u h c=>c
   |halt x w'=>cases x<;>simp only [Oper.upon] at b⊢;exact b
  ·exact .inr b
 ·rename_i hw;rw [zF hw]at b;exact b
theorem q2c {i j:Nat}{h l:Oper}{c:Nat}{b:Array Bool}{a:Act}{w:World}(hi:ops[i]?=some h)(q:ops[j]?=some l)(g:Region.ready md ops b= [i,j])
  (m: ∀K:Act->World->Prop,(∀a' w',(late.contains i=false->S w')->qco P md ops Q S late c (b.setIfInBounds i true) a' w'->K a' w')->wpList P ops (Exit.then K Q) [h] a w)
  (p: ∀K:Act->World->Prop,(∀a' w',(late.contains j=false->S w')->qco P md ops Q S late c (b.setIfInBounds j true) a' w'->K a' w')->wpList P ops (Exit.then K Q) [l] a w):
  qco P md ops Q S late (c+1) b a w:=by
 refine⟨fun e=>(by rw [g] at e;cases e),fun k d=>?_⟩;rw [g]at d;rcases zw.1 d with rfl |d
 ·exact qna hi (m (fun a' w'=>(late.contains k=false->S w')/\qco P md ops Q S late c (b.setIfInBounds k true) a' w') (fun a' w' x y=>⟨x,y⟩))
 ·rcases zw.1 d with rfl |d
  ·exact qna q (p (fun a' w'=>(late.contains k=false->S w')/\qco P md ops Q S late c (b.setIfInBounds k true) a' w') (fun a' w' x y=>⟨x,y⟩))
  ·cases d
end
section
variable {F : Fence} {n : Nat} {P : Program} {ops : Array Oper} {Q : Exit -> Act -> World -> Prop} {md : Region.Mode} {S : World -> Prop} {late : List Nat}
theorem qmn {i:Nat}{o:Oper}{v:Value}{a:Act}(d: ∀f,F.fn f)(b: ∀c,o.op≠.defer c)(hi:ops[i]?=some o)(g:YieldsIf P ops S o v a)
  {K:Act->World->Prop} {w:World} (e:S w) (h:K (a.put o.dst v) w):wpOpIn F n P ops Q i K a w:=by
 unfold Go.wpOpIn;simp only [hi];rcases g with ⟨hw,hv⟩ |⟨hw,rfl⟩
 ·simp only [hw,yg];unfold Oper.wpIn;rw [Oper.semAt_plain F _ _ b,hv w e];exact⟨fun f _=>d f,h⟩
 ·simp only [hw,zz,yy];exact⟨fun f _=>d f,h⟩
theorem qui {j:Nat}{g m:Oper}{v:Value}(hF: ∀f,F.fn f)(y: ∀c,m.op≠.defer c)(hj:ops[j]?=some m)(U:g.apart ops m=true)
  (Y: ∀cs b,g.op≠.select cs b) (aa: ∀cs b,m.op≠.select cs b)
  (R: ∀c a w,Q (.panic c) (a.put g.dst v) w->Q (.panic c) a w) {K:Act->World->Prop} {a:Act} {w:World}
  (q:YieldsIf P ops S g v a) (h:wpOpIn F n P ops Q j K (a.put g.dst v) w):
  wpOpIn F n P ops Q j (fun a' w'=>YieldsIf P ops S g v a'/\K (a'.put g.dst v) w') a w:=by
 obtain⟨h1,s,h3⟩:=Oper.apart_spec U;have keep: ∀(a:Act),YieldsIf P ops S g v a-> ∀u,YieldsIf P ops S g v (a.put m.dst u):=fun a q u=>
  q.of_same (execOp_put g Y a m.dst u h3) (wanted_put g a m.dst u h3)
 have t: ∀d,YieldsIf P ops S g v {a with defers:=d::a.defers}:=fun d=>q.of_same rfl rfl;unfold wpOpIn at*;simp only [hj]at*;rw [wanted_put m a g.dst v h1]at h;split
 ·rename_i hw;simp only [hw,yg]at h;unfold Oper.wpIn at*;refine⟨fun f _=>hF f,?_⟩;have h:=h.2;rw [Oper.semAt_plain F _ _ y,execOp_put m aa a g.dst v h1]at h;rw [Oper.semAt_plain F _ _ y];generalize (execOp a.eval m).run P w=r at*;cases r with
  |ok x w'=>
   cases x<;>simp only [Oper.uponIn] at h⊢
   case value u=>exact⟨keep a q u,by rw [←Act.put_comm a v u s];exact h⟩
   case skip=>exact⟨keep a q _,by rw [←Act.put_comm a v undef s];exact h⟩
   case defer d=>
    refine⟨keep _ (t d) _,?_⟩;rw [←Act.put_comm _ v undef s,←Act.put_defers];exact h
   case enter f args=>
    refine⟨h.1,CallsIn.mono h.2 fun e z p=>?_⟩;cases e with
    |returned u=>exact⟨keep a q u,by rw [←Act.put_comm a v u s];exact p⟩
    |panicked c=>exact R _ _ _ p
    |outgrown=>exact p
   case row row args=>exact⟨h.1,RowsIn.mono h.2 fun u z p=>⟨keep a q u,by rw [←Act.put_comm a v u s];exact p⟩⟩
   case round l f tmps assign body=>
    refine⟨h.1,RoundIn.mono h.2 fun e z p=>?_⟩;cases e with
    |returned u=>exact⟨keep a q u,by rw [←Act.put_comm a v u s];exact p⟩
    |panicked c=>exact R _ _ _ p
    |outgrown=>exact p
  |halt x w'=>
   cases x<;>simp only [Oper.uponIn] at h⊢
   case panic u=>exact R _ _ _ h
 ·rename_i hw;simp only [hw]at h;exact⟨fun f _=>hF f,keep a q _,by rw [←Act.put_comm a v undef s];exact h.2⟩
def qb6 (F:Fence)(n:Nat)(P:Program)(md:Region.Mode)(ops:Array Oper)(Q:Exit->Act->World->Prop)(S:World->Prop)(late:List Nat):Nat->Array Bool->Act->World->Prop
 |0,listed,a,w=>Region.ready md ops listed= []/\Q .normal a w
 |fuel+1,listed,a,w=>
  (Region.ready md ops listed= []->Q .normal a w)/\
  ∀i∈Region.ready md ops listed,wpOpIn F n P ops Q i (fun a' w'=>(late.contains i=false->S w')/\qb6 F n P md ops Q S late fuel (listed.setIfInBounds i true) a' w') a w
theorem qnb: ∀(fuel:Nat) (listed:Array Bool) (a:Act) (w:World),qb6 F n P md ops Q S late fuel listed a w->wpAnyIn F n P md ops Q fuel listed a w
 |0,_,_,_,h=>h
 |fuel+1,_,_,_,h=>⟨h.1,fun i hi=>wpOpIn_mono (fun a' w' h'=>qnb fuel _ a' w' h'.2) (h.2 i hi)⟩
theorem quj {i:Nat}{p:Oper}{v:Value}(hF: ∀f,F.fn f)(y: ∀(j:Nat) (o:Oper) c,ops[j]?=some o->o.op≠.defer c)(hi:ops[i]?=some p)(t: ∀(j:Nat) (o:Oper) cs b,ops[j]?=some o->o.op≠.select cs b)
  (hQ: ∀c a w,Q (.panic c) (a.put p.dst v) w->Q (.panic c) a w) (x:qe6 md ops late i=true):
  ∀(fuel:Nat) (listed:Array Bool) (a:Act) (w:World),
   (∀j oj,ops[j]?=some oj->j≠i->listed.getD j true=false->(∀e∈oj.after,Region.binds md e=true->e.on≠i)->p.apart ops oj=true)->
   i∈Region.ready md ops listed->YieldsIf P ops S p v a->S w->
   qb6 F n P md ops Q S late fuel (listed.setIfInBounds i true) (a.put p.dst v) w->qb6 F n P md ops Q S late (fuel+1) listed a w:=by
 intro fuel
 induction fuel with
 |zero=>
  intro listed a w _ z hy R H;refine⟨fun h=>(by rw [h] at z;cases z),fun j hj=>?_⟩;by_cases d:j=i
  ·subst d;exact qmn hF (fun c=>y j p c hi) hi hy R ⟨fun _=>R,H⟩
  ·have:=ready_mono hj d;rw [H.1]at this;cases this
 |succ fuel ih=>
  intro listed a w g z hy R H;refine⟨fun h=>(by rw [h] at z;cases z),fun j hj=>?_⟩;by_cases d:j=i
  ·subst d;exact qmn hF (fun c=>y j p c hi) hi hy R ⟨fun _=>R,H⟩
  ·have u:=H.2 j (ready_mono hj d);obtain⟨q,oj,l,U⟩:=mem_ready.1 hj;have s: ∀e∈oj.after,Region.binds md e=true->e.on≠i:=fun e he Y aj=>by
    have u:=U e he Y;have h0:=(mem_ready.1 z).1;rw [aj]at u;rcases yY i listed.size with h' |h'
    ·simp [h']at h0 u;rw [h0]at u;cases u
    ·simp [Array.getElem?_eq_none h']at u
   have al:late.contains j=false:=by
    cases hc:late.contains j with
    |false=>rfl
    |true=>
     have hm:j∈late:=by simpa using hc
     have:=yM.1 x j hm;rw [l]at this;simp only at this;obtain⟨e,he,Y⟩:=Array.any_eq_true'.1 this;simp only [zV,xC]at Y;exact absurd Y.2 (s e he Y.1)
   have h2:=qui hF (fun c=>y j oj c l) l (g j oj l d q s) (fun cs b=>t i p cs b hi) (fun cs b=>t j oj cs b l) hQ hy u;have m: ∀k ok,ops[k]?=some ok->k≠i->(listed.setIfInBounds j true).getD k true=false->
     (∀e∈ok.after,Region.binds md e=true->e.on≠i)->p.apart ops ok=true:=fun k ok hk ak ab am=>by
    refine g k ok hk ak ?_ am;by_cases aa:j=k
    ·subst aa;exact q
    ·rw [getD_set_ne true aa]at ab;exact ab
   refine wpOpIn_mono (fun a' w' h3=>⟨h3.2.1,ih (listed.setIfInBounds j true) a' w' m (ready_mono z (Ne.symm d)) h3.1 (h3.2.1 al) ?_⟩) h2;rw [Array.setIfInBounds_comm _ _ d];exact h3.2.2
def qlc (ops:Array Oper):Bool:=ops.all fun o=>match o.op with |.defer _=>false |_=>true
theorem quk {ops:Array Oper}(h:qlc ops=true)(j:Nat)(o:Oper)(c:Call)(b:ops[j]?=some o):o.op≠.defer c:=fun e=>by
 have:=Array.all_eq_true_iff_forall_mem.1 h o (Array.mem_of_getElem? b);rw [e]at this;cases this
theorem qk5 {i:Nat}{e:Oper}{v:Value}{d:Nat}{b:Array Bool}{a:Act}{w:World}(l: ∀f,F.fn f)(g:qlc ops=true)(hi:ops[i]?=some e)
  (x:Region.noSelect ops=true) (q:Region.free md ops b i=true) (u:(Region.ready md ops b).contains i=true) (t:qe6 md ops late i=true)
  (m: ∀c a w,Q (.panic c) (a.put e.dst v) w->Q (.panic c) a w) (p:S w) (y:YieldsIf P ops S e v a)
  (h:qb6 F n P md ops Q S late d (b.setIfInBounds i true) (a.put e.dst v) w):qb6 F n P md ops Q S late (d+1) b a w:=
 quj l (fun j o c s=>quk g j o c s) hi (Region.noSelect_spec x) m t d b a w (Region.free_spec hi q) (by simpa using u) y p h
theorem qf7 {i:Nat}{s:Oper}{g:Nat}{b:Array Bool}{a:Act}{w:World}(hi:ops[i]?=some s)(z:Region.ready md ops b= [i])
  (h: ∀K:Act->World->Prop,(∀a' w',(late.contains i=false->S w')->qb6 F n P md ops Q S late g (b.setIfInBounds i true) a' w'->K a' w')->wpListIn F n P ops (Exit.then K Q) [s] a w):
  qb6 F n P md ops Q S late (g+1) b a w:=by
 refine⟨fun t=>(by rw [z] at t;cases t),fun j v=>?_⟩;rw [z]at v;have q:j=i:=by simpa using v
 subst q;have c:=h (fun a' w'=>(late.contains j=false->S w')/\qb6 F n P md ops Q S late g (b.setIfInBounds j true) a' w') (fun a' w' x y=>⟨x,y⟩);unfold wpOpIn;rw [hi];unfold wpListIn at c;simp only at c⊢;split
 ·rename_i hw;rw [zI hw]at c;unfold Oper.wpIn at c⊢;refine⟨c.1,?_⟩;have c:=c.2;generalize (s.semAt F.round a.eval).run P w=r at c⊢;cases r with
  |ok x w'=>
   cases x<;>simp only [Oper.uponIn] at c⊢
   case value u=>exact c
   case skip=>exact c
   case defer d=>exact c
   case enter f args=>exact⟨c.1,CallsIn.mono c.2 fun e p m=>by cases e<;>exact m⟩
   case row row args=>exact⟨c.1,RowsIn.mono c.2 fun u p m=>m⟩
   case round l f tmps assign body=>exact⟨c.1,RoundIn.mono c.2 fun e p m=>by cases e<;>exact m⟩
  |halt x w'=>cases x<;>simp only [Oper.uponIn] at c⊢;exact c
 ·rename_i hw;rw [zF hw]at c;exact c
theorem qz {c:Nat}{b:Array Bool}{a:Act}{w:World}(d:Region.ready md ops b= [])(h:Q .normal a w):qb6 F n P md ops Q S late c b a w:=by
 cases c with
 |zero=>exact⟨d,h⟩
 |succ k=>exact⟨fun _=>h,fun i hi=>(by rw [d] at hi;cases hi)⟩
theorem qw {c:Nat}{a:Act}{w:World}(b:P.follows .mixedOrders=true)(S:World->Prop)(late:List Nat)
  (h:qb6 F n P .any ops Q S late ops.size (Array.replicate ops.size false) a w.drew):(Code.region c ops true).wpIn F n P Q a w:=
 wpIn_region_any b (qnb _ _ _ _ h)
def qtq (K:Act->World->Prop):Exit->Act->World->Prop
 |.normal,a,w=>K a w
 |_,_,_=>False
theorem qah {K:Act->World->Prop}{a:Act}{w:World}(h:K a w):qtq K .normal a w:=h
theorem qag {c:Code}{a:Act}{w:World}(h:c.wpIn F n P (qtq fun a w=>Q .normal a w) a w):c.wpIn F n P Q a w:=
 xq h fun e a w h=>by cases e<;>first |exact h |exact h.elim
end
end Go.Ink
