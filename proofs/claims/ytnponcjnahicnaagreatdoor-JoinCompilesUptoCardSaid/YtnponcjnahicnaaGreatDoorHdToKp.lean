/- Parts of the proof. -/
import Derived.Lib.Hide
import Derived.RangeFuncNested
import Derived.RangeFuncBound
import Derived.WalkKit
import Derived.OwnWalkIn
import Derived.TacticsInMore
import Derived.LoopNIn
import Derived.LoopIn
set_option linter.unusedSimpArgs false
set_option linter.unusedVariables false
namespace Go
theorem zA:type_of% @List.getElem?_eq_some_iff:=@List.getElem?_eq_some_iff
theorem zB:type_of% @List.getElem?_eq_getElem:=@List.getElem?_eq_getElem
theorem zD:type_of% @Nat.zero_add:=@Nat.zero_add
theorem zE:type_of% @Go.World.ownsRow.lt:=@Go.World.ownsRow.lt
theorem zF:type_of% @if_neg:=@if_neg
theorem zG:type_of% @Nat.le_refl:=@Nat.le_refl
theorem zH:type_of% @List.mem_of_getElem?:=@List.mem_of_getElem?
theorem zI:type_of% @if_pos:=@if_pos
theorem zJ:type_of% @List.getD_eq_getElem?_getD:=@List.getD_eq_getElem?_getD
theorem zL:type_of% @List.length_map:=@List.length_map
theorem zM:type_of% @decide_eq_false:=@decide_eq_false
theorem zO:type_of% @Go.World.size_alloc:=@Go.World.size_alloc
theorem zP:type_of% @List.getElem?_map:=@List.getElem?_map
theorem zQ:type_of% @Go.World.block_lt_of_cell?:=@Go.World.block_lt_of_cell?
theorem zR:type_of% @List.length_append:=@List.length_append
theorem zS:type_of% @decide_eq_true:=@decide_eq_true
theorem zT:type_of% @decide_eq_true_eq:=@decide_eq_true_eq
theorem zU:type_of% @Go.callsIn_wide:=@Go.callsIn_wide
theorem zV:type_of% @Bool.and_eq_true:=@Bool.and_eq_true
theorem zW:type_of% @Nat.le_trans:=@Nat.le_trans
theorem zZ:type_of% @Go.Oper.semAt_some:=@Go.Oper.semAt_some
theorem zg:type_of% @Go.Lib.hid:=@Go.Lib.hid
theorem zh:type_of% @List.take_add_one:=@List.take_add_one
theorem zi:type_of% @List.take_length:=@List.take_length
theorem zj:type_of% @Go.World.ownsRow_nil:=@Go.World.ownsRow_nil
theorem zk:type_of% @Nat.lt_of_lt_of_le:=@Nat.lt_of_lt_of_le
theorem zl:type_of% @List.mem_singleton:=@List.mem_singleton
theorem zm:type_of% @List.map_append:=@List.map_append
theorem zn:type_of% @List.mem_append:=@List.mem_append
theorem zr:type_of% @List.drop_eq_getElem_cons:=@List.drop_eq_getElem_cons
theorem zt:type_of% @List.mem_cons:=@List.mem_cons
theorem zw:type_of% @List.mem_iff_getElem?:=@List.mem_iff_getElem?
theorem zy:type_of% @Bool.false_eq_true:=@Bool.false_eq_true
theorem zz:type_of% @Go.bodyPost_ret:=@Go.bodyPost_ret
theorem yA:type_of% @Nat.mul_one:=@Nat.mul_one
theorem yB:type_of% @List.length_take:=@List.length_take
theorem yC:type_of% @List.mem_cons_of_mem:=@List.mem_cons_of_mem
theorem yD:type_of% @of_decide_eq_true:=@of_decide_eq_true
theorem yE:type_of% @List.flatMap_cons:=@List.flatMap_cons
theorem yF:type_of% @List.flatMap_append:=@List.flatMap_append
theorem yG:type_of% @List.getElem?_append_right:=@List.getElem?_append_right
theorem yH:type_of% @Option.some.inj:=@Option.some.inj
theorem yI:type_of% @List.mem_cons_self:=@List.mem_cons_self
theorem yJ:type_of% @List.setIfInBounds_toArray:=@List.setIfInBounds_toArray
theorem yK:type_of% @List.mem_map:=@List.mem_map
theorem yL:type_of% @List.all_eq_true:=@List.all_eq_true
theorem yM:type_of% @congrArg:=@congrArg
theorem yN:type_of% @Bool.and_false:=@Bool.and_false
theorem yO:type_of% @List.append_nil:=@List.append_nil
theorem yP:type_of% @decide_eq_false_iff_not:=@decide_eq_false_iff_not
theorem yQ:type_of% @List.getElem?_append_left:=@List.getElem?_append_left
theorem yR:type_of% @List.not_mem_nil:=@List.not_mem_nil
theorem yS:type_of% @List.filter_append:=@List.filter_append
theorem yT:type_of% @Bool.true_and:=@Bool.true_and
theorem yU:type_of% @List.mem_filter:=@List.mem_filter
theorem yV:type_of% @Nat.mul_le_mul_right:=@Nat.mul_le_mul_right
theorem yW:type_of% @List.map_cons:=@List.map_cons
theorem yX:type_of% @Nat.lt_or_ge:=@Nat.lt_or_ge
theorem yY:type_of% @Bool.false_and:=@Bool.false_and
theorem yZ:type_of% @beq_eq_false_iff_ne:=@beq_eq_false_iff_ne
theorem y8:type_of% @Bool.or_eq_true:=@Bool.or_eq_true
theorem y9:type_of% @List.idxOf_lt_length_of_mem:=@List.idxOf_lt_length_of_mem
theorem ya:type_of% @Nat.zero_le:=@Nat.zero_le
theorem yb:type_of% @Option.some.injEq:=@Option.some.injEq
theorem yc:type_of% @Nat.mul_assoc:=@Nat.mul_assoc
theorem yd:type_of% @List.length_filter_le:=@List.length_filter_le
theorem ye:type_of% @List.filter_cons:=@List.filter_cons
theorem yf:type_of% @or_false:=@or_false
theorem yg:type_of% @if_true:=@if_true
theorem yh:type_of% @List.mem_range:=@List.mem_range
theorem yi:type_of% @decide_eq_decide:=@decide_eq_decide
theorem yj:type_of% @Go.World.cell?_of_block:=@Go.World.cell?_of_block
theorem yk:type_of% @List.foldl_append:=@List.foldl_append
theorem yl:type_of% @Go.run_underlying:=@Go.run_underlying
theorem ym:type_of% @List.find?_eq_none:=@List.find?_eq_none
theorem yn:type_of% @List.eq_nil_of_length_eq_zero:=@List.eq_nil_of_length_eq_zero
theorem yo:type_of% @Nat.pow_add:=@Nat.pow_add
theorem yp:type_of% @Go.Sem.run_bind:=@Go.Sem.run_bind
theorem yq:type_of% @List.append_assoc:=@List.append_assoc
theorem yr:type_of% @Go.results_none:=@Go.results_none
theorem yt:type_of% @Bool.eq_iff_iff:=@Bool.eq_iff_iff
theorem yu:type_of% @List.take_append_drop:=@List.take_append_drop
theorem yw:type_of% @List.take_of_length_le:=@List.take_of_length_le
theorem yx:type_of% @if_false:=@if_false
theorem yy:type_of% @Go.World.putObj_heap_same:=@Go.World.putObj_heap_same
theorem yz:type_of% @List.map_congr_left:=@List.map_congr_left
theorem xA:type_of% @List.getElem?_eq_none:=@List.getElem?_eq_none
theorem xB:type_of% @beq_iff_eq:=@beq_iff_eq
theorem xC:type_of% @List.mem_flatMap:=@List.mem_flatMap
theorem xD:type_of% @List.getElem_mem:=@List.getElem_mem
theorem xE:type_of% @Bool.or_eq_false_iff:=@Bool.or_eq_false_iff
theorem xF:type_of% @Nat.add_assoc:=@Nat.add_assoc
theorem xG:type_of% @Bool.false_or:=@Bool.false_or
theorem xH:type_of% @Nat.add_mul:=@Nat.add_mul
theorem xI:type_of% @Bool.not_eq_true':=@Bool.not_eq_true'
theorem xJ:type_of% @Bool.and_true:=@Bool.and_true
theorem xK:type_of% @Nat.mul_comm:=@Nat.mul_comm
theorem xL:type_of% @Go.RowKit.Below.heap_alloc:=@Go.RowKit.Below.heap_alloc
theorem xM:type_of% @Go.World.alloc_heap_new:=@Go.World.alloc_heap_new
theorem xN:type_of% @Option.map_eq_some_iff:=@Option.map_eq_some_iff
theorem xO:type_of% @List.getElem?_take_of_lt:=@List.getElem?_take_of_lt
theorem xP:type_of% @Nat.min_eq_left:=@Nat.min_eq_left
theorem xQ:type_of% @Array.getElem?_eq_getElem:=@Array.getElem?_eq_getElem
theorem xR:type_of% @List.nodup_cons:=@List.nodup_cons
theorem xS:type_of% @of_decide_eq_false:=@of_decide_eq_false
theorem xT:type_of% @List.getElem?_replicate:=@List.getElem?_replicate
theorem xU:type_of% @List.filter_cons_of_pos:=@List.filter_cons_of_pos
theorem xV:type_of% @List.nodup_append:=@List.nodup_append
theorem xW:type_of% @List.ext_getElem?:=@List.ext_getElem?
theorem xX:type_of% @Nat.sub_self:=@Nat.sub_self
theorem xY:type_of% @List.any_eq_false:=@List.any_eq_false
theorem xZ:type_of% @Go.results_tmp2:=@Go.results_tmp2
theorem xa:type_of% @List.mem_of_find?_eq_some:=@List.mem_of_find?_eq_some
theorem xc:type_of% @Go.wpIn_wide:=@Go.wpIn_wide
theorem xd:type_of% @List.mem_append_left:=@List.mem_append_left
theorem xe:type_of% @Go.World.ownsRow_made:=@Go.World.ownsRow_made
theorem xf:type_of% @List.filter_cons_of_neg:=@List.filter_cons_of_neg
theorem xg:type_of% @Array.getElem?_toList:=@Array.getElem?_toList
theorem xi:type_of% @List.map_nil:=@List.map_nil
theorem xj:type_of% @List.mem_of_mem_take:=@List.mem_of_mem_take
theorem xk:type_of% @List.drop_eq_nil_of_le:=@List.drop_eq_nil_of_le
theorem xm:type_of% @Go.results_tmp:=@Go.results_tmp
theorem xn:type_of% @List.flatMap_nil:=@List.flatMap_nil
theorem xo:type_of% @List.drop_length:=@List.drop_length
theorem xp:type_of% @List.length_set:=@List.length_set
theorem xq:type_of% @Go.wpIn_mono:=@Go.wpIn_mono
theorem xr:type_of% @List.getElem?_range:=@List.getElem?_range
theorem xt:type_of% @Bool.not_eq_true:=@Bool.not_eq_true
theorem xu:type_of% @List.length_drop:=@List.length_drop
theorem xv:type_of% @List.getElem?_inj:=@List.getElem?_inj
theorem xw:type_of% @List.range_succ:=@List.range_succ
theorem xx:type_of% @Go.bodyPost_end:=@Go.bodyPost_end
theorem xy:type_of% @funext:=@funext
theorem wE:True:=⟨⟩
theorem xz{p:Prop}(h:p:=by omega):p:=h
theorem wA{p:Prop}(h:p:=by kernel_rfl):p:=h
theorem wB{p:Prop}(h:p:=by simp):p:=h
theorem wC{p:Prop}(h:p:=by decide):p:=h
end Go
open List(append_toArray push_toArray)
namespace Go.RowKit
theorem Hid.o {p:Prop}(h:Hid p):p:=h
end Go.RowKit
namespace Go.Ink
section
variable {A B C D E F G H I J K L M N O P Z : Prop}
theorem hd1 (k:RowKit.Hid A->Z)(a':A):Z:=k a'
theorem hd2 (k:RowKit.Hid A->RowKit.Hid B->Z)(a':A)(b:B):Z:=k a' b
theorem hd3 (k:RowKit.Hid A->RowKit.Hid B->RowKit.Hid C->Z)(a':A)(b:B)(c:C):Z:=k a' b c
theorem hd4 (k:RowKit.Hid A->RowKit.Hid B->RowKit.Hid C->RowKit.Hid D->Z)(a':A)(b:B)(c:C)(d:D):Z:=k a' b c d
theorem hd5 (k:RowKit.Hid A->RowKit.Hid B->RowKit.Hid C->RowKit.Hid D->RowKit.Hid E->Z)(a':A)(b:B)(c:C)(d:D)(e:E):Z:=k a' b c d e
theorem hd6 (k:RowKit.Hid A->RowKit.Hid B->RowKit.Hid C->RowKit.Hid D->RowKit.Hid E->RowKit.Hid F->Z)(a':A)(b:B)(c:C)(d:D)(e:E)(f:F):Z:=k a' b c d e f
theorem hd7 (k:RowKit.Hid A->RowKit.Hid B->RowKit.Hid C->RowKit.Hid D->RowKit.Hid E->RowKit.Hid F->RowKit.Hid G->Z)(a':A)(b:B)(c:C)(d:D)(e:E)(f:F)(g:G):Z:=k a' b c d e f g
theorem hd8 (k:RowKit.Hid A->RowKit.Hid B->RowKit.Hid C->RowKit.Hid D->RowKit.Hid E->RowKit.Hid F->RowKit.Hid G->RowKit.Hid H->Z)(a':A)(b:B)(c:C)(d:D)(e:E)(f:F)(g:G)(h:H):Z:=k a' b c d e f g h
theorem hd9 (k:RowKit.Hid A->RowKit.Hid B->RowKit.Hid C->RowKit.Hid D->RowKit.Hid E->RowKit.Hid F->RowKit.Hid G->RowKit.Hid H->RowKit.Hid I->Z)(a':A)(b:B)(c:C)(d:D)(e:E)(f:F)(g:G)(h:H)(i:I):Z:=k a' b c d e f g h i
theorem qc9 (k:RowKit.Hid A->RowKit.Hid B->RowKit.Hid C->RowKit.Hid D->RowKit.Hid E->RowKit.Hid F->RowKit.Hid G->RowKit.Hid H->RowKit.Hid I->RowKit.Hid J->Z)(a':A)(b:B)(c:C)(d:D)(e:E)(f:F)(g:G)(h:H)(i:I)(j:J):Z:=k a' b c d e f g h i j
theorem qg5 (k:RowKit.Hid A->RowKit.Hid B->RowKit.Hid C->RowKit.Hid D->RowKit.Hid E->RowKit.Hid F->RowKit.Hid G->RowKit.Hid H->RowKit.Hid I->RowKit.Hid J->RowKit.Hid K->Z)(a':A)(b:B)(c:C)(d:D)(e:E)(f:F)(g:G)(h:H)(i:I)(j:J)(l:K):Z:=k a' b c d e f g h i j l
theorem qho (k:RowKit.Hid A->RowKit.Hid B->RowKit.Hid C->RowKit.Hid D->RowKit.Hid E->RowKit.Hid F->RowKit.Hid G->RowKit.Hid H->RowKit.Hid I->RowKit.Hid J->RowKit.Hid K->RowKit.Hid L->Z)(a':A)(b:B)(c:C)(d:D)(e:E)(f:F)(g:G)(h:H)(i:I)(j:J)(l:K)(m:L):Z:=k a' b c d e f g h i j l m
theorem qsd (k:RowKit.Hid A->RowKit.Hid B->RowKit.Hid C->RowKit.Hid D->RowKit.Hid E->RowKit.Hid F->RowKit.Hid G->RowKit.Hid H->RowKit.Hid I->RowKit.Hid J->RowKit.Hid K->RowKit.Hid L->RowKit.Hid M->Z)(a':A)(b:B)(c:C)(d:D)(e:E)(f:F)(g:G)(h:H)(i:I)(j:J)(l:K)(m:L)(p:M):Z:=k a' b c d e f g h i j l m p
theorem ql3 (k:RowKit.Hid A->RowKit.Hid B->RowKit.Hid C->RowKit.Hid D->RowKit.Hid E->RowKit.Hid F->RowKit.Hid G->RowKit.Hid H->RowKit.Hid I->RowKit.Hid J->RowKit.Hid K->RowKit.Hid L->RowKit.Hid M->RowKit.Hid N->Z)(a':A)(b:B)(c:C)(d:D)(e:E)(f:F)(g:G)(h:H)(i:I)(j:J)(l:K)(m:L)(p:M)(q:N):Z:=k a' b c d e f g h i j l m p q
theorem q1q (k:RowKit.Hid A->RowKit.Hid B->RowKit.Hid C->RowKit.Hid D->RowKit.Hid E->RowKit.Hid F->RowKit.Hid G->RowKit.Hid H->RowKit.Hid I->RowKit.Hid J->RowKit.Hid K->RowKit.Hid L->RowKit.Hid M->RowKit.Hid N->RowKit.Hid O->Z)(a':A)(b:B)(c:C)(d:D)(e:E)(f:F)(g:G)(h:H)(i:I)(j:J)(l:K)(m:L)(p:M)(q:N)(o':O):Z:=k a' b c d e f g h i j l m p q o'
theorem qde (k:RowKit.Hid A->RowKit.Hid B->RowKit.Hid C->RowKit.Hid D->RowKit.Hid E->RowKit.Hid F->RowKit.Hid G->RowKit.Hid H->RowKit.Hid I->RowKit.Hid J->RowKit.Hid K->RowKit.Hid L->RowKit.Hid M->RowKit.Hid N->RowKit.Hid O->RowKit.Hid P->Z)(a':A)(b:B)(c:C)(d:D)(e:E)(f:F)(g:G)(h:H)(i:I)(j:J)(l:K)(m:L)(p:M)(q:N)(o':O)(r:P):Z:=k a' b c d e f g h i j l m p q o' r
end
theorem qdm:(∀(α:Type) (l:List α),l.toArray.size=l.length)/\(∀(α:Type) (l:List α) (a:α),(a::l).length=l.length+1)/\(∀(α:Type),([]:List α).length=0)/\(∀(α:Type) (n:Nat) (a:α),Array.replicate (n+1) a=(Array.replicate n a).push a)/\(∀(α:Type) (a:α),Array.replicate 0 a= #[])/\
  (∀(α:Type) (l:List α) (a:α),l.toArray.push a=(l++ [a]).toArray)/\(∀(α:Type) (l m:List α),l.toArray++m.toArray=(l++m).toArray)/\(∀(α:Type) (l:List α),[]++l=l)/\(∀(α:Type) (a:α) (l m:List α),(a::l)++m=a::(l++m)):=
 ⟨fun _ _=>rfl,fun _ _ _=>rfl,fun _=>rfl,fun _ _ _=>Array.replicate_succ,fun _ _=>rfl,fun _ _ _=>push_toArray ..,fun _ _ _=>append_toArray ..,fun _ _=>rfl,fun _ _ _ _=>rfl⟩
theorem ex {α:Type}(e:α): ∃x,e=x:=⟨_,rfl⟩
end Go.Ink
namespace Go.Ink
open Go.RowKit
structure Keep (C:Nat->Prop)(w w':World):Prop where
 os:w'.os=w.os
 tape:w'.tape=w.tape
 output:w'.output=w.output
 size:w.heap.size<=w'.heap.size
 block: ∀k,k<w.heap.size->C k->w'.heap[k]?=w.heap[k]?
abbrev wD:=Keep fun _=>True
theorem Keep.refl (C:Nat->Prop)(w:World):Keep C w w:=⟨rfl,rfl,rfl,zG _,fun _ _ _=>rfl⟩
theorem Keep.trans {C:Nat->Prop}{a b c:World}(h:Keep C a b)(k:Keep C b c):Keep C a c:=
 ⟨k.os.trans h.os,k.tape.trans h.tape,k.output.trans h.output,zW h.size k.size,
  fun i hi d=>(k.block i (zk hi h.size) d).trans (h.block i hi d)⟩
theorem Keep.mono {C C':Nat->Prop}{w w':World}(h:Keep C w w')(c: ∀k,k<w.heap.size->C' k->C k):Keep C' w w':=
 ⟨h.os,h.tape,h.output,h.size,fun k b d=>h.block k b (c k b d)⟩
theorem Keep.mt{C:Nat->Prop}{w w':World}(h:wD w w'):Keep C w w':=h.mono fun _ _ _=>trivial
theorem Keep.below {B:Nat}{w w':World}(h:Keep (fun k=>k<B) w w')(c:B<=w.heap.size):Below B w w':=
 ⟨h.os,h.tape,h.output,h.size,fun k b=>h.block k xz b⟩
theorem Keep.of_grown {w w':World}{row:Option Nat}(h:w.grownBy w' row):Keep (fun k=>some k≠row) w w':=
 ⟨h.os,h.tape,h.output,h.size,fun k c b=>h.block k c b⟩
theorem Keep.drew (C:Nat->Prop)(w:World):Keep C w w.drew:=⟨rfl,rfl,rfl,zG _,fun _ _ _=>rfl⟩
theorem Keep.alloc (C:Nat->Prop)(w:World)(o:Obj):Keep C w (w.alloc o):=
 ⟨rfl,rfl,rfl,wB,fun k b _=>xL w o k b⟩
theorem Keep.setCell {C:Nat->Prop}(w:World)(p:Addr)(u:Value)(c: ¬C p.block):Keep C w (w.setCell p u):=
 ⟨rfl,rfl,rfl,by simp [World.setCell],fun k d b=>Below.heap_setCell _ _ _ _ (fun e=>c (e▸b))⟩
theorem Keep.putObj {C:Nat->Prop}(w:World)(l:Nat)(o:Obj)(c: ¬C l):Keep C w (w.putObj l o):=
 ⟨rfl,rfl,rfl,wB,fun k d b=>World.putObj_heap_other (fun e=>c (e▸b))⟩
theorem Keep.heap {C:Nat->Prop}{w w':World}(h:Keep C w w'){k:Nat}{o:Obj}(b:w.heap[k]?=some o)(c:C k):w'.heap[k]?=some o:=
 (h.block k (Array.getElem?_eq_some_iff.1 b).1 c).trans b
theorem Keep.cell {C:Nat->Prop}{w w':World}(h:Keep C w w'){a:Addr}{v:Value}(b:w.cell? a=some v)(c:C a.block):w'.cell? a=some v:=
 (yj (h.block a.block (zQ w a b) c)).trans b
theorem qe {w:World}{k:Nat}{o:Obj}(h:w.heap[k]?=some o):k<w.heap.size:=(Array.getElem?_eq_some_iff.1 h).1
abbrev inR (l:Nat):Fence:=Fence.wide.inRound l
def qse (S:Nat)(V:World->Prop)(J Jx:Nat->(Nat->Prop)->World->Prop)(k:Nat)(O:Nat->Prop)(X:World)(e:Ending)(Y:World):Prop:=
 ∃O':Nat->Prop,(∀b,O b->O' b)/\(∀b,O' b->O b∨(X.heap.size<=b/\b<Y.heap.size))/\Keep (fun b=>S<=b/\ ¬O b) X Y/\V Y/\
  ((e=.returned (.bool true)/\J (k+1) O' Y)∨(e=.returned (.bool false)/\Jx k O' Y))
def qwl (P:Program)(g:Nat)(lb:Array Value)(encs:Nat->Array Value)(N:Nat)(V:World->Prop)(T:Nat->Prop):Prop:=
 ∀(l:Nat) (J Jx:Nat->(Nat->Prop)->World->Prop) (O0:Nat->Prop) (W:World),l<W.heap.size->(∀b,O0 b->b<W.heap.size)->V W->
  (∀k O X Y,J k O X->Keep (fun b=>(b<W.heap.size/\ ¬T b)∨O b) X Y->J k O Y)->
  (∀k O X Y,Jx k O X->Keep (fun b=>(b<W.heap.size/\ ¬T b)∨O b) X Y->Jx k O Y)->
  (∀k O X,k<N->J k O X->V X->W.heap.size<=X.heap.size->YieldAt Fence.wide 0 P l (encs k) X (qse W.heap.size V J Jx k O X))->
  J 0 O0 W->
  Calls P g (#[.func (.yield l) #[] #[]]++lb) W fun e W'=>(∃v,e=.returned v)/\W.heap.size<=W'.heap.size/\V W'/\
   ∃O':Nat->Prop,(J N O' W'∨ ∃k,k<N/\Jx k O' W')
def qd3 (B n:Nat)(V:World->Prop)(O:Nat->Prop)(Y0 Y:World)(R:(Nat->Prop)->Prop):Prop:=
 ∃O':Nat->Prop,(∀b,O b->O' b)/\(∀b,O' b->O b∨(n<=b/\b<Y.heap.size))/\Keep (fun b=>B<=b/\b<n/\ ¬O b) Y0 Y/\V Y/\R O'
def q5x (B n:Nat)(V:World->Prop)(I:Nat->(Nat->Prop)->World->Prop)(Ix:Code->Nat->(Nat->Prop)->World->Prop)(k:Nat)(O:Nat->Prop)(Y0:World):Exit->Act->World->Prop
 |.normal,_,Y=>qd3 B n V O Y0 Y fun O'=>I (k+1) O' Y
 |.ret,_,Y=>qd3 B n V O Y0 Y fun O'=>Ix .ret k O' Y
 |.exit id,_,Y=>qd3 B n V O Y0 Y fun O'=>Ix (.exit id) k O' Y
 |.goto t,_,Y=>qd3 B n V O Y0 Y fun O'=>Ix (.goto t) k O' Y
 |.panic _,_,_=>False
 |.outgrown,_,_=>False
def qsf (P:Program)(l B:Nat)(body:Code)(V:World->Prop)(I:Nat->(Nat->Prop)->World->Prop)(Ix:Code->Nat->(Nat->Prop)->World->Prop)(k:Nat)(O:Nat->Prop)(X:World)(a₁:Act)(X₁:World):Prop:=
 Keep (fun b=>b<X.heap.size) X X₁/\
  ∀Y,Keep (fun b=>b≠l) X₁ Y->Y.heap.size=X₁.heap.size->(∃r,Y.heap[l]?=some (.loop r))->body.wpIn (inR l) 0 P (q5x B X.heap.size V I Ix k O Y) a₁ Y
theorem q1r {P:Program}{fn:FuncId}{l B S:Nat}{rec:LoopState->Option Code->Loop}{tmps0:Array Value}{ps:Array Tmp}{assign body:Code}{df:Nat}
  (j:rec=fun st pe=>{state:=st,pending:=pe,fn:=fn,tmps:=tmps0,params:=ps,assign:=assign,body:=body,defers:=df})
  (hlB:B<=l) (hS:B<=S) (hlS:l<S) {encs:Nat->Array Value} (hps: ∀k,(encs k).size=ps.size) {V:World->Prop} {T:Nat->Prop} (hTl: ¬T l) (hVst: ∀X Y,V X->Keep (fun b=>b<B) X Y->V Y)
  {I:Nat->(Nat->Prop)->World->Prop} {Ix:Code->Nat->(Nat->Prop)->World->Prop}
  (hI: ∀k O X Y,I k O X->Keep (fun b=>(b<S/\ ¬T b/\b≠l)∨O b) X Y->I k O Y) (hIx: ∀c k O X Y,Ix c k O X->Keep (fun b=>(b<S/\ ¬T b/\b≠l)∨O b) X Y->Ix c k O Y)
  (X:World) (k:Nat) (O:Nat->Prop) (hOl: ¬O l) (hi:I k O X) (hl:X.heap[l]?=some (.loop (rec .ready none)))
  (hround:assign.wpIn (inR l) 0 P (Exit.then (qsf P l B body V I Ix k O X) (fun _ _ _=>False)) {tmps:=(ps.zip (encs k)).foldl (fun t (p,v)=>t.setIfInBounds p v) tmps0,defers:= []} X):
  YieldAt Fence.wide 0 P l (encs k) X (qse S V
   (fun k O W=>I k O W/\ ¬O l/\W.heap[l]?=some (.loop (rec .ready none)))
   (fun k O W=> ∃c,Ix c k O W/\ ¬O l/\W.heap[l]?=some (.loop (rec .done (some c)))) k O X):=by
 have hy:=run_yield (P:=P) (args:=encs k) hl (by rw [j];exact hps k);rw [j]at hy;have U:=qe hl;refine⟨fn,_,assign,body,hy,roundIn_of_wpIn (F:=Fence.wide) trivial (xq hround ?_)⟩;intro e a₁ X₁ he;cases e with
 |normal=>
  obtain⟨ah,hb⟩:=he;have z:X₁.heap[l]?=some (.loop (rec .ready none)):=ah.heap hl U;refine⟨_,run_beginRound z (by rw [j]),?_⟩;have ad:(X₁.putObj l (.loop {rec .ready none with state:=.busy})).heap[l]?=some (.loop {rec .ready none with state:=.busy}):=yy (qe z);have ab:Keep (fun b=>b≠l) X₁ (X₁.putObj l (.loop {rec .ready none with state:=.busy})):=Keep.putObj _ _ _ wB;refine xq (hb _ ab wB ⟨_,ad⟩) ?_;generalize hY0:X₁.putObj l (.loop {rec .ready none with state:=.busy})=Y0 at ad ab;clear hY0 hb;have r: ∀(d:Option Code) (Y:World) (R:(Nat->Prop)->Prop),qd3 B X.heap.size V O Y0 Y R->
    ∃m,(Instr.endRound l d).run P Y=.ok (.bool d.isNone) m/\m.heap[l]?=some (.loop (rec (if d.isNone then .ready else .done) d))/\Keep (fun b=>b≠l) Y m/\
    ∃O':Nat->Prop,(∀b,O b->O' b)/\(∀b,O' b->O b∨(X.heap.size<=b/\b<m.heap.size))/\Keep (fun b=>S<=b/\ ¬O b) X m/\V m/\ ¬O' l/\R O':=by
   rintro d Y R ⟨O',s,f,hK,x,u⟩;have ai:Y.heap[l]?=some (.loop {rec .ready none with state:=.busy}):=hK.heap ad ⟨hlB,U,hOl⟩;have:=run_endRound (P:=P) d ai;refine⟨_,this,?_,Keep.putObj _ _ _ wB,O',s,by simpa using f,?_,?_,?_,u⟩
   ·rw [yy (qe ai)];subst j;rfl
   ·have h1:Keep (fun b=>(S<=b/\ ¬O b)/\b<X.heap.size) X X₁:=ah.mono (fun _ h _=>h);have h2:Keep (fun b=>(S<=b/\ ¬O b)/\b<X.heap.size) X₁ Y0:=ab.mono (fun b _ h e=>by have:=h.1.1;omega);have h3:Keep (fun b=>(S<=b/\ ¬O b)/\b<X.heap.size) Y0 Y:=hK.mono (fun b _ h=>⟨by have:=h.1.1;omega,h.2,h.1.2⟩);have h4:Keep (fun b=>(S<=b/\ ¬O b)/\b<X.heap.size) Y (Y.putObj l (.loop {({rec .ready none with state:=.busy}:Loop) with state:=if d.isNone then .ready else .done,pending:=d})):=Keep.putObj _ _ _ (fun h=>by have:=h.1.1;omega);exact(((h1.trans h2).trans h3).trans h4).mono (fun b hb h=>⟨h,hb⟩)
   ·exact hVst _ _ x (Keep.putObj _ _ _ (by simp;omega))
   ·intro h;rcases f l h with h |h
    ·exact hOl h
    ·omega
  have y: ∀{O':Nat->Prop} {Y m:World},¬O' l->Keep (fun b=>b≠l) Y m->Keep (fun b=>(b<S/\ ¬T b/\b≠l)∨O' b) Y m:=fun q hK=>hK.mono (fun b _ h=>by
   rcases h with h |h
   ·exact h.2.2
   ·intro e;subst e;exact q h)
  rintro e a3 Y hp;cases e with
  |normal=>
   obtain⟨m,hr,i,g,O',s,f,hK,x,q,u⟩:=r none Y _ hp;exact⟨_,_,hr,O',s,f,hK,x,.inl ⟨rfl,hI _ _ _ _ u (y q g),q,i⟩⟩
  |ret=>
   obtain⟨m,hr,i,g,O',s,f,hK,x,q,u⟩:=r (some .ret) Y _ hp;exact⟨_,_,hr,O',s,f,hK,x,.inr ⟨rfl,.ret,hIx _ _ _ _ _ u (y q g),q,i⟩⟩
  |exit id=>
   obtain⟨m,hr,i,g,O',s,f,hK,x,q,u⟩:=r (some (.exit id)) Y _ hp;exact⟨_,_,hr,O',s,f,hK,x,.inr ⟨rfl,.exit id,hIx _ _ _ _ _ u (y q g),q,i⟩⟩
  |goto t=>
   obtain⟨m,hr,i,g,O',s,f,hK,x,q,u⟩:=r (some (.goto t)) Y _ hp;exact⟨_,_,hr,O',s,f,hK,x,.inr ⟨rfl,.goto t,hIx _ _ _ _ _ u (y q g),q,i⟩⟩
  |panic ch=>exact hp.elim
  |outgrown=>exact hp.elim
 |ret=>exact he.elim
 |exit id=>exact he.elim
 |goto t=>exact he.elim
 |panic c=>exact he.elim
 |outgrown=>exact he.elim
theorem qwm {P:Program}{F:Fence}(y:F=Fence.wide∨ ∃l0,F=inR l0){g:Operand}{ps:Array Tmp}{assign body:Code}{Q:Exit->Act->World->Prop}{a:Act}{w:World}
  {gf:Nat} {lb:Array Value} (hg:a.eval g=.func (.func gf) #[] lb) (eg: ∀args w,(callFunc gf args).run P w=.ok (.enter gf args) w)
  {d:Nat->Array Value} {N:Nat} {V:World->Prop} {T:Nat->Prop} (ab:qwl P gf lb d N V T) (ag: ∀k,(d k).size=ps.size)
  {l df:Nat} {mark:List Deferred} {W1:World}
  (j: ∀fn,∃W1',(Instr.enterLoop fn a.tmps ps assign body F.round).run P w=.ok (l,mark) W1'/\wD w W1'/\W1'.heap.size=W1.heap.size/\
    W1'.heap[l]?=some (.loop {state:=.ready,pending:=none,fn:=fn,tmps:=a.tmps,params:=ps,assign:=assign,body:=body,defers:=df})/\Keep (fun b=>b≠l) W1 W1')
  (hl:w.heap.size<=l) (hl1:l<W1.heap.size) (hTb: ∀b,T b->b<w.heap.size) (hV0:V w) (hVst: ∀X Y,V X->Keep (fun b=>b<w.heap.size) X Y->V Y)
  (I:Nat->(Nat->Prop)->World->Prop) (Ix:Code->Nat->(Nat->Prop)->World->Prop)
  (hI: ∀k O X Y,I k O X->Keep (fun b=>(b<W1.heap.size/\ ¬T b/\b≠l)∨O b) X Y->I k O Y) (hIx: ∀c k O X Y,Ix c k O X->Keep (fun b=>(b<W1.heap.size/\ ¬T b/\b≠l)∨O b) X Y->Ix c k O Y)
  (h0:I 0 (fun _=>False) W1)
  (hround: ∀k O X,k<N->I k O X->V X->W1.heap.size<=X.heap.size-> ¬O l->assign.wpIn (inR l) 0 P (Exit.then (qsf P l w.heap.size body V I Ix k O X) (fun _ _ _=>False)) {tmps:=(ps.zip (d k)).foldl (fun t (p,v)=>t.setIfInBounds p v) a.tmps,defers:= []} X)
  (hdone: ∀O W,I N O W->V W->W1.heap.size<=W.heap.size->Q .normal {a with defers:=mark++a.defers} W)
  (hstop: ∀c k O W,k<N->Ix c k O W->V W->W1.heap.size<=W.heap.size->c.wpIn F 0 P Q {a with defers:=mark++a.defers} W):
  (Code.rangeFunc g ps assign body).wpIn F 0 P Q a w:=by
 have R:F.depth=none:=by rcases y with rfl |⟨l0,rfl⟩<;>rfl
 have U: ∀f,F.fn f:=by rcases y with rfl |⟨l0,rfl⟩<;>(intro f;trivial)
 refine wpIn_rangeFunc ?_;intro fn _;obtain⟨W1',he,ae,m,u,af⟩:=j fn;refine⟨l,mark,W1',{target:=.fn (.func gf) lb,args:= #[.func (.yield l) #[] #[]]},W1',gf,#[.func (.yield l) #[] #[]]++lb,W1',he,?_,fun f' _=>U f',?_,fun h=>by simp [R] at h,?_⟩
 ·simp only [resolve,hg];simp [go_sem]
 ·simp [invoke,go_sem,eg]
 ·have i:=ab l
   (fun k O W=>I k O W/\ ¬O l/\W.heap[l]?=some (.loop {state:=.ready,pending:=none,fn:=fn,tmps:=a.tmps,params:=ps,assign:=assign,body:=body,defers:=df}))
   (fun k O W=> ∃c,Ix c k O W/\ ¬O l/\W.heap[l]?=some (.loop {state:=.done,pending:=some c,fn:=fn,tmps:=a.tmps,params:=ps,assign:=assign,body:=body,defers:=df}))
   (fun _=>False) W1' xz (fun b h=>h.elim) (hVst _ _ hV0 (ae.mono (fun _ _ _=>wE)))
   (fun k O X Y h hK=>⟨hI k O X Y h.1 (hK.mono (fun b _ q=>q.imp (fun h=>⟨m▸h.1,h.2.1⟩) id)),h.2.1,hK.heap h.2.2 (.inl ⟨xz,fun h=>by have:=hTb _ h;omega⟩)⟩)
   (fun k O X Y h hK=>by
    obtain⟨c,hc,x,s⟩:=h;exact⟨c,hIx c k O X Y hc (hK.mono (fun b _ q=>q.imp (fun h=>⟨m▸h.1,h.2.1⟩) id)),x,hK.heap s (.inl ⟨xz,fun h=>by have:=hTb _ h;omega⟩)⟩)
   (fun k O X hk h hV hs=>q1r (rec:=fun st pe=>{state:=st,pending:=pe,fn:=fn,tmps:=a.tmps,params:=ps,assign:=assign,body:=body,defers:=df}) rfl (B:=w.heap.size) hl xz xz ag (T:=T) (fun h=>by have:=hTb _ h;omega) hVst
    (fun k O X Y h hK=>hI k O X Y h (hK.mono (fun b _ q=>q.imp (fun h=>⟨m▸h.1,h.2⟩) id))) (fun c k O X Y h hK=>hIx c k O X Y h (hK.mono (fun b _ q=>q.imp (fun h=>⟨m▸h.1,h.2⟩) id)))
    X k O h.2.1 h.1 h.2.2 (hround k O X hk h.1 hV xz h.2.1))
   ⟨hI _ _ _ _ h0 (af.mono (fun b _ h=>h.elim (fun h=>h.2.2) False.elim)),fun h=>h,u⟩
  have z:CallsIn F (0-1) P gf (#[.func (.yield l) #[] #[]]++lb) W1' (rangePost F 0 P l Q {a with defers:=mark++a.defers}):=by
   have aa:Calls P gf (#[.func (.yield l) #[] #[]]++lb) W1' (rangePost F 0 P l Q {a with defers:=mark++a.defers}):=by
    refine i.mono ?_;rintro e W2 ⟨⟨v,rfl⟩,ap,r,O',hJ |⟨k,hk,c,hx,x,s⟩⟩
    ·obtain⟨hi,x,s⟩:=hJ;refine⟨none,_,run_endLoop (P:=P) s wB,hdone O' _ (hI _ _ _ _ hi (Keep.putObj _ _ _ (fun h=>h.elim (fun h=>h.2.2 rfl) x))) (hVst _ _ r (Keep.putObj _ _ _ xz)) (by simp;omega)⟩
    ·refine⟨some c,_,run_endLoop (P:=P) s wB,hstop c k O' _ hk (hIx _ _ _ _ _ hx (Keep.putObj _ _ _ (fun h=>h.elim (fun h=>h.2.2 rfl) x))) (hVst _ _ r (Keep.putObj _ _ _ xz)) (by simp;omega)⟩
   have hw:CallsIn Fence.wide (0-1) P gf (#[.func (.yield l) #[] #[]]++lb) W1' (rangePost F 0 P l Q {a with defers:=mark++a.defers}):=zU.2 aa;rcases y with rfl |⟨l0,rfl⟩
   ·exact hw
   ·exact CallsIn.inRound l0 hw
  exact z
theorem qj1 {P:Program}{g:Operand}{ps:Array Tmp}{assign body:Code}{Q:Exit->Act->World->Prop}{a:Act}{w:World}
  {gf:Nat} {lb:Array Value} (hg:a.eval g=.func (.func gf) #[] lb) (eg: ∀args w,(callFunc gf args).run P w=.ok (.enter gf args) w)
  {f:Nat->Array Value} {N:Nat} {V:World->Prop} {T:Nat->Prop} (al:qwl P gf lb f N V T) (am: ∀k,(f k).size=ps.size)
  (u: ∀b,T b->b<w.heap.size) (aj:V w) (aa: ∀X Y,V X->Keep (fun b=>b<w.heap.size) X Y->V Y)
  (I:Nat->(Nat->Prop)->World->Prop) (Ix:Code->Nat->(Nat->Prop)->World->Prop)
  (hI: ∀k O X Y,I k O X->Keep (fun b=>(b<w.heap.size/\ ¬T b)∨O b) X Y->I k O Y) (ag: ∀c k O X Y,Ix c k O X->Keep (fun b=>(b<w.heap.size/\ ¬T b)∨O b) X Y->Ix c k O Y)
  (h0:I 0 (fun _=>False) w)
  (s: ∀l k O X,w.heap.size<=l->l<X.heap.size-> ¬O l->k<N->I k O X->V X->w.heap.size+2<=X.heap.size->assign.wpIn (inR l) 0 P (Exit.then (qsf P l w.heap.size body V I Ix k O X) (fun _ _ _=>False)) {tmps:=(ps.zip (f k)).foldl (fun t (p,v)=>t.setIfInBounds p v) a.tmps,defers:= []} X)
  (hdone: ∀D O W,w.heap.size<=D-> ¬O D->W.heap[D]?=some (.deferred (some []))->w.heap.size<=W.heap.size->I N O W->V W->Q .normal {a with defers:={target:=.collected D,args:= #[]}::a.defers} W)
  (hstop: ∀D c k O W,w.heap.size<=D-> ¬O D->W.heap[D]?=some (.deferred (some []))->w.heap.size<=W.heap.size->k<N->Ix c k O W->V W->c.wpIn Fence.wide 0 P Q {a with defers:={target:=.collected D,args:= #[]}::a.defers} W):
  (Code.rangeFunc g ps assign body).wpIn Fence.wide 0 P Q a w:=by
 obtain⟨W1,q⟩:=ex ((w.alloc (.deferred (some []))).alloc (.deferred (some [])));have an:W1.heap.size=w.heap.size+2:=by rw [←q];simp
 have af:W1.heap[w.heap.size]?=some (.deferred (some [])):=by
  rw [←q];exact(xL _ _ _ wB).trans (xM w _)
 have r:wD w W1:=by rw [←q];exact(Keep.alloc _ w _).trans (Keep.alloc _ _ _)
 refine qwm (.inl rfl) hg eg al am (l:=w.heap.size+1) (df:=w.heap.size) (mark:= [{target:=.collected w.heap.size,args:= #[]}]) (W1:=W1) ?_ xz xz u aj aa
  (fun k O W=>I k O W/\ ¬O w.heap.size/\W.heap[w.heap.size]?=some (.deferred (some [])))
  (fun c k O W=>Ix c k O W/\ ¬O w.heap.size/\W.heap[w.heap.size]?=some (.deferred (some []))) ?_ ?_ ?_ ?_ ?_ ?_
 ·intro fn;refine⟨_,run_enterLoop_outer _ _ _ _ _,(Keep.alloc _ w _).trans (Keep.alloc _ _ _),by rw [an];simp,?_,?_⟩
  ·have:=xM (w.alloc (.deferred (some []))) (.loop {state:=.ready,pending:=none,fn:=fn,tmps:=a.tmps,params:=ps,assign:=assign,body:=body,defers:=w.heap.size})
   rwa [zO] at this
  ·rw [←q];refine⟨rfl,rfl,rfl,wB,fun k hk hC=>?_⟩;have ad:k<(w.alloc (.deferred (some []))).heap.size:=by simp at hk⊢;omega
   rw [xL _ _ _ ad,xL _ _ _ ad]
 ·rintro k O X Y ⟨j,i,m⟩ hK;exact⟨hI k O X Y j (hK.mono (fun b _ h=>h.imp (fun h=>⟨xz,h.2,xz⟩) id)),i,hK.heap m (.inl ⟨xz,fun h=>by have:=u _ h;omega,xz⟩)⟩
 ·rintro c k O X Y ⟨j,i,m⟩ hK;exact⟨ag c k O X Y j (hK.mono (fun b _ h=>h.imp (fun h=>⟨xz,h.2,xz⟩) id)),i,hK.heap m (.inl ⟨xz,fun h=>by have:=u _ h;omega,xz⟩)⟩
 ·exact⟨hI _ _ _ _ h0 (r.mono (fun _ _ _=>wE)),fun h=>h,af⟩
 ·rintro k O X hk ⟨j,i,m⟩ U ae ah;refine xq (s _ k O X xz xz ah hk j U xz) ?_;intro e a₁ X₁ x;cases e with
  |normal=>
   obtain⟨r,hb⟩:=x;refine⟨r,fun Y hY hs hl=>xq (hb Y hY hs hl) ?_⟩;have ak:Y.heap[w.heap.size]?=some (.deferred (some [])):=hY.heap (r.heap m xz) xz;have d: ∀(R:(Nat->Prop)->Prop) (Z:World),qd3 w.heap.size X.heap.size V O Y Z R->qd3 w.heap.size X.heap.size V O Y Z (fun O'=>R O'/\ ¬O' w.heap.size/\Z.heap[w.heap.size]?=some (.deferred (some []))):=by
    rintro R Z ⟨O',hO,z,hK,ai,hR⟩;exact⟨O',hO,z,hK,ai,hR,fun h=>(z _ h).elim i xz,hK.heap ak ⟨zG _,xz,i⟩⟩
   rintro e' a' Z y;cases e' with
   |normal=>exact d _ _ y
   |ret=>exact d _ _ y
   |exit id=>exact d _ _ y
   |goto t=>exact d _ _ y
   |panic c=>exact y.elim
   |outgrown=>exact y.elim
  |ret=>exact x.elim
  |exit id=>exact x.elim
  |goto t=>exact x.elim
  |panic c=>exact x.elim
  |outgrown=>exact x.elim
 ·rintro O W ⟨j,i,m⟩ U ae;exact hdone _ O W (zG _) i m xz j U
 ·rintro c k O W hk ⟨j,i,m⟩ U ae;exact hstop _ c k O W (zG _) i m xz hk j U
theorem qgw {P:Program}{fn:Func}{tmps:Array Value}{R:Ending->World->Prop}{D:Nat}{b:List Deferred}{w:World}(c:w.heap[D]?=some (.deferred (some [])))
  (h:LeavesInM Fence.wide 0 P fn tmps R b .returning (w.putObj D (.deferred none))):
  LeavesInM Fence.wide 0 P fn tmps R ({target:=.collected D,args:= #[]}::b) .returning w:=
 ⟨wB,.inl ⟨_,_,rfl,run_takeDeferred c,h⟩⟩
theorem qbl {P:Program}{f:FuncId}{fn:Func}{c:Code}{args:Array Value}{w:World}{R:Ending->World->Prop}
  (d:P.funcs[f]?=some fn) (b:fn.body=some c)
  (h:c.wpIn Fence.wide 0 P (bodyPost P fn R) {tmps:=args++Array.replicate (fn.ntmps-args.size) undef,defers:= []} w):Calls P f args w R:=
 zU.1 (callsIn_of_wp d b trivial h rfl)
theorem qfb {P:Program}{f:FuncId}{fn:Func}{c:Code}{args:Array Value}{w:World}{R:Ending->World->Prop}
  (d:P.funcs[f]?=some fn) (b:fn.body=some c)
  (h:c.wpIn Fence.wide 0 P (bodyPostM Fence.wide 0 P fn R) {tmps:=args++Array.replicate (fn.ntmps-args.size) undef,defers:= []} w):Calls P f args w R:=
 zU.1 (callsIn_of_wp_marks d b trivial h rfl)
def qrn (c:Code):Prop:=c=.ret
def q28 (Ds:List Nat):List Deferred:=Ds.map fun D=>{target:=.collected D,args:= #[]}
def MarksAt (Ds:List Nat)(O:Nat->Prop)(w:World):Prop:= ∀D,D∈Ds-> ¬O D/\w.heap[D]?=some (.deferred (some []))
theorem MarksAt.keep {b:List Nat}{O O' C:Nat->Prop}{w w':World}(h:MarksAt b O w)(hK:Keep C w w')(d: ∀D,D∈b->C D)(e: ∀D,D∈b-> ¬O D-> ¬O' D):MarksAt b O' w':=
 fun D c=>⟨e D c (h D c).1,hK.heap (h D c).2 (d D c)⟩
theorem qf4 {P:Program}{fn:Func}{tmps:Array Value}{R:Ending->World->Prop}: ∀(Ds:List Nat) (w:World),Ds.Nodup->(∀D,D∈Ds->w.heap[D]?=some (.deferred (some [])))->
  (∀w',Keep (fun b=>b∉Ds) w w'->w'.heap.size=w.heap.size->LeavesInM Fence.wide 0 P fn tmps R [] .returning w')->LeavesInM Fence.wide 0 P fn tmps R (q28 Ds) .returning w
 | [],w,_,_,h=>h w (Keep.refl _ _) rfl
 |D::Ds,w,hn,hD,h=>by
  refine qgw (hD D wB) (qf4 Ds _ (xR.1 hn).2 (fun E hE=>?_) (fun w' hK hs=>h w' ?_ (by simpa using hs)))
  ·rw [World.putObj_heap_other (fun e:E=D=>(xR.1 hn).1 (by rw [←e];exact hE))];exact hD E (by simp [hE])
  ·exact(Keep.putObj (C:=fun b=>b∉D::Ds) w D _ wB).trans (hK.mono fun b _ c=>fun h=>c (by simp [h]))
theorem qb7 {P:Program}{fn:Func}{tmps:Array Value}{R:Ending->World->Prop}{w:World}{v:Value}(c:(results fn tmps).run P w=.ok v w)(b:R (.returned v) w):LeavesInM Fence.wide 0 P fn tmps R [] .returning w:=⟨v,c,b⟩
theorem qc0 {P:Program}{f:FuncId}{fn:Func}{c:Code}(g:P.funcs[f]?=some fn)(b:(fn.name== "runtime.NumGoroutine")=false)(e:fn.body=some c):
  ∀(args:Array Value) (w:World),(callFunc f args).run P w=.ok (.enter f args) w:=by
 intro args w;have d:fn.name≠ "runtime.NumGoroutine" :=by simpa using b
 simp [callFunc,g,d,e,mark]
theorem qnr {F:Fence}{n:Nat}{P:Program}{c:Code}{Q:Exit->Act->World->Prop}{a:Act}{w:World}(G:World->Prop)(h:G w)(k: ∀W,G W->c.wpIn F n P Q a W):c.wpIn F n P Q a w:=k w h
theorem qj9 {P:Program}{c:Code}{Q:Exit->Act->World->Prop}{a:Act}{w:World}(G:World->Prop)(h:G w)(k: ∀W,G W->c.wp P Q a W):c.wp P Q a w:=k w h
theorem qi1 {Q:Exit->Act->World->Prop}{e:Exit}{a:Act}{w:World}(G:World->Prop)(h:G w)(k: ∀W,G W->Q e a W):Q e a w:=k w h
theorem quk {F:Fence}{n:Nat}{P:Program}{f:FuncId}{args:Array Value}{R:Ending->World->Prop}{w:World}(G:World->Prop)(h:G w)(k: ∀W,G W->CallsIn F n P f args W R):CallsIn F n P f args w R:=k w h
end Go.Ink
namespace Go.Ink
theorem kAl {C:Nat->Prop}{w:World}{o:Obj}:Keep C w (w.alloc o):=Keep.alloc C w o
theorem kDr {C:Nat->Prop}{w:World}:Keep C w w.drew:=Keep.drew C w
theorem kSc {C:Nat->Prop}{w:World}{p:Addr}{u:Value}(h: ¬C p.block:=by simp):Keep C w (w.setCell p u):=Keep.setCell w p u h
end Go.Ink
