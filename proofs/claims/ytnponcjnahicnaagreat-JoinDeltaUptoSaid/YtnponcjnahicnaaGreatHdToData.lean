/- Parts of the proof. -/
import Derived.Lib.Hide
import Derived.RangeFuncNested
import Derived.RangeFuncBound
import Derived.WalkKit
import Derived.OwnWalkIn
import Derived.TacticsInMore
import Derived.LoopNIn
import Derived.LoopIn
set_option linter.unusedSimpArgs false
set_option linter.unusedVariables false
namespace Go
theorem zA:type_of% @List.getElem?_eq_some_iff:=@List.getElem?_eq_some_iff
theorem zB:type_of% @List.getElem?_eq_getElem:=@List.getElem?_eq_getElem
theorem zD:type_of% @Nat.zero_add:=@Nat.zero_add
theorem zE:type_of% @Go.World.ownsRow.lt:=@Go.World.ownsRow.lt
theorem zF:type_of% @if_neg:=@if_neg
theorem zG:type_of% @Nat.le_refl:=@Nat.le_refl
theorem zH:type_of% @List.mem_of_getElem?:=@List.mem_of_getElem?
theorem zI:type_of% @if_pos:=@if_pos
theorem zJ:type_of% @List.getD_eq_getElem?_getD:=@List.getD_eq_getElem?_getD
theorem zL:type_of% @List.length_map:=@List.length_map
theorem zM:type_of% @decide_eq_false:=@decide_eq_false
theorem zO:type_of% @Go.World.size_alloc:=@Go.World.size_alloc
theorem zP:type_of% @List.getElem?_map:=@List.getElem?_map
theorem zQ:type_of% @Go.World.block_lt_of_cell?:=@Go.World.block_lt_of_cell?
theorem zR:type_of% @List.length_append:=@List.length_append
theorem zS:type_of% @decide_eq_true:=@decide_eq_true
theorem zT:type_of% @decide_eq_true_eq:=@decide_eq_true_eq
theorem zU:type_of% @Go.callsIn_wide:=@Go.callsIn_wide
theorem zV:type_of% @Bool.and_eq_true:=@Bool.and_eq_true
theorem zW:type_of% @Nat.le_trans:=@Nat.le_trans
theorem zZ:type_of% @Go.Oper.semAt_some:=@Go.Oper.semAt_some
theorem zg:type_of% @Go.Lib.hid:=@Go.Lib.hid
theorem zh:type_of% @List.take_add_one:=@List.take_add_one
theorem zi:type_of% @List.take_length:=@List.take_length
theorem zj:type_of% @Go.World.ownsRow_nil:=@Go.World.ownsRow_nil
theorem zk:type_of% @Nat.lt_of_lt_of_le:=@Nat.lt_of_lt_of_le
theorem zm:type_of% @List.mem_singleton:=@List.mem_singleton
theorem zn:type_of% @List.map_append:=@List.map_append
theorem zr:type_of% @List.mem_append:=@List.mem_append
theorem zt:type_of% @List.drop_eq_getElem_cons:=@List.drop_eq_getElem_cons
theorem zw:type_of% @List.mem_cons:=@List.mem_cons
theorem zy:type_of% @List.mem_iff_getElem?:=@List.mem_iff_getElem?
theorem zz:type_of% @Bool.false_eq_true:=@Bool.false_eq_true
theorem yA:type_of% @Go.bodyPost_ret:=@Go.bodyPost_ret
theorem yB:type_of% @Nat.mul_one:=@Nat.mul_one
theorem yC:type_of% @List.length_take:=@List.length_take
theorem yD:type_of% @List.mem_cons_of_mem:=@List.mem_cons_of_mem
theorem yE:type_of% @of_decide_eq_true:=@of_decide_eq_true
theorem yF:type_of% @List.flatMap_cons:=@List.flatMap_cons
theorem yG:type_of% @List.flatMap_append:=@List.flatMap_append
theorem yH:type_of% @List.getElem?_append_right:=@List.getElem?_append_right
theorem yI:type_of% @Option.some.inj:=@Option.some.inj
theorem yJ:type_of% @List.mem_cons_self:=@List.mem_cons_self
theorem yK:type_of% @List.setIfInBounds_toArray:=@List.setIfInBounds_toArray
theorem yL:type_of% @List.mem_map:=@List.mem_map
theorem yM:type_of% @List.all_eq_true:=@List.all_eq_true
theorem yO:type_of% @congrArg:=@congrArg
theorem yP:type_of% @Bool.and_false:=@Bool.and_false
theorem yQ:type_of% @List.append_nil:=@List.append_nil
theorem yR:type_of% @decide_eq_false_iff_not:=@decide_eq_false_iff_not
theorem yS:type_of% @List.getElem?_append_left:=@List.getElem?_append_left
theorem yU:type_of% @List.not_mem_nil:=@List.not_mem_nil
theorem yV:type_of% @List.filter_append:=@List.filter_append
theorem yW:type_of% @Bool.true_and:=@Bool.true_and
theorem yX:type_of% @List.mem_filter:=@List.mem_filter
theorem yY:type_of% @Nat.mul_le_mul_right:=@Nat.mul_le_mul_right
theorem yZ:type_of% @List.map_cons:=@List.map_cons
theorem y7:type_of% @Nat.lt_or_ge:=@Nat.lt_or_ge
theorem y8:type_of% @Bool.false_and:=@Bool.false_and
theorem y9:type_of% @beq_eq_false_iff_ne:=@beq_eq_false_iff_ne
theorem ya:type_of% @Bool.or_eq_true:=@Bool.or_eq_true
theorem yb:type_of% @List.idxOf_lt_length_of_mem:=@List.idxOf_lt_length_of_mem
theorem yc:type_of% @Nat.zero_le:=@Nat.zero_le
theorem yd:type_of% @Option.some.injEq:=@Option.some.injEq
theorem ye:type_of% @Nat.mul_assoc:=@Nat.mul_assoc
theorem yf:type_of% @List.length_filter_le:=@List.length_filter_le
theorem yg:type_of% @List.filter_cons:=@List.filter_cons
theorem yi:type_of% @or_false:=@or_false
theorem yj:type_of% @if_true:=@if_true
theorem yk:type_of% @List.mem_range:=@List.mem_range
theorem yl:type_of% @decide_eq_decide:=@decide_eq_decide
theorem ym:type_of% @Go.World.cell?_of_block:=@Go.World.cell?_of_block
theorem yn:type_of% @List.foldl_append:=@List.foldl_append
theorem yo:type_of% @Go.run_underlying:=@Go.run_underlying
theorem yp:type_of% @List.find?_eq_none:=@List.find?_eq_none
theorem yq:type_of% @List.eq_nil_of_length_eq_zero:=@List.eq_nil_of_length_eq_zero
theorem yr:type_of% @Nat.pow_add:=@Nat.pow_add
theorem yt:type_of% @Go.Sem.run_bind:=@Go.Sem.run_bind
theorem yu:type_of% @List.append_assoc:=@List.append_assoc
theorem yw:type_of% @Go.results_none:=@Go.results_none
theorem yx:type_of% @Bool.eq_iff_iff:=@Bool.eq_iff_iff
theorem yy:type_of% @List.take_append_drop:=@List.take_append_drop
theorem yz:type_of% @List.take_of_length_le:=@List.take_of_length_le
theorem xA:type_of% @if_false:=@if_false
theorem xB:type_of% @Go.World.putObj_heap_same:=@Go.World.putObj_heap_same
theorem xC:type_of% @List.map_congr_left:=@List.map_congr_left
theorem xD:type_of% @List.getElem?_eq_none:=@List.getElem?_eq_none
theorem xE:type_of% @beq_iff_eq:=@beq_iff_eq
theorem xF:type_of% @List.mem_flatMap:=@List.mem_flatMap
theorem xG:type_of% @List.getElem_mem:=@List.getElem_mem
theorem xH:type_of% @Bool.or_eq_false_iff:=@Bool.or_eq_false_iff
theorem xI:type_of% @Nat.add_assoc:=@Nat.add_assoc
theorem xJ:type_of% @Bool.false_or:=@Bool.false_or
theorem xK:type_of% @Nat.add_mul:=@Nat.add_mul
theorem xL:type_of% @Bool.not_eq_true':=@Bool.not_eq_true'
theorem xM:type_of% @Bool.and_true:=@Bool.and_true
theorem xN:type_of% @Nat.mul_comm:=@Nat.mul_comm
theorem xO:type_of% @Go.RowKit.Below.heap_alloc:=@Go.RowKit.Below.heap_alloc
theorem xP:type_of% @Go.World.alloc_heap_new:=@Go.World.alloc_heap_new
theorem xQ:type_of% @Option.map_eq_some_iff:=@Option.map_eq_some_iff
theorem xR:type_of% @List.getElem?_take_of_lt:=@List.getElem?_take_of_lt
theorem xS:type_of% @Nat.min_eq_left:=@Nat.min_eq_left
theorem xT:type_of% @Array.getElem?_eq_getElem:=@Array.getElem?_eq_getElem
theorem xU:type_of% @List.nodup_cons:=@List.nodup_cons
theorem xV:type_of% @of_decide_eq_false:=@of_decide_eq_false
theorem xW:type_of% @List.getElem?_replicate:=@List.getElem?_replicate
theorem xX:type_of% @List.filter_cons_of_pos:=@List.filter_cons_of_pos
theorem xY:type_of% @List.nodup_append:=@List.nodup_append
theorem xZ:type_of% @List.ext_getElem?:=@List.ext_getElem?
theorem xa:type_of% @Nat.sub_self:=@Nat.sub_self
theorem xb:type_of% @List.any_eq_false:=@List.any_eq_false
theorem xc:type_of% @Go.results_tmp2:=@Go.results_tmp2
theorem xd:type_of% @List.mem_of_find?_eq_some:=@List.mem_of_find?_eq_some
theorem xe:type_of% @Go.wpIn_wide:=@Go.wpIn_wide
theorem xf:type_of% @List.mem_append_left:=@List.mem_append_left
theorem xg:type_of% @Go.World.ownsRow_made:=@Go.World.ownsRow_made
theorem xi:type_of% @List.filter_cons_of_neg:=@List.filter_cons_of_neg
theorem xj:type_of% @Array.getElem?_toList:=@Array.getElem?_toList
theorem xk:type_of% @List.map_nil:=@List.map_nil
theorem xm:type_of% @List.mem_of_mem_take:=@List.mem_of_mem_take
theorem xn:type_of% @List.drop_eq_nil_of_le:=@List.drop_eq_nil_of_le
theorem xo:type_of% @Go.results_tmp:=@Go.results_tmp
theorem xp:type_of% @List.flatMap_nil:=@List.flatMap_nil
theorem xq:type_of% @List.drop_length:=@List.drop_length
theorem xr:type_of% @List.length_set:=@List.length_set
theorem xt:type_of% @Go.wpIn_mono:=@Go.wpIn_mono
theorem xu:type_of% @List.getElem?_range:=@List.getElem?_range
theorem xw:type_of% @Bool.not_eq_true:=@Bool.not_eq_true
theorem xx:type_of% @List.length_drop:=@List.length_drop
theorem xy:type_of% @List.getElem?_inj:=@List.getElem?_inj
theorem xz:type_of% @List.range_succ:=@List.range_succ
theorem wA:type_of% @Go.bodyPost_end:=@Go.bodyPost_end
theorem wB:type_of% @funext:=@funext
theorem wH:True:=⟨⟩
theorem wC{p:Prop}(h:p:=by omega):p:=h
theorem wD{p:Prop}(h:p:=by kernel_rfl):p:=h
theorem wE{p:Prop}(h:p:=by simp):p:=h
theorem wF{p:Prop}(h:p:=by decide):p:=h
end Go
open List(append_toArray find?_append find?_cons foldl_cons getElem?_cons_succ getElem?_take length_cons push_toArray take_append_of_le_length take_succ_eq_append_getElem take_take)
namespace Go.RowKit
theorem Hid.o {p:Prop}(h:Hid p):p:=h
end Go.RowKit
namespace Go.Ink
section
variable {A B C D E F G H I J K L M N O P Z : Prop}
theorem hd1 (k:RowKit.Hid A->Z)(a':A):Z:=k a'
theorem hd2 (k:RowKit.Hid A->RowKit.Hid B->Z)(a':A)(b:B):Z:=k a' b
theorem hd3 (k:RowKit.Hid A->RowKit.Hid B->RowKit.Hid C->Z)(a':A)(b:B)(c:C):Z:=k a' b c
theorem hd4 (k:RowKit.Hid A->RowKit.Hid B->RowKit.Hid C->RowKit.Hid D->Z)(a':A)(b:B)(d:C)(c:D):Z:=k a' b d c
theorem hd5 (k:RowKit.Hid A->RowKit.Hid B->RowKit.Hid C->RowKit.Hid D->RowKit.Hid E->Z)(a':A)(b:B)(e:C)(c:D)(d:E):Z:=k a' b e c d
theorem hd6 (k:RowKit.Hid A->RowKit.Hid B->RowKit.Hid C->RowKit.Hid D->RowKit.Hid E->RowKit.Hid F->Z)(a':A)(b:B)(g:C)(c:D)(e:E)(d:F):Z:=k a' b g c e d
theorem hd7 (k:RowKit.Hid A->RowKit.Hid B->RowKit.Hid C->RowKit.Hid D->RowKit.Hid E->RowKit.Hid F->RowKit.Hid G->Z)(a':A)(c:B)(d:C)(e:D)(h:E)(g:F)(b:G):Z:=k a' c d e h g b
theorem hd8 (k:RowKit.Hid A->RowKit.Hid B->RowKit.Hid C->RowKit.Hid D->RowKit.Hid E->RowKit.Hid F->RowKit.Hid G->RowKit.Hid H->Z)(a':A)(c:B)(d:C)(e:D)(l:E)(g:F)(b:G)(h:H):Z:=k a' c d e l g b h
theorem hd9 (k:RowKit.Hid A->RowKit.Hid B->RowKit.Hid C->RowKit.Hid D->RowKit.Hid E->RowKit.Hid F->RowKit.Hid G->RowKit.Hid H->RowKit.Hid I->Z)(a':A)(c:B)(d:C)(e:D)(l:E)(g:F)(b:G)(h:H)(m:I):Z:=k a' c d e l g b h m
theorem qdz (k:RowKit.Hid A->RowKit.Hid B->RowKit.Hid C->RowKit.Hid D->RowKit.Hid E->RowKit.Hid F->RowKit.Hid G->RowKit.Hid H->RowKit.Hid I->RowKit.Hid J->Z)(a':A)(c:B)(e:C)(g:D)(m:E)(h:F)(b:G)(l:H)(p:I)(d:J):Z:=k a' c e g m h b l p d
theorem qhu (k:RowKit.Hid A->RowKit.Hid B->RowKit.Hid C->RowKit.Hid D->RowKit.Hid E->RowKit.Hid F->RowKit.Hid G->RowKit.Hid H->RowKit.Hid I->RowKit.Hid J->RowKit.Hid K->Z)(a':A)(c:B)(e:C)(h:D)(p:E)(l:F)(b:G)(m:H)(q:I)(d:J)(g:K):Z:=k a' c e h p l b m q d g
theorem qhv (k:RowKit.Hid A->RowKit.Hid B->RowKit.Hid C->RowKit.Hid D->RowKit.Hid E->RowKit.Hid F->RowKit.Hid G->RowKit.Hid H->RowKit.Hid I->RowKit.Hid J->RowKit.Hid K->RowKit.Hid L->Z)(a':A)(c:B)(e:C)(l:D)(q:E)(m:F)(b:G)(p:H)(r:I)(d:J)(g:K)(h:L):Z:=k a' c e l q m b p r d g h
theorem qm6 (k:RowKit.Hid A->RowKit.Hid B->RowKit.Hid C->RowKit.Hid D->RowKit.Hid E->RowKit.Hid F->RowKit.Hid G->RowKit.Hid H->RowKit.Hid I->RowKit.Hid J->RowKit.Hid K->RowKit.Hid L->RowKit.Hid M->Z)(a':A)(c:B)(g:C)(m:D)(r:E)(p:F)(b:G)(q:H)(s:I)(d:J)(h:K)(l:L)(e:M):Z:=k a' c g m r p b q s d h l e
theorem qlu (k:RowKit.Hid A->RowKit.Hid B->RowKit.Hid C->RowKit.Hid D->RowKit.Hid E->RowKit.Hid F->RowKit.Hid G->RowKit.Hid H->RowKit.Hid I->RowKit.Hid J->RowKit.Hid K->RowKit.Hid L->RowKit.Hid M->RowKit.Hid N->Z)(a':A)(c:B)(g:C)(m:D)(r:E)(p:F)(b:G)(q:H)(s:I)(d:J)(h:K)(l:L)(e:M)(t:N):Z:=k a' c g m r p b q s d h l e t
theorem qro (k:RowKit.Hid A->RowKit.Hid B->RowKit.Hid C->RowKit.Hid D->RowKit.Hid E->RowKit.Hid F->RowKit.Hid G->RowKit.Hid H->RowKit.Hid I->RowKit.Hid J->RowKit.Hid K->RowKit.Hid L->RowKit.Hid M->RowKit.Hid N->RowKit.Hid O->Z)(a':A)(c:B)(p:C)(q:D)(l:E)(r:F)(b:G)(s:H)(h:I)(d:J)(g:K)(m:L)(e:M)(t:N)(o':O):Z:=k a' c p q l r b s h d g m e t o'
theorem qb5 (k:RowKit.Hid A->RowKit.Hid B->RowKit.Hid C->RowKit.Hid D->RowKit.Hid E->RowKit.Hid F->RowKit.Hid G->RowKit.Hid H->RowKit.Hid I->RowKit.Hid J->RowKit.Hid K->RowKit.Hid L->RowKit.Hid M->RowKit.Hid N->RowKit.Hid O->RowKit.Hid P->Z)(a':A)(c:B)(q:C)(r:D)(l:E)(s:F)(b:G)(t:H)(h:I)(d:J)(g:K)(p:L)(e:M)(u:N)(o':O)(m:P):Z:=k a' c q r l s b t h d g p e u o' m
end
theorem qd0:(∀(α:Type) (l:List α),l.toArray.size=l.length)/\(∀(α:Type) (l:List α) (a:α),(a::l).length=l.length+1)/\(∀(α:Type),([]:List α).length=0)/\(∀(α:Type) (n:Nat) (a:α),Array.replicate (n+1) a=(Array.replicate n a).push a)/\(∀(α:Type) (a:α),Array.replicate 0 a= #[])/\
  (∀(α:Type) (l:List α) (a:α),l.toArray.push a=(l++ [a]).toArray)/\(∀(α:Type) (l m:List α),l.toArray++m.toArray=(l++m).toArray)/\(∀(α:Type) (l:List α),[]++l=l)/\(∀(α:Type) (a:α) (l m:List α),(a::l)++m=a::(l++m)):=
 ⟨fun _ _=>rfl,fun _ _ _=>rfl,fun _=>rfl,fun _ _ _=>Array.replicate_succ,fun _ _=>rfl,fun _ _ _=>push_toArray ..,fun _ _ _=>append_toArray ..,fun _ _=>rfl,fun _ _ _ _=>rfl⟩
theorem ex {α:Type}(e:α): ∃x,e=x:=⟨_,rfl⟩
end Go.Ink
namespace Go.Ink
open Go.RowKit
structure Keep (C:Nat->Prop)(w w':World):Prop where
 os:w'.os=w.os
 tape:w'.tape=w.tape
 output:w'.output=w.output
 size:w.heap.size<=w'.heap.size
 block: ∀k,k<w.heap.size->C k->w'.heap[k]?=w.heap[k]?
abbrev wG:=Keep fun _=>True
theorem Keep.refl (C:Nat->Prop)(w:World):Keep C w w:=⟨rfl,rfl,rfl,zG _,fun _ _ _=>rfl⟩
theorem Keep.trans {C:Nat->Prop}{a b c:World}(h:Keep C a b)(k:Keep C b c):Keep C a c:=
 ⟨k.os.trans h.os,k.tape.trans h.tape,k.output.trans h.output,zW h.size k.size,
  fun i hi d=>(k.block i (zk hi h.size) d).trans (h.block i hi d)⟩
theorem Keep.mono {C C':Nat->Prop}{w w':World}(h:Keep C w w')(c: ∀k,k<w.heap.size->C' k->C k):Keep C' w w':=
 ⟨h.os,h.tape,h.output,h.size,fun k b d=>h.block k b (c k b d)⟩
theorem Keep.mt{C:Nat->Prop}{w w':World}(h:wG w w'):Keep C w w':=h.mono fun _ _ _=>trivial
theorem Keep.below {B:Nat}{w w':World}(h:Keep (fun k=>k<B) w w')(c:B<=w.heap.size):Below B w w':=
 ⟨h.os,h.tape,h.output,h.size,fun k b=>h.block k wC b⟩
theorem Keep.of_grown {w w':World}{row:Option Nat}(h:w.grownBy w' row):Keep (fun k=>some k≠row) w w':=
 ⟨h.os,h.tape,h.output,h.size,fun k c b=>h.block k c b⟩
theorem Keep.drew (C:Nat->Prop)(w:World):Keep C w w.drew:=⟨rfl,rfl,rfl,zG _,fun _ _ _=>rfl⟩
theorem Keep.alloc (C:Nat->Prop)(w:World)(o:Obj):Keep C w (w.alloc o):=
 ⟨rfl,rfl,rfl,wE,fun k b _=>xO w o k b⟩
theorem Keep.setCell {C:Nat->Prop}(w:World)(p:Addr)(u:Value)(b: ¬C p.block):Keep C w (w.setCell p u):=
 ⟨rfl,rfl,rfl,by simp [World.setCell],fun k d c=>Below.heap_setCell _ _ _ _ (fun e=>b (e▸c))⟩
theorem Keep.putObj {C:Nat->Prop}(w:World)(l:Nat)(o:Obj)(b: ¬C l):Keep C w (w.putObj l o):=
 ⟨rfl,rfl,rfl,wE,fun k d c=>World.putObj_heap_other (fun e=>b (e▸c))⟩
theorem Keep.heap {C:Nat->Prop}{w w':World}(h:Keep C w w'){k:Nat}{o:Obj}(b:w.heap[k]?=some o)(c:C k):w'.heap[k]?=some o:=
 (h.block k (Array.getElem?_eq_some_iff.1 b).1 c).trans b
theorem Keep.cell {C:Nat->Prop}{w w':World}(h:Keep C w w'){a:Addr}{v:Value}(b:w.cell? a=some v)(c:C a.block):w'.cell? a=some v:=
 (ym (h.block a.block (zQ w a b) c)).trans b
theorem qe {w:World}{k:Nat}{o:Obj}(h:w.heap[k]?=some o):k<w.heap.size:=(Array.getElem?_eq_some_iff.1 h).1
abbrev inR (l:Nat):Fence:=Fence.wide.inRound l
def qud (S:Nat)(V:World->Prop)(J Jx:Nat->(Nat->Prop)->World->Prop)(k:Nat)(O:Nat->Prop)(X:World)(e:Ending)(Y:World):Prop:=
 ∃O':Nat->Prop,(∀b,O b->O' b)/\(∀b,O' b->O b∨(X.heap.size<=b/\b<Y.heap.size))/\Keep (fun b=>S<=b/\ ¬O b) X Y/\V Y/\
  ((e=.returned (.bool true)/\J (k+1) O' Y)∨(e=.returned (.bool false)/\Jx k O' Y))
def qy7 (P:Program)(g:Nat)(lb:Array Value)(encs:Nat->Array Value)(N:Nat)(V:World->Prop)(T:Nat->Prop):Prop:=
 ∀(l:Nat) (J Jx:Nat->(Nat->Prop)->World->Prop) (O0:Nat->Prop) (W:World),l<W.heap.size->(∀b,O0 b->b<W.heap.size)->V W->
  (∀k O X Y,J k O X->Keep (fun b=>(b<W.heap.size/\ ¬T b)∨O b) X Y->J k O Y)->
  (∀k O X Y,Jx k O X->Keep (fun b=>(b<W.heap.size/\ ¬T b)∨O b) X Y->Jx k O Y)->
  (∀k O X,k<N->J k O X->V X->W.heap.size<=X.heap.size->YieldAt Fence.wide 0 P l (encs k) X (qud W.heap.size V J Jx k O X))->
  J 0 O0 W->
  Calls P g (#[.func (.yield l) #[] #[]]++lb) W fun e W'=>(∃v,e=.returned v)/\W.heap.size<=W'.heap.size/\V W'/\
   ∃O':Nat->Prop,(J N O' W'∨ ∃k,k<N/\Jx k O' W')
def qey (B n:Nat)(V:World->Prop)(O:Nat->Prop)(Y0 Y:World)(R:(Nat->Prop)->Prop):Prop:=
 ∃O':Nat->Prop,(∀b,O b->O' b)/\(∀b,O' b->O b∨(n<=b/\b<Y.heap.size))/\Keep (fun b=>B<=b/\b<n/\ ¬O b) Y0 Y/\V Y/\R O'
def q9b (B n:Nat)(V:World->Prop)(I:Nat->(Nat->Prop)->World->Prop)(Ix:Code->Nat->(Nat->Prop)->World->Prop)(k:Nat)(O:Nat->Prop)(Y0:World):Exit->Act->World->Prop
 |.normal,_,Y=>qey B n V O Y0 Y fun O'=>I (k+1) O' Y
 |.ret,_,Y=>qey B n V O Y0 Y fun O'=>Ix .ret k O' Y
 |.exit id,_,Y=>qey B n V O Y0 Y fun O'=>Ix (.exit id) k O' Y
 |.goto t,_,Y=>qey B n V O Y0 Y fun O'=>Ix (.goto t) k O' Y
 |.panic _,_,_=>False
 |.outgrown,_,_=>False
def que (P:Program)(l B:Nat)(body:Code)(V:World->Prop)(I:Nat->(Nat->Prop)->World->Prop)(Ix:Code->Nat->(Nat->Prop)->World->Prop)(k:Nat)(O:Nat->Prop)(X:World)(a₁:Act)(X₁:World):Prop:=
 Keep (fun b=>b<X.heap.size) X X₁/\
  ∀Y,Keep (fun b=>b≠l) X₁ Y->Y.heap.size=X₁.heap.size->(∃r,Y.heap[l]?=some (.loop r))->body.wpIn (inR l) 0 P (q9b B X.heap.size V I Ix k O Y) a₁ Y
theorem q4y {P:Program}{fn:FuncId}{l B S:Nat}{rec:LoopState->Option Code->Loop}{tmps0:Array Value}{ps:Array Tmp}{assign body:Code}{df:Nat}
  (r:rec=fun st pe=>{state:=st,pending:=pe,fn:=fn,tmps:=tmps0,params:=ps,assign:=assign,body:=body,defers:=df})
  (hlB:B<=l) (hS:B<=S) (hlS:l<S) {encs:Nat->Array Value} (hps: ∀k,(encs k).size=ps.size) {V:World->Prop} {T:Nat->Prop} (hTl: ¬T l) (hVst: ∀X Y,V X->Keep (fun b=>b<B) X Y->V Y)
  {I:Nat->(Nat->Prop)->World->Prop} {Ix:Code->Nat->(Nat->Prop)->World->Prop}
  (hI: ∀k O X Y,I k O X->Keep (fun b=>(b<S/\ ¬T b/\b≠l)∨O b) X Y->I k O Y) (hIx: ∀c k O X Y,Ix c k O X->Keep (fun b=>(b<S/\ ¬T b/\b≠l)∨O b) X Y->Ix c k O Y)
  (X:World) (k:Nat) (O:Nat->Prop) (hOl: ¬O l) (hi:I k O X) (hl:X.heap[l]?=some (.loop (rec .ready none)))
  (hround:assign.wpIn (inR l) 0 P (Exit.then (que P l B body V I Ix k O X) (fun _ _ _=>False)) {tmps:=(ps.zip (encs k)).foldl (fun t (p,v)=>t.setIfInBounds p v) tmps0,defers:= []} X):
  YieldAt Fence.wide 0 P l (encs k) X (qud S V
   (fun k O W=>I k O W/\ ¬O l/\W.heap[l]?=some (.loop (rec .ready none)))
   (fun k O W=> ∃c,Ix c k O W/\ ¬O l/\W.heap[l]?=some (.loop (rec .done (some c)))) k O X):=by
 have hy:=run_yield (P:=P) (args:=encs k) hl (by rw [r];exact hps k);rw [r]at hy;have ad:=qe hl;refine⟨fn,_,assign,body,hy,roundIn_of_wpIn (F:=Fence.wide) trivial (xt hround ?_)⟩;intro e a₁ X₁ he;cases e with
 |normal=>
  obtain⟨ak,hb⟩:=he;have ab:X₁.heap[l]?=some (.loop (rec .ready none)):=ak.heap hl ad;refine⟨_,run_beginRound ab (by rw [r]),?_⟩;have af:(X₁.putObj l (.loop {rec .ready none with state:=.busy})).heap[l]?=some (.loop {rec .ready none with state:=.busy}):=xB (qe ab);have ag:Keep (fun b=>b≠l) X₁ (X₁.putObj l (.loop {rec .ready none with state:=.busy})):=Keep.putObj _ _ _ wE;refine xt (hb _ ag wE ⟨_,af⟩) ?_;generalize hY0:X₁.putObj l (.loop {rec .ready none with state:=.busy})=Y0 at af ag;clear hY0 hb;have x: ∀(d:Option Code) (Y:World) (R:(Nat->Prop)->Prop),qey B X.heap.size V O Y0 Y R->
    ∃u,(Instr.endRound l d).run P Y=.ok (.bool d.isNone) u/\u.heap[l]?=some (.loop (rec (if d.isNone then .ready else .done) d))/\Keep (fun b=>b≠l) Y u/\
    ∃O':Nat->Prop,(∀b,O b->O' b)/\(∀b,O' b->O b∨(X.heap.size<=b/\b<u.heap.size))/\Keep (fun b=>S<=b/\ ¬O b) X u/\V u/\ ¬O' l/\R O':=by
   rintro d Y R ⟨O',y,g,hK,U,z⟩;have al:Y.heap[l]?=some (.loop {rec .ready none with state:=.busy}):=hK.heap af ⟨hlB,ad,hOl⟩;have:=run_endRound (P:=P) d al;refine⟨_,this,?_,Keep.putObj _ _ _ wE,O',y,by simpa using g,?_,?_,?_,z⟩
   ·rw [xB (qe al)];subst r;rfl
   ·have h1:Keep (fun b=>(S<=b/\ ¬O b)/\b<X.heap.size) X X₁:=ak.mono (fun _ h _=>h);have h2:Keep (fun b=>(S<=b/\ ¬O b)/\b<X.heap.size) X₁ Y0:=ag.mono (fun b _ h e=>by have:=h.1.1;omega);have h3:Keep (fun b=>(S<=b/\ ¬O b)/\b<X.heap.size) Y0 Y:=hK.mono (fun b _ h=>⟨by have:=h.1.1;omega,h.2,h.1.2⟩);have h4:Keep (fun b=>(S<=b/\ ¬O b)/\b<X.heap.size) Y (Y.putObj l (.loop {({rec .ready none with state:=.busy}:Loop) with state:=if d.isNone then .ready else .done,pending:=d})):=Keep.putObj _ _ _ (fun h=>by have:=h.1.1;omega);exact(((h1.trans h2).trans h3).trans h4).mono (fun b hb h=>⟨h,hb⟩)
   ·exact hVst _ _ U (Keep.putObj _ _ _ (by simp;omega))
   ·intro h;rcases g l h with h |h
    ·exact hOl h
    ·omega
  have aa: ∀{O':Nat->Prop} {Y u:World},¬O' l->Keep (fun b=>b≠l) Y u->Keep (fun b=>(b<S/\ ¬T b/\b≠l)∨O' b) Y u:=fun s hK=>hK.mono (fun b _ h=>by
   rcases h with h |h
   ·exact h.2.2
   ·intro e;subst e;exact s h)
  rintro e a3 Y hp;cases e with
  |normal=>
   obtain⟨u,hr,m,q,O',y,g,hK,U,s,z⟩:=x none Y _ hp;exact⟨_,_,hr,O',y,g,hK,U,.inl ⟨rfl,hI _ _ _ _ z (aa s q),s,m⟩⟩
  |ret=>
   obtain⟨u,hr,m,q,O',y,g,hK,U,s,z⟩:=x (some .ret) Y _ hp;exact⟨_,_,hr,O',y,g,hK,U,.inr ⟨rfl,.ret,hIx _ _ _ _ _ z (aa s q),s,m⟩⟩
  |exit id=>
   obtain⟨u,hr,m,q,O',y,g,hK,U,s,z⟩:=x (some (.exit id)) Y _ hp;exact⟨_,_,hr,O',y,g,hK,U,.inr ⟨rfl,.exit id,hIx _ _ _ _ _ z (aa s q),s,m⟩⟩
  |goto t=>
   obtain⟨u,hr,m,q,O',y,g,hK,U,s,z⟩:=x (some (.goto t)) Y _ hp;exact⟨_,_,hr,O',y,g,hK,U,.inr ⟨rfl,.goto t,hIx _ _ _ _ _ z (aa s q),s,m⟩⟩
  |panic ch=>exact hp.elim
  |outgrown=>exact hp.elim
 |ret=>exact he.elim
 |exit id=>exact he.elim
 |goto t=>exact he.elim
 |panic c=>exact he.elim
 |outgrown=>exact he.elim
theorem qy8 {P:Program}{F:Fence}(hF:F=Fence.wide∨ ∃l0,F=inR l0){g:Operand}{ps:Array Tmp}{assign body:Code}{Q:Exit->Act->World->Prop}{a:Act}{w:World}
  {gf:Nat} {lb:Array Value} (hg:a.eval g=.func (.func gf) #[] lb) (eg: ∀args w,(callFunc gf args).run P w=.ok (.enter gf args) w)
  {d:Nat->Array Value} {N:Nat} {V:World->Prop} {T:Nat->Prop} (U:qy7 P gf lb d N V T) (aa: ∀k,(d k).size=ps.size)
  {l df:Nat} {mark:List Deferred} {W1:World}
  (r: ∀fn,∃W1',(Instr.enterLoop fn a.tmps ps assign body F.round).run P w=.ok (l,mark) W1'/\wG w W1'/\W1'.heap.size=W1.heap.size/\
    W1'.heap[l]?=some (.loop {state:=.ready,pending:=none,fn:=fn,tmps:=a.tmps,params:=ps,assign:=assign,body:=body,defers:=df})/\Keep (fun b=>b≠l) W1 W1')
  (hl:w.heap.size<=l) (hl1:l<W1.heap.size) (hTb: ∀b,T b->b<w.heap.size) (hV0:V w) (hVst: ∀X Y,V X->Keep (fun b=>b<w.heap.size) X Y->V Y)
  (I:Nat->(Nat->Prop)->World->Prop) (Ix:Code->Nat->(Nat->Prop)->World->Prop)
  (hI: ∀k O X Y,I k O X->Keep (fun b=>(b<W1.heap.size/\ ¬T b/\b≠l)∨O b) X Y->I k O Y) (hIx: ∀c k O X Y,Ix c k O X->Keep (fun b=>(b<W1.heap.size/\ ¬T b/\b≠l)∨O b) X Y->Ix c k O Y)
  (h0:I 0 (fun _=>False) W1)
  (hround: ∀k O X,k<N->I k O X->V X->W1.heap.size<=X.heap.size-> ¬O l->assign.wpIn (inR l) 0 P (Exit.then (que P l w.heap.size body V I Ix k O X) (fun _ _ _=>False)) {tmps:=(ps.zip (d k)).foldl (fun t (p,v)=>t.setIfInBounds p v) a.tmps,defers:= []} X)
  (hdone: ∀O W,I N O W->V W->W1.heap.size<=W.heap.size->Q .normal {a with defers:=mark++a.defers} W)
  (hstop: ∀c k O W,k<N->Ix c k O W->V W->W1.heap.size<=W.heap.size->c.wpIn F 0 P Q {a with defers:=mark++a.defers} W):
  (Code.rangeFunc g ps assign body).wpIn F 0 P Q a w:=by
 have R:F.depth=none:=by rcases hF with rfl |⟨l0,rfl⟩<;>rfl
 have ad: ∀f,F.fn f:=by rcases hF with rfl |⟨l0,rfl⟩<;>(intro f;trivial)
 refine wpIn_rangeFunc ?_;intro fn _;obtain⟨W1',he,ae,m,u,ah⟩:=r fn;refine⟨l,mark,W1',{target:=.fn (.func gf) lb,args:= #[.func (.yield l) #[] #[]]},W1',gf,#[.func (.yield l) #[] #[]]++lb,W1',he,?_,fun f' _=>ad f',?_,fun h=>by simp [R] at h,?_⟩
 ·simp only [resolve,hg];simp [go_sem]
 ·simp [invoke,go_sem,eg]
 ·have q:=U l
   (fun k O W=>I k O W/\ ¬O l/\W.heap[l]?=some (.loop {state:=.ready,pending:=none,fn:=fn,tmps:=a.tmps,params:=ps,assign:=assign,body:=body,defers:=df}))
   (fun k O W=> ∃c,Ix c k O W/\ ¬O l/\W.heap[l]?=some (.loop {state:=.done,pending:=some c,fn:=fn,tmps:=a.tmps,params:=ps,assign:=assign,body:=body,defers:=df}))
   (fun _=>False) W1' wC (fun b h=>h.elim) (hVst _ _ hV0 (ae.mono (fun _ _ _=>wH)))
   (fun k O X Y h hK=>⟨hI k O X Y h.1 (hK.mono (fun b _ s=>s.imp (fun h=>⟨m▸h.1,h.2.1⟩) id)),h.2.1,hK.heap h.2.2 (.inl ⟨wC,fun h=>by have:=hTb _ h;omega⟩)⟩)
   (fun k O X Y h hK=>by
    obtain⟨c,hc,y,x⟩:=h;exact⟨c,hIx c k O X Y hc (hK.mono (fun b _ s=>s.imp (fun h=>⟨m▸h.1,h.2.1⟩) id)),y,hK.heap x (.inl ⟨wC,fun h=>by have:=hTb _ h;omega⟩)⟩)
   (fun k O X hk h hV hs=>q4y (rec:=fun st pe=>{state:=st,pending:=pe,fn:=fn,tmps:=a.tmps,params:=ps,assign:=assign,body:=body,defers:=df}) rfl (B:=w.heap.size) hl wC wC aa (T:=T) (fun h=>by have:=hTb _ h;omega) hVst
    (fun k O X Y h hK=>hI k O X Y h (hK.mono (fun b _ s=>s.imp (fun h=>⟨m▸h.1,h.2⟩) id))) (fun c k O X Y h hK=>hIx c k O X Y h (hK.mono (fun b _ s=>s.imp (fun h=>⟨m▸h.1,h.2⟩) id)))
    X k O h.2.1 h.1 h.2.2 (hround k O X hk h.1 hV wC h.2.1))
   ⟨hI _ _ _ _ h0 (ah.mono (fun b _ h=>h.elim (fun h=>h.2.2) False.elim)),fun h=>h,u⟩
  have af:CallsIn F (0-1) P gf (#[.func (.yield l) #[] #[]]++lb) W1' (rangePost F 0 P l Q {a with defers:=mark++a.defers}):=by
   have ai:Calls P gf (#[.func (.yield l) #[] #[]]++lb) W1' (rangePost F 0 P l Q {a with defers:=mark++a.defers}):=by
    refine q.mono ?_;rintro e W2 ⟨⟨v,rfl⟩,ar,z,O',hJ |⟨k,hk,c,hx,y,x⟩⟩
    ·obtain⟨hi,y,x⟩:=hJ;refine⟨none,_,run_endLoop (P:=P) x wE,hdone O' _ (hI _ _ _ _ hi (Keep.putObj _ _ _ (fun h=>h.elim (fun h=>h.2.2 rfl) y))) (hVst _ _ z (Keep.putObj _ _ _ wC)) (by simp;omega)⟩
    ·refine⟨some c,_,run_endLoop (P:=P) x wE,hstop c k O' _ hk (hIx _ _ _ _ _ hx (Keep.putObj _ _ _ (fun h=>h.elim (fun h=>h.2.2 rfl) y))) (hVst _ _ z (Keep.putObj _ _ _ wC)) (by simp;omega)⟩
   have hw:CallsIn Fence.wide (0-1) P gf (#[.func (.yield l) #[] #[]]++lb) W1' (rangePost F 0 P l Q {a with defers:=mark++a.defers}):=zU.2 ai;rcases hF with rfl |⟨l0,rfl⟩
   ·exact hw
   ·exact CallsIn.inRound l0 hw
  exact af
theorem qk2 {P:Program}{g:Operand}{ps:Array Tmp}{assign body:Code}{Q:Exit->Act->World->Prop}{a:Act}{w:World}
  {gf:Nat} {lb:Array Value} (hg:a.eval g=.func (.func gf) #[] lb) (eg: ∀args w,(callFunc gf args).run P w=.ok (.enter gf args) w)
  {m:Nat->Array Value} {N:Nat} {V:World->Prop} {T:Nat->Prop} (aj:qy7 P gf lb m N V T) (al: ∀k,(m k).size=ps.size)
  (z: ∀b,T b->b<w.heap.size) (am:V w) (ab: ∀X Y,V X->Keep (fun b=>b<w.heap.size) X Y->V Y)
  (I:Nat->(Nat->Prop)->World->Prop) (Ix:Code->Nat->(Nat->Prop)->World->Prop)
  (hI: ∀k O X Y,I k O X->Keep (fun b=>(b<w.heap.size/\ ¬T b)∨O b) X Y->I k O Y) (aq: ∀c k O X Y,Ix c k O X->Keep (fun b=>(b<w.heap.size/\ ¬T b)∨O b) X Y->Ix c k O Y)
  (h0:I 0 (fun _=>False) w)
  (r: ∀l k O X,w.heap.size<=l->l<X.heap.size-> ¬O l->k<N->I k O X->V X->w.heap.size+2<=X.heap.size->assign.wpIn (inR l) 0 P (Exit.then (que P l w.heap.size body V I Ix k O X) (fun _ _ _=>False)) {tmps:=(ps.zip (m k)).foldl (fun t (p,v)=>t.setIfInBounds p v) a.tmps,defers:= []} X)
  (hdone: ∀D O W,w.heap.size<=D-> ¬O D->W.heap[D]?=some (.deferred (some []))->w.heap.size<=W.heap.size->I N O W->V W->Q .normal {a with defers:={target:=.collected D,args:= #[]}::a.defers} W)
  (hstop: ∀D c k O W,w.heap.size<=D-> ¬O D->W.heap[D]?=some (.deferred (some []))->w.heap.size<=W.heap.size->k<N->Ix c k O W->V W->c.wpIn Fence.wide 0 P Q {a with defers:={target:=.collected D,args:= #[]}::a.defers} W):
  (Code.rangeFunc g ps assign body).wpIn Fence.wide 0 P Q a w:=by
 obtain⟨W1,x⟩:=ex ((w.alloc (.deferred (some []))).alloc (.deferred (some [])));have ak:W1.heap.size=w.heap.size+2:=by rw [←x];simp
 have ao:W1.heap[w.heap.size]?=some (.deferred (some [])):=by
  rw [←x];exact(xO _ _ _ wE).trans (xP w _)
 have u:wG w W1:=by rw [←x];exact(Keep.alloc _ w _).trans (Keep.alloc _ _ _)
 refine qy8 (.inl rfl) hg eg aj al (l:=w.heap.size+1) (df:=w.heap.size) (mark:= [{target:=.collected w.heap.size,args:= #[]}]) (W1:=W1) ?_ wC wC z am ab
  (fun k O W=>I k O W/\ ¬O w.heap.size/\W.heap[w.heap.size]?=some (.deferred (some [])))
  (fun c k O W=>Ix c k O W/\ ¬O w.heap.size/\W.heap[w.heap.size]?=some (.deferred (some []))) ?_ ?_ ?_ ?_ ?_ ?_
 ·intro fn;refine⟨_,run_enterLoop_outer _ _ _ _ _,(Keep.alloc _ w _).trans (Keep.alloc _ _ _),by rw [ak];simp,?_,?_⟩
  ·have:=xP (w.alloc (.deferred (some []))) (.loop {state:=.ready,pending:=none,fn:=fn,tmps:=a.tmps,params:=ps,assign:=assign,body:=body,defers:=w.heap.size})
   rwa [zO] at this
  ·rw [←x];refine⟨rfl,rfl,rfl,wE,fun k hk hC=>?_⟩;have af:k<(w.alloc (.deferred (some []))).heap.size:=by simp at hk⊢;omega
   rw [xO _ _ _ af,xO _ _ _ af]
 ·rintro k O X Y ⟨s,q,y⟩ hK;exact⟨hI k O X Y s (hK.mono (fun b _ h=>h.imp (fun h=>⟨wC,h.2,wC⟩) id)),q,hK.heap y (.inl ⟨wC,fun h=>by have:=z _ h;omega,wC⟩)⟩
 ·rintro c k O X Y ⟨s,q,y⟩ hK;exact⟨aq c k O X Y s (hK.mono (fun b _ h=>h.imp (fun h=>⟨wC,h.2,wC⟩) id)),q,hK.heap y (.inl ⟨wC,fun h=>by have:=z _ h;omega,wC⟩)⟩
 ·exact⟨hI _ _ _ _ h0 (u.mono (fun _ _ _=>wH)),fun h=>h,ao⟩
 ·rintro k O X hk ⟨s,q,y⟩ hV ad ap;refine xt (r _ k O X wC wC ap hk s hV wC) ?_;intro e a₁ X₁ he;cases e with
  |normal=>
   obtain⟨u,hb⟩:=he;refine⟨u,fun Y hY hs hl=>xt (hb Y hY hs hl) ?_⟩;have ai:Y.heap[w.heap.size]?=some (.deferred (some [])):=hY.heap (u.heap y wC) wC;have d: ∀(R:(Nat->Prop)->Prop) (Z:World),qey w.heap.size X.heap.size V O Y Z R->qey w.heap.size X.heap.size V O Y Z (fun O'=>R O'/\ ¬O' w.heap.size/\Z.heap[w.heap.size]?=some (.deferred (some []))):=by
    rintro R Z ⟨O',hO,ag,hK,an,hR⟩;exact⟨O',hO,ag,hK,an,hR,fun h=>(ag _ h).elim q wC,hK.heap ai ⟨zG _,wC,q⟩⟩
   rintro e' a' Z U;cases e' with
   |normal=>exact d _ _ U
   |ret=>exact d _ _ U
   |exit id=>exact d _ _ U
   |goto t=>exact d _ _ U
   |panic c=>exact U.elim
   |outgrown=>exact U.elim
  |ret=>exact he.elim
  |exit id=>exact he.elim
  |goto t=>exact he.elim
  |panic c=>exact he.elim
  |outgrown=>exact he.elim
 ·rintro O W ⟨s,q,y⟩ hV ad;exact hdone _ O W (zG _) q y wC s hV
 ·rintro c k O W hk ⟨s,q,y⟩ hV ad;exact hstop _ c k O W (zG _) q y wC hk s hV
theorem qhm {P:Program}{fn:Func}{tmps:Array Value}{R:Ending->World->Prop}{D:Nat}{b:List Deferred}{w:World}(c:w.heap[D]?=some (.deferred (some [])))
  (h:LeavesInM Fence.wide 0 P fn tmps R b .returning (w.putObj D (.deferred none))):
  LeavesInM Fence.wide 0 P fn tmps R ({target:=.collected D,args:= #[]}::b) .returning w:=
 ⟨wE,.inl ⟨_,_,rfl,run_takeDeferred c,h⟩⟩
theorem qbr {P:Program}{f:FuncId}{fn:Func}{c:Code}{args:Array Value}{w:World}{R:Ending->World->Prop}
  (d:P.funcs[f]?=some fn) (b:fn.body=some c)
  (h:c.wpIn Fence.wide 0 P (bodyPost P fn R) {tmps:=args++Array.replicate (fn.ntmps-args.size) undef,defers:= []} w):Calls P f args w R:=
 zU.1 (callsIn_of_wp d b trivial h rfl)
theorem qgb {P:Program}{f:FuncId}{fn:Func}{c:Code}{args:Array Value}{w:World}{R:Ending->World->Prop}
  (d:P.funcs[f]?=some fn) (b:fn.body=some c)
  (h:c.wpIn Fence.wide 0 P (bodyPostM Fence.wide 0 P fn R) {tmps:=args++Array.replicate (fn.ntmps-args.size) undef,defers:= []} w):Calls P f args w R:=
 zU.1 (callsIn_of_wp_marks d b trivial h rfl)
def qto (c:Code):Prop:=c=.ret
def q6l (Ds:List Nat):List Deferred:=Ds.map fun D=>{target:=.collected D,args:= #[]}
def MarksAt (Ds:List Nat)(O:Nat->Prop)(w:World):Prop:= ∀D,D∈Ds-> ¬O D/\w.heap[D]?=some (.deferred (some []))
theorem MarksAt.keep {b:List Nat}{O O' C:Nat->Prop}{w w':World}(h:MarksAt b O w)(hK:Keep C w w')(d: ∀D,D∈b->C D)(e: ∀D,D∈b-> ¬O D-> ¬O' D):MarksAt b O' w':=
 fun D c=>⟨e D c (h D c).1,hK.heap (h D c).2 (d D c)⟩
theorem qg0 {P:Program}{fn:Func}{tmps:Array Value}{R:Ending->World->Prop}: ∀(Ds:List Nat) (w:World),Ds.Nodup->(∀D,D∈Ds->w.heap[D]?=some (.deferred (some [])))->
  (∀w',Keep (fun b=>b∉Ds) w w'->w'.heap.size=w.heap.size->LeavesInM Fence.wide 0 P fn tmps R [] .returning w')->LeavesInM Fence.wide 0 P fn tmps R (q6l Ds) .returning w
 | [],w,_,_,h=>h w (Keep.refl _ _) rfl
 |D::Ds,w,hn,hD,h=>by
  refine qhm (hD D wE) (qg0 Ds _ (xU.1 hn).2 (fun E hE=>?_) (fun w' hK hs=>h w' ?_ (by simpa using hs)))
  ·rw [World.putObj_heap_other (fun e:E=D=>(xU.1 hn).1 (by rw [←e];exact hE))];exact hD E (by simp [hE])
  ·exact(Keep.putObj (C:=fun b=>b∉D::Ds) w D _ wE).trans (hK.mono fun b _ c=>fun h=>c (by simp [h]))
theorem qb9 {P:Program}{fn:Func}{tmps:Array Value}{R:Ending->World->Prop}{w:World}{v:Value}(b:(results fn tmps).run P w=.ok v w)(c:R (.returned v) w):LeavesInM Fence.wide 0 P fn tmps R [] .returning w:=⟨v,b,c⟩
theorem qdg {P:Program}{f:FuncId}{fn:Func}{c:Code}(e:P.funcs[f]?=some fn)(b:(fn.name== "runtime.NumGoroutine")=false)(d:fn.body=some c):
  ∀(args:Array Value) (w:World),(callFunc f args).run P w=.ok (.enter f args) w:=by
 intro args w;have g:fn.name≠ "runtime.NumGoroutine" :=by simpa using b
 simp [callFunc,e,g,d,mark]
theorem qpe {F:Fence}{n:Nat}{P:Program}{c:Code}{Q:Exit->Act->World->Prop}{a:Act}{w:World}(G:World->Prop)(h:G w)(k: ∀W,G W->c.wpIn F n P Q a W):c.wpIn F n P Q a w:=k w h
theorem qk9 {P:Program}{c:Code}{Q:Exit->Act->World->Prop}{a:Act}{w:World}(G:World->Prop)(h:G w)(k: ∀W,G W->c.wp P Q a W):c.wp P Q a w:=k w h
theorem qiv {Q:Exit->Act->World->Prop}{e:Exit}{a:Act}{w:World}(G:World->Prop)(h:G w)(k: ∀W,G W->Q e a W):Q e a w:=k w h
theorem qwv {F:Fence}{n:Nat}{P:Program}{f:FuncId}{args:Array Value}{R:Ending->World->Prop}{w:World}(G:World->Prop)(h:G w)(k: ∀W,G W->CallsIn F n P f args W R):CallsIn F n P f args w R:=k w h
end Go.Ink
namespace Go.Ink
theorem kAl {C:Nat->Prop}{w:World}{o:Obj}:Keep C w (w.alloc o):=Keep.alloc C w o
theorem kDr {C:Nat->Prop}{w:World}:Keep C w w.drew:=Keep.drew C w
theorem kSc {C:Nat->Prop}{w:World}{p:Addr}{u:Value}(h: ¬C p.block:=by simp):Keep C w (w.setCell p u):=Keep.setCell w p u h
end Go.Ink
namespace Go.Ink
open Go.RowKit
instance reflBytes:ReflBEq ByteArray:=⟨fun {a}=>(MapKept.bytes_beq a a).2 rfl⟩
instance lawfulBytes:LawfulBEq ByteArray:=⟨fun {a b} h=>(MapKept.bytes_beq a b).1 h⟩
structure TermD where
 var:Bool
 text:ByteArray
 deriving DecidableEq,Inhabited
structure qcn where
 pred:ByteArray
 args:List TermD
 deriving DecidableEq,Inhabited
structure LitD where
 kind:Int
 atom:qcn
 left:TermD
 right:TermD
 deriving DecidableEq,Inhabited
structure RuleD where
 head:qcn
 body:List LitD
 deriving DecidableEq,Inhabited
def TermD.val (t:TermD):Value:=.agg #[.bool t.var,.string t.text]
def SliceIn {α:Type}(n:Nat)(w:World)(sz:Nat)(E:World->Nat->Nat->α->Prop)(v:Value)(xs:List α):Prop:=
 ∃a cap,v=.slice a xs.length cap/\xs.length<=1073741824/\(xs.length<=cap/\cap<=maxLen)/\ ∀k x,xs[k]?=some x-> ∃b off,a=some ⟨b,off,none⟩/\b<n/\E w b (off+k*sz) x
def TermE (w:World)(b o:Nat)(t:TermD):Prop:=w.cell? ⟨b,o,none⟩=some (.bool t.var)/\w.cell? ⟨b,o+1,none⟩=some (.string t.text)
abbrev qai (n:Nat)(w:World)(v:Value)(ts:List TermD):Prop:=SliceIn n w 2 TermE v ts
def qal (L:LitD)(sa:Value):List Value:= [.int .i64 L.kind,.string L.atom.pred,sa,.bool L.left.var,.string L.left.text,.bool L.right.var,.string L.right.text]
def CellsE (w:World)(b o:Nat)(vs:List Value):Prop:= ∀j v,vs[j]?=some v->w.cell? ⟨b,o+j,none⟩=some v
def LitE (n:Nat)(w:World)(b o:Nat)(L:LitD):Prop:= ∃sa,CellsE w b o (qal L sa)/\qai n w sa L.atom.args
abbrev qgh (n:Nat)(w:World)(v:Value)(ls:List LitD):Prop:=SliceIn n w 7 (LitE n) v ls
def LitD.terms (L:LitD):List TermD:=if L.kind=1∨L.kind=2 then L.atom.args else if L.kind=3 then [L.left,L.right] else []
theorem SliceIn.mono {α:Type}{n:Nat}{w w':World}{sz:Nat}{E d:World->Nat->Nat->α->Prop}{v:Value}{xs:List α}(h:SliceIn n w sz E v xs)
  (q: ∀b o x,b<n->E w b o x->d w' b o x):SliceIn n w' sz d v xs:=by
 obtain⟨a,cap,l,g,p,r⟩:=h;refine⟨a,cap,l,g,p,fun k x m=>?_⟩;obtain⟨b,off,e,c,h⟩:=r k x m;exact⟨b,off,e,c,q _ _ _ c h⟩
theorem SliceIn.wider {α:Type}{n d:Nat}{w w':World}{sz:Nat}{E c:World->Nat->Nat->α->Prop}{v:Value}{xs:List α}(h:SliceIn n w sz E v xs)(t:n<=d)
  (r: ∀b o x,b<n->E w b o x->c w' b o x):SliceIn d w' sz c v xs:=by
 obtain⟨a,cap,m,l,q,s⟩:=h;refine⟨a,cap,m,l,q,fun k x p=>?_⟩;obtain⟨b,off,e,g,h⟩:=s k x p;exact⟨b,off,e,wC,r _ _ _ g h⟩
theorem TermE.keep {n:Nat}{w w':World}{b o:Nat}{t:TermD}(h:TermE w b o t)(c:b<n)(hK:Keep (fun k=>k<n) w w'):TermE w' b o t:=
 ⟨hK.cell h.1 c,hK.cell h.2 c⟩
theorem qak {n:Nat}{w w':World}{v:Value}{ts:List TermD}(h:qai n w v ts)(hK:Keep (fun k=>k<n) w w'):qai n w' v ts:=
 h.mono fun _ _ _ b h=>h.keep b hK
theorem qfn {n b:Nat}{w:World}{v:Value}{ts:List TermD}(h:qai n w v ts)(c:n<=b):qai b w v ts:=
 SliceIn.wider h c fun _ _ _ _ h=>h
theorem CellsE.keep {n:Nat}{w w':World}{b o:Nat}{vs:List Value}(h:CellsE w b o vs)(c:b<n)(hK:Keep (fun k=>k<n) w w'):CellsE w' b o vs:=
 fun j v d=>hK.cell (h j v d) c
theorem LitE.keep {n:Nat}{w w':World}{b o:Nat}{L:LitD}(h:LitE n w b o L)(e:b<n)(hK:Keep (fun k=>k<n) w w'):LitE n w' b o L:=by
 obtain⟨sa,c,d⟩:=h;exact⟨sa,c.keep e hK,qak d hK⟩
theorem LitE.wider {n c:Nat}{w:World}{b o:Nat}{L:LitD}(h:LitE n w b o L)(g:n<=c):LitE c w b o L:=by
 obtain⟨sa,d,e⟩:=h;exact⟨sa,d,qfn e g⟩
theorem qi7 {n:Nat}{w w':World}{v:Value}{ls:List LitD}(h:qgh n w v ls)(hK:Keep (fun k=>k<n) w w'):qgh n w' v ls:=
 h.mono fun _ _ _ b h=>h.keep b hK
theorem qy9 {n b:Nat}{w:World}{v:Value}{ls:List LitD}(h:qgh n w v ls)(c:n<=b):qgh b w v ls:=
 SliceIn.wider h c fun _ _ _ _ h=>h.wider c
theorem qb {w:World}{B t:Nat}{vs:Array Value}{b:Nat×Nat}(h:w.heap[B]?=some (.cells vs t b)):CellsE w B 0 vs.toList:=by
 intro j v c;simp [World.cell?,h]at*;exact c
theorem qbz {w:World}{B t:Nat}{v:Value}(h:w.heap[B]?=some (.cells #[v] t (0,0))):w.cell? ⟨B,0,none⟩=some v:=by simp [World.cell?,h]
theorem qg {w:World}{B t:Nat}{vs:Array Value}(h:w.heap[B]?=some (.cells vs t (0,0)))(o:Nat):w.frozen? ⟨B,o,none⟩=false:=by simp [World.frozen?,h]
def quf (w:World):Value->Int
 |.pointer (some q)=>intOf ((w.cell? q).getD undef)
 |_=>0
theorem qsc {w:World}{q:Addr}{k:IntKind}{n:Int}(h:w.cell? q=some (.int k n)):quf w (.pointer (some q))=n:=by simp [quf,h,intOf]
theorem qh (w:World)(o:Obj):(w.alloc o).heap[w.heap.size]?=some o:=xP w o
theorem qf3 {w:World}{k:Nat}{o:Obj}(h:w.heap[k]?=some o)(o':Obj):(w.alloc o').heap[k]?=some o:=(Keep.alloc (fun _=>True) w o').heap h trivial
def LitD.uses (L:LitD):List ByteArray:=(L.terms.filter (·.var)).map (·.text)
def RuleD.headLit (r:RuleD):LitD:=⟨1,r.head,⟨false,⟨#[]⟩⟩,⟨false,⟨#[]⟩⟩⟩
def RuleD.lits (r:RuleD):List LitD:=r.headLit::r.body
def qdc:List LitD->Nat->List (Int×ByteArray)
 | [],_=> []
 |L::ls,i=>(L.uses.map fun t=>((i:Int)-1,t))++qdc ls (i+1)
def RuleD.stands (r:RuleD):List (Int×ByteArray):=qdc r.lits 0
def RuleD.off (r:RuleD)(i:Nat):Nat:=(qdc (r.lits.take i) 0).length
theorem qkp (a b:List LitD)(i:Nat):qdc (a++b) i=qdc a i++qdc b (i+a.length):=by
 induction a generalizing i with
 |nil=>simp [qdc]
 |cons L a ih=>simp [qdc,ih,xI,Nat.add_comm 1]
theorem q4z {r:RuleD}{i:Nat}{L:LitD}(h:r.lits[i]?=some L):r.off (i+1)=r.off i+L.uses.length:=by
 unfold RuleD.off;have b:i<r.lits.length:=(zA.1 h).1;have c:r.lits[i]=L:=(zA.1 h).2;rw [take_succ_eq_append_getElem b,qkp,zR,c];simp [qdc]
theorem q65 (r:RuleD):r.off r.lits.length=r.stands.length:=by simp [RuleD.off,RuleD.stands]
theorem q1r {r:RuleD}{i c:Nat}{L:LitD}(h:r.lits[i]?=some L)(e:c<L.uses.length):r.stands[r.off i+c]?=some ((i:Int)-1,L.uses[c]):=by
 unfold RuleD.off RuleD.stands;have b:i<r.lits.length:=(zA.1 h).1;have m:r.lits[i]=L:=(zA.1 h).2;have g:r.lits=r.lits.take i++(L::r.lits.drop (i+1)):=by
  rw [←m,←zt b,yy]
 conv=>lhs;rw [g,qkp]
 have d:(r.lits.take i).length=i:=by simp;omega
 simp only [qdc,d,zD,take_append_of_le_length (Nat.le_of_eq d.symm),take_take,Nat.min_self];have l:(List.take i (List.take i r.lits++L::List.drop (i+1) r.lits))=List.take i r.lits:=by
  rw [take_append_of_le_length (Nat.le_of_eq d.symm),take_take,Nat.min_self]
 try rw [l]
 rw [yH wC,Nat.add_sub_cancel_left,yS (by simpa using e)];simp [e]
def LitD.cnt (L:LitD)(k:Nat):Nat:=((L.terms.take k).filter (·.var)).length
theorem q40 (L:LitD):L.cnt 0=0:=by simp [LitD.cnt]
theorem q66 (L:LitD):L.cnt L.terms.length=L.uses.length:=by simp [LitD.cnt,LitD.uses]
theorem q41 {L:LitD}{k:Nat}{t:TermD}(h:L.terms[k]?=some t):L.cnt (k+1)=L.cnt k+if t.var then 1 else 0:=by
 unfold LitD.cnt;have b:k<L.terms.length:=(zA.1 h).1;have d:L.terms[k]=t:=(zA.1 h).2;rw [take_succ_eq_append_getElem b,yV,d];by_cases c:t.var=true
 ·simp [yg,c]
 ·simp [yg,Bool.eq_false_iff.2 c]
theorem qx1 {L:LitD}{k:Nat}{t:TermD}(h:L.terms[k]?=some t)(d:t.var=true):L.uses[L.cnt k]?=some t.text:=by
 unfold LitD.uses LitD.cnt;have b:k<L.terms.length:=(zA.1 h).1;have e:L.terms[k]=t:=(zA.1 h).2;have c:L.terms=L.terms.take k++(t::L.terms.drop (k+1)):=by
  rw [←e,←zt b,yy]
 conv=>lhs;rw [c]
 rw [yV,zn,yg,zI d,take_append_of_le_length (by simp;omega),take_take,Nat.min_self];rw [yH wE];simp
def qbf (l:List ByteArray):List ByteArray:=l.foldl (fun acc x=>if x∈acc then acc else acc++ [x]) []
theorem qib (l:List ByteArray)(x:ByteArray):qbf (l++ [x])=if x∈qbf l then qbf l else qbf l++ [x]:=by
 unfold qbf;rw [yn];rfl
theorem qm7 (l:List ByteArray):(qbf l).length<=l.length:=by
 have h: ∀(l acc:List ByteArray),(l.foldl (fun acc x=>if x∈acc then acc else acc++ [x]) acc).length<=acc.length+l.length:=by
  intro l
  induction l with
  |nil=>simp
  |cons x l ih=>
   intro acc;simp only [foldl_cons,length_cons];refine zW (ih _) ?_;split<;>simp<;>omega
 simpa [qbf]using h l []
theorem q42: ∀(l acc:List ByteArray),(acc++l).Nodup->l.foldl (fun acc x=>if x∈acc then acc else acc++ [x]) acc=acc++l:=by
 intro l
 induction l with
 |nil=>simp
 |cons x l ih=>
  intro acc h;have b:x∉acc:=fun b=>by
   rw [xY]at h;exact h.2.2 x b x wE rfl
  rw [foldl_cons,zF b,ih]
  ·simp
  ·simpa using h
theorem qk3 (l:List ByteArray):(qbf l).Nodup:=by
 have h: ∀(l acc:List ByteArray),acc.Nodup->(l.foldl (fun acc x=>if x∈acc then acc else acc++ [x]) acc).Nodup:=by
  intro l
  induction l with
  |nil=>simp
  |cons x l ih=>
   intro acc c;rw [foldl_cons];split
   ·exact ih _ c
   ·refine ih _ ?_;rw [xY];exact⟨c,wE,fun a g b d e=>by simp at d;subst d;subst e;contradiction⟩
 exact h l [] wE
theorem qza (l:List ByteArray):qbf (qbf l)=qbf l:=by
 have:=q42 (qbf l) [] (by simpa using qk3 l)
 simpa [qbf]using this
theorem qsd (l:List ByteArray)(x:ByteArray):x∈qbf l↔x∈l:=by
 have h: ∀(l acc:List ByteArray),x∈l.foldl (fun acc x=>if x∈acc then acc else acc++ [x]) acc↔x∈acc∨x∈l:=by
  intro l
  induction l with
  |nil=>simp
  |cons y l ih=>
   intro acc;simp only [foldl_cons,ih,zw];split
   ·constructor
    ·rintro(h |h)
     ·exact .inl h
     ·exact .inr (.inr h)
    ·rintro(h |h |h)
     ·exact .inl h
     ·subst h;exact .inl (by assumption)
     ·exact .inr h
   ·simp [or_assoc]
 simpa [qbf]using h l []
theorem q67 {α:Type}{p:α->Bool}{l:List α}{k:Nat}{s:α}(h: ∀x,x∈l.take k->p x=false)(d:l[k]?=some s)(e:p s=true):l.find? p=some s:=by
 have c:=(zA.1 d).1;have m:=(zA.1 d).2;have b:l=l.take k++(s::l.drop (k+1)):=by rw [←m,←zt c,yy]
 rw [b,find?_append,yp.2 (fun x g=>by simp [h x g]),find?_cons,e]
 rfl
def RuleD.names (r:RuleD):List ByteArray:=r.stands.map (·.2)
def RuleIn (n:Nat)(w:World)(sh sb:Value)(r:RuleD):Prop:=qai n w sh r.head.args/\qgh n w sb r.body
theorem RuleIn.keep {n:Nat}{w w':World}{sh b:Value}{r:RuleD}(h:RuleIn n w sh b r)(hK:Keep (fun k=>k<n) w w'):RuleIn n w' sh b r:=⟨qak h.1 hK,qi7 h.2 hK⟩
theorem RuleIn.wider {n c:Nat}{w:World}{sh d:Value}{r:RuleD}(h:RuleIn n w sh d r)(b:n<=c):RuleIn c w sh d r:=⟨qfn h.1 b,qy9 h.2 b⟩
def qgr (w:World)(b o:Nat)(s:ByteArray):Prop:=w.cell? ⟨b,o,none⟩=some (.string s)
abbrev qac (n:Nat)(w:World)(v:Value)(ss:List ByteArray):Prop:=SliceIn n w 1 qgr v ss
theorem qm8 {n:Nat}{w w':World}{v:Value}{ts:List ByteArray}(h:qac n w v ts)(hK:Keep (fun k=>k<n) w w'):qac n w' v ts:=
 h.mono fun _ _ _ b h=>hK.cell h b
theorem qb2 {n b:Nat}{w:World}{v:Value}{ts:List ByteArray}(h:qac n w v ts)(c:n<=b):qac b w v ts:=
 SliceIn.wider h c fun _ _ _ _ h=>h
def qgc (w:World)(b o:Nat)(s:Int):Prop:=w.cell? ⟨b,o,none⟩=some (.int .i64 s)
abbrev qat (n:Nat)(w:World)(v:Value)(ss:List Int):Prop:=SliceIn n w 1 qgc v ss
theorem qdb {α:Type}{w:World}{base:Nat}{e:TypeId}{sz:Nat}{v:Value}{n:Nat}{xs:List Value}(h:w.ownsRow base e sz v n xs)(c:List α)(q:n=c.length)(p:c.length<=1073741824)
  (E:World->Nat->Nat->α->Prop) (r: ∀b k d,c[k]?=some d->(∀j,j<sz->w.cell? ⟨b,k*sz+j,none⟩=xs[k*sz+j]?)->E w b (k*sz) d):SliceIn w.heap.size w sz E v c:=by
 subst q;obtain⟨t,h⟩:=h;rcases h with ⟨rfl,h0⟩ |⟨g,cap,cur,rfl,hbg,hg,hc,hm,hs,ht⟩
 ·refine⟨none,0,by rw [h0],p,by simp [h0,maxLen],fun k x l=>?_⟩;have:=(zA.1 l).1;omega
 ·refine⟨_,cap,rfl,p,⟨hc,hm⟩,fun k x l=>⟨g,0,rfl,qe hg,?_⟩⟩;rw [zD];refine r _ _ _ l (fun j u=>?_);have s:=(zA.1 l).1;have m:k*sz+j<c.length*sz:=by
   have:(k+1)*sz<=c.length*sz:=yY _ s;rw [xK]at this;omega
  subst ht;simp [World.cell?,hg,getElem?_take,m]
theorem qbq {w:World}{base:Nat}{e:TypeId}{v:Value}{n:Nat}{ss:List ByteArray}(h:w.ownsRow base e 1 v n (ss.map .string))(g:ss.length<=1073741824):qac w.heap.size w v ss:=
 qdb h ss (by have:=h.1;simpa using this.symm) g qgr fun b k d hd c=>by
  have:=c 0 wC;simp only [yB,Nat.add_zero]at this⊢;rw [qgr,this];simp [hd]
theorem qen {w:World}{base:Nat}{e:TypeId}{v:Value}{n:Nat}{ss:List Int}(h:w.ownsRow base e 1 v n (ss.map (.int .i64)))(g:ss.length<=1073741824):qat w.heap.size w v ss:=
 qdb h ss (by have:=h.1;simpa using this.symm) g qgc fun b k d hd c=>by
  have:=c 0 wC;simp only [yB,Nat.add_zero]at this⊢;rw [qgc,this];simp [hd]
theorem qf {w w':World}{base:Nat}{e:TypeId}{sz:Nat}{v:Value}{n:Nat}{xs:List Value}{C:Nat->Prop}(h:w.ownsRow base e sz v n xs)(hK:Keep C w w')(c: ∀b,v.ownBlock=some b->C b):w'.ownsRow base e sz v n xs:=by
 refine⟨h.1,?_⟩;rcases h.2 with hn |⟨g,cap,cur,rfl,hb,hgg,rest⟩
 ·exact .inl hn
 ·exact .inr ⟨g,cap,cur,rfl,hb,hK.heap hgg (c g rfl),rest⟩
theorem qbj {α:Type}(f:α->List Value)(sz:Nat)(b: ∀a,(f a).length=sz): ∀(ps:List α) (k j:Nat) (p:α),ps[k]?=some p->j<sz->(ps.flatMap f)[k*sz+j]?=(f p)[j]?:=by
 intro ps
 induction ps with
 |nil=>intro k j p h;simp at h
 |cons a ps ih=>
  intro k j p h c;cases k with
  |zero=>
   simp at h;subst h;simp only [yF,Nat.zero_mul,zD];rw [yS (by rw [b];exact c)]
  |succ k=>
   simp only [getElem?_cons_succ]at h;simp only [yF];have e:(k+1)*sz+j=sz+(k*sz+j):=by rw [xK];omega
   rw [e,yH (by rw [b];omega),b,Nat.add_sub_cancel_left];exact ih k j p h c
theorem qa4 {α:Type}(f:α->List Value)(sz:Nat)(b: ∀a,(f a).length=sz)(ps:List α):(ps.flatMap f).length=ps.length*sz:=by
 induction ps with
 |nil=>simp
 |cons a ps ih=>simp [b,ih,xK];omega
theorem qug {n0:Nat}{w:World}{base:Nat}{e:TypeId}{v:Value}{n:Nat}{ps:List (LitD×Value)}(h:w.ownsRow base e 7 v n (ps.flatMap fun p=>qal p.1 p.2))(r:ps.length<=1073741824)(q:n0<=w.heap.size)
  (c: ∀p,p∈ps->qai n0 w p.2 p.1.atom.args):qgh w.heap.size w v (ps.map (·.1)):=
 qdb h (ps.map (·.1)) (by have:=h.1;rw [qa4 _ 7 (fun _=>rfl)] at this;simp;omega) (by simpa using r) (LitE w.heap.size) fun b k d hd s=>by
  rw [zP]at hd;obtain⟨p,g,rfl⟩:=xQ.1 hd;refine⟨p.2,fun j u l=>?_,qfn (c p (zH g)) q⟩;have m:j<7:=(zA.1 l).1;rw [s j m,qbj _ 7 (fun _=>rfl) ps k j p g m];exact l
theorem qj0 (r:RuleD):r.names=r.headLit.uses++r.body.flatMap LitD.uses:=by
 have h: ∀(ls:List LitD) (i:Nat),(qdc ls i).map (·.2)=ls.flatMap LitD.uses:=by
  intro ls
  induction ls with
  |nil=>simp [qdc]
  |cons L ls ih=>intro i;simp [qdc,ih,Function.comp_def]
 rw [RuleD.names,RuleD.stands,h,RuleD.lits,yF]
def qcm (body:List LitD):List ByteArray:=qbf ((body.filter fun L=>L.kind==1).flatMap LitD.uses)
def SetIn (w:World)(b:Nat)(s:List ByteArray):Prop:=
 ∃es clock,w.heap[b]?=some (.map es clock)/\es.toList.map (fun e=>(e.key,e.val))=s.map fun k=>(Value.string k,Value.bool true)
theorem SetIn.keep {w w':World}{b:Nat}{s:List ByteArray}{C:Nat->Prop}(h:SetIn w b s)(hK:Keep C w w')(d:C b):SetIn w' b s:=by
 obtain⟨e,c,g,l⟩:=h;exact⟨e,c,hK.heap g d,l⟩
theorem qm9 (w:World):SetIn (w.alloc (.map #[] 0)) w.heap.size []:=⟨#[],0,qh w _,rfl⟩
theorem SetIn.lt {w:World}{b:Nat}{s:List ByteArray}(h:SetIn w b s):b<w.heap.size:=by
 obtain⟨e,c,d,g⟩:=h;exact qe d
theorem qos (k:ByteArray): ∀(s:List ByteArray) (es:List MapEntry) (i:Nat),es.map (fun e=>(e.key,e.val))=s.map (fun k=>(Value.string k,Value.bool true))->
  ∃r,Instr.findNow .string (.string k) es i=some r/\(r=none/\k∉s∨ ∃j,r=some (i+j,.bool true)/\s[j]?=some k):=by
 intro s
 induction s with
 |nil=>intro es i h;cases es with
  |nil=>exact⟨none,rfl,.inl ⟨rfl,wE⟩⟩
  |cons e es=>simp at h
 |cons a s ih=>intro es i h;cases es with
  |nil=>simp at h
  |cons e es=>
   simp only [yZ,List.cons.injEq,Prod.mk.injEq]at h;obtain⟨⟨c,l⟩,d⟩:=h;by_cases b:k=a
   ·subst b;refine⟨some (i,.bool true),?_,.inr ⟨0,rfl,rfl⟩⟩;simp [Instr.findNow,Instr.sameNow,c,l]
   ·obtain⟨r,g,m⟩:=ih es (i+1) d;refine⟨r,?_,?_⟩
    ·have:(k==a)=false:=by simpa using b
     simp [Instr.findNow,Instr.sameNow,c,this,g]
    ·rcases m with ⟨rfl,hn⟩ |⟨j,rfl,hj⟩
     ·exact .inl ⟨rfl,by simp [b,hn]⟩
     ·exact .inr ⟨j+1,by simp;omega,by simpa using hj⟩
section
variable {P : Program} {T K E : TypeId} (hT : P.underlying T = some (.map K E)) (hK : P.underlying K = some .string)
include hT hK
theorem qiw (m: ∀w,(zeroValue E).run P w=.ok (.bool false) w){w:World}{b:Nat}{s:List ByteArray}(h:SetIn w b s)(k:ByteArray):
  (Instr.lookup T (.map (some b)) (.string k) false).run P w=.ok (.bool (decide (k∈s))) w:=by
 obtain⟨d,c,q,t⟩:=h;obtain⟨r,l,u⟩:=qos k s d.toList 0 t;have p:(getObj b).run P w=.ok (.map d c) w:=by simp [getObj,Sem.run,q]
 have g: ∀e n,(Instr.checkKey e (n+1) K (.string k)).run P w=.ok () w:=by intro e n;simp [Instr.checkKey,yt,yo hK,Result.andThen]
 simp only [Instr.lookup,yt,yo hT,Result.andThen,p,Sem.run_pure,g,Instr.findKey,yo hK,l];rcases u with ⟨rfl,hn⟩ |⟨j,rfl,hj⟩
 ·simp [yt,m,Result.andThen,hn]
 ·have:k∈s:=zH hj;simp [yt,Result.andThen,this]
theorem qix {w:World}{b:Nat}{s:List ByteArray}(h:SetIn w b s)(k:ByteArray):
  ∃w',(Instr.mapUpdate T (.map (some b)) (.string k) (.bool true)).run P w=.ok () w'/\SetIn w' b (if k∈s then s else s++ [k])/\Keep (fun j=>j≠b) w w'/\w'.heap.size=w.heap.size:=by
 obtain⟨m,c,x,q⟩:=h;obtain⟨r,y,U⟩:=qos k s m.toList 0 q;have R:(getObj b).run P w=.ok (.map m c) w:=by simp [getObj,Sem.run,x]
 have g: ∀o,(setObj b o).run P w=.ok () (w.putObj b o):=by intro o;simp [setObj,Sem.run,x,World.putObj]
 have z: ∀e n,(Instr.checkKey e (n+1) K (.string k)).run P w=.ok () w:=by intro e n;simp [Instr.checkKey,yt,yo hK,Result.andThen]
 rcases U with ⟨rfl,hn⟩ |⟨j,rfl,hj⟩
 ·refine⟨w.putObj b (.map (m.push {key:=.string k,val:=.bool true,born:=c}) (c+1)),?_,?_,Keep.putObj _ _ _ wE,wE⟩
  ·simp [Instr.mapUpdate,yt,yo hT,Result.andThen,R,z,Instr.findKey,yo hK,y,g]
  ·exact⟨_,_,xB (qe x),by simp [hn,q]⟩
 ·have u:k∈s:=zH hj;have t:(m[j]?).map (·.key)=some (.string k):=by
   have d:=yO (fun l=>l[j]?) q;simp only [zP,hj,Option.map_some]at d;cases v:m[j]? with
   |none=>simp [v] at d
   |some e=>simp [v] at d;simp [d.1]
  have p:(Instr.keyThatStays (.string k) (.string k)).run P w=.ok (.string k) w:=by simp [Instr.keyThatStays,Instr.sameBits]
  refine⟨w.putObj b (.map (m.modify j fun e=>{e with key:=.string k,val:=.bool true}) c),?_,?_,Keep.putObj _ _ _ wE,wE⟩
  ·simp [Instr.mapUpdate,yt,yo hT,Result.andThen,R,z,Instr.findKey,yo hK,y,g,t,p]
  ·refine⟨_,_,xB (qe x),?_⟩;rw [zI u,←q];apply xZ;intro i;simp only [zP,xj,Array.getElem?_modify];by_cases hi:j=i
   ·subst hi;have d:=yO (fun l=>l[j]?) q;simp only [zP,hj,Option.map_some]at d;cases v:m[j]? with
    |none=>simp [v] at d
    |some e=>simp [v] at d;simp [d]
   ·simp [hi]
end
end Go.Ink
