/- Parts of the proof. -/
import Derived.Test.YtnponcjnahicnaaGreatProg
import Derived.Test.YtnponcjnahicnaaGreatRelHToRelJ
import Derived.Test.YtnponcjnahicnaaGreatMapsToRelG
import Derived.Test.YtnponcjnahicnaaGreatDataToOwnB
import Derived.WideKeyArr
import Derived.Test.YtnponcjnahicnaaGreatHoistToRowC
import Derived.Test.YtnponcjnahicnaaGreatHdToKp
set_option linter.unusedSimpArgs false
set_option linter.unusedVariables false
open Go.Proofs.Tryz(prog)
open List(append_nil drop_eq_getElem_cons eq_of_mem_replicate filter_append filter_congr filter_cons filter_eq_nil_iff getD_eq_getElem?_getD getElem?_append_left getElem?_eq_getElem getElem?_map getElem_cons_succ getElem_cons_zero getElem_mem getElem_toArray length_append length_filter_le length_singleton mapM_cons map_cons mem_append mem_map mem_of_getElem? mem_range range_succ setIfInBounds_toArray set_cons_succ set_cons_zero)
namespace Go.Proofs.R4
open Go.RowKit Go.Ink Go.WideMaps
def okI (x:Int):Prop:= -9223372036854775808<=x/\x<=9223372036854775807
def okT (t:List Int):Prop:= ∀x∈t,okI x
theorem qk6:ArrKey prog 176 3 16:=⟨Tryz.underlying176,by kernel_rfl,by kernel_rfl,by kernel_rfl⟩
theorem qq2:ArrKey prog 179 4 16:=⟨Tryz.underlying179,by kernel_rfl,by kernel_rfl,by kernel_rfl⟩
theorem ql1: ∃m,prog.types.size=m+1:=⟨prog.types.size-1,by
 have:0<prog.types.size:=of_decide_eq_true (by kernel_rfl);omega⟩
theorem qr2 {α β:Type}(f:α->Option β): ∀L:List α,(∀i∈L,∃x,f i=some x)-> ∃xs,L.mapM f=some xs
 | [],_=>⟨[],rfl⟩
 |i::L,h=>by
  obtain⟨x,hx⟩:=h i (by simp);obtain⟨xs,hxs⟩:=qr2 f L (fun j hj=>h j (by simp [hj]));exact⟨x::xs,by rw [mapM_cons,hx,hxs];rfl⟩
theorem qr3 {P:Program}{k e:TypeId}{n:Nat}(A:ArrKey P k e n)(hsz: ∃m,P.types.size=m+1)(vs:List Value)(hn:vs.length=n)(h: ∀v∈vs,∃l,∀D,P.keyLits (D+1) e [v]=some l): ∃l,keyOf P k (.agg vs.toArray)=some l:=by
 have hkt:=A.keyType hsz;obtain⟨m,hm⟩:=hsz;unfold keyOf;simp only [A.hu];rw [if_pos (by simp [hkt,Value.formed,A.hu,A.size,hn]),hm];unfold Program.keyLits;simp only [A.hu,Value.cells];rw [if_pos (by rw [A.size];exact hn)];obtain⟨xs,hxs⟩:=qr2 (fun i=>P.keyLits (m+1) e ((vs.drop (i*P.cellsOf e)).take (P.cellsOf e))) (List.range n) (fun i hi=>by
  rw [A.one,Nat.mul_one];have hi:=mem_range.1 hi;have h1:(vs.drop i).take 1= [vs[i]'(by omega)]:=by
   rw [drop_eq_getElem_cons (by omega)]
   rfl
  rw [h1];obtain⟨l,hl⟩:=h _ (getElem_mem (by omega:i<vs.length));exact⟨l,hl m⟩)
 simp only [hxs];exact⟨_,rfl⟩
theorem qp2 {k:List Int}(hl:k.length=16)(h:okT k): ∃l,keyOf prog 176 (qg5 k)=some l:=
 qr3 qk6 ql1 _ (by simp [hl]) (fun v hv=>by
  obtain⟨x,hx,rfl⟩:=mem_map.1 hv;have:=h x hx;refine⟨[.int .i64 x],fun D=>?_⟩;unfold Program.keyLits;have hw:(Lit.int .i64 x).wf=true:=by
   simp only [Lit.wf,Bool.and_eq_true,decide_eq_true_eq];exact this
  simp only [Tryz.underlying3,hw,and_self,if_true])
def qh4 (c:List Bool):Value:=.agg (c.map .bool).toArray
theorem qug: ∀a b:List Bool,qh4 a=qh4 b->a=b:=by
 intro a b h;unfold qh4 at h;injection h with h
 have h2:a.map Value.bool=b.map .bool:=by simpa using congrArg Array.toList h
 clear h
 induction a generalizing b with
 |nil=>cases b with
  |nil=>rfl
  |cons y b=>simp at h2
 |cons x a ih=>cases b with
  |nil=>simp at h2
  |cons y b=>
   simp only [map_cons,List.cons.injEq,Value.bool.injEq]at h2;rw [h2.1,ih b h2.2]
theorem q7b {c:List Bool}(hl:c.length=16): ∃l,keyOf prog 179 (qh4 c)=some l:=
 qr3 qq2 ql1 _ (by simp [hl]) (fun v hv=>by
  obtain⟨x,hx,rfl⟩:=mem_map.1 hv;refine⟨[.bool x],fun D=>?_⟩;unfold Program.keyLits;rw [Tryz.underlying4])
theorem qnu {t:List Int}(h:okT t):okT (qa6 t):=by
 intro x hx;unfold qa6 at hx;rcases mem_append.1 hx with hx |hx
 ·exact h x hx
 ·have:=eq_of_mem_replicate hx;subst this;exact⟨by decide,by decide⟩
theorem q56 {t l:List Int}(h:okT t):okT (qen t l):=by
 intro x hx;unfold qen at hx;obtain⟨c,_,rfl⟩:=mem_map.1 hx;rw [getD_eq_getElem?_getD];cases he:t[c.toNat]? with
 |none=>exact⟨by decide,by decide⟩
 |some y=>exact h y (mem_of_getElem? he)
inductive Tag where
 |box |data |pmap |kmap
 |lbox (c:List Bool) |llist (c:List Bool) |lmap (c:List Bool)
 |ent (c:List Bool) (k:List Int) (p:Nat)
abbrev qb2:=Nat->Option Tag
def qb5:Option Tag->Option (List Bool)
 |some (.lbox c) |some (.llist c) |some (.lmap c) |some (.ent c _ _)=>some c
 |_=>none
def TagLe (s t:qb2):Prop:= ∀b T,s b=some T->t b=some T∨ ∃c k p q,T=.ent c k p/\t b=some (.ent c k q)/\p<=q
theorem TagLe.refl (s:qb2):TagLe s s:=fun _ _ h=>.inl h
theorem TagLe.trans {s t u:qb2}(h:TagLe s t)(g:TagLe t u):TagLe s u:=by
 intro b T hb;rcases h b T hb with h1 |⟨c,k,p,q,rfl,h1,hpq⟩
 ·exact g b T h1
 ·rcases g b _ h1 with h2 |⟨c2,k2,p2,q2,h3,h2,hpq2⟩
  ·exact .inr ⟨c,k,p,q,rfl,h2,hpq⟩
  ·cases h3;exact .inr ⟨c,k,p,q2,rfl,h2,by omega⟩
def qaq (l:List Int):List Bool:=(List.range 16).map fun i:Nat=>decide ((i:Int)∈l)
def idx (ts:List (List Int))(l k:List Int):List Nat:=(List.range ts.length).filter fun i=>decide (qcb (ts.getD i []) l=k)
theorem qk7 (ts:List (List Int))(t l k:List Int):idx (ts++ [t]) l k=idx ts l k++(if qcb t l=k then [ts.length] else []):=by
 unfold idx;rw [length_append,length_singleton,range_succ,filter_append]
 congr 1
 ·refine filter_congr fun i hi=>?_;rw [mem_range]at hi;rw [getD_eq_getElem?_getD,getD_eq_getElem?_getD,getElem?_append_left hi]
 ·by_cases hc:qcb t l=k
  ·simp [filter_cons,getD_eq_getElem?_getD,hc]
  ·simp [filter_cons,getD_eq_getElem?_getD,hc]
theorem qxc (ts:List (List Int))(l k:List Int):(idx ts l k).length<=ts.length:=by
 unfold idx;exact Nat.le_trans (length_filter_le _ _) (by simp)
abbrev qh5 (i:Nat):Value:=.int .i64 (i:Int)
abbrev q1m (w:World)(M:Nat)(m:List (List Int×Value)):Prop:=MapIn prog 176 qg5 (fun v:Value=>v) w M m
structure LookAt (tag:qb2)(w:World)(n:Nat)(ts:List (List Int))(c:List Bool)(L:Nat)(l:List Int)(vl:Value)(M:Nat)(m:List (List Int×Value)):Prop where
 row:qdo n l=true
 mask:qaq l=c
 tagL:tag L=some (.lbox c)
 box:w.heap[L]?=some (.cells #[vl,.map (some M)] 229 (0,0))
 tagM:tag M=some (.lmap c)
 map:q1m w M m
 list:w.ownsRow 0 3 1 vl l.length (l.map (.int .i64))
 tagl: ∀b,vl.ownBlock=some b->tag b=some (.llist c)
 keys: ∀k,k∈m.map (·.1)↔ ∃t∈ts,qcb t l=k
 few:m.length<=ts.length
 ents: ∀k v,(k,v)∈m->w.ownsRow 0 3 1 v (idx ts l k).length ((idx ts l k).map qh5)/\ ∀b,v.ownBlock=some b->tag b=some (.ent c k (idx ts l k).length)
 blocks: ∀b k p,tag b=some (.ent c k p)-> ∀j,j<p-> ∃i,(idx ts l k)[j]?=some i/\w.cell? ⟨b,j,none⟩=some (qh5 i)
theorem LookAt.keep {tag tag':qb2}{w w':World}{n:Nat}{ts:List (List Int)}{c:List Bool}{L M:Nat}{l:List Int}{vl:Value}{m:List (List Int×Value)}{C:Nat->Prop}(h:LookAt tag w n ts c L l vl M m)(hK:Keep C w w')(hC: ∀b,qb5 (tag b)=some c->C b)(ht: ∀b,qb5 (tag b)=some c->tag' b=tag b)(ht2: ∀b,qb5 (tag' b)=some c->tag' b=tag b):LookAt tag' w' n ts c L l vl M m:=by
 have hL:qb5 (tag L)=some c:=by rw [h.tagL];rfl
 have hM:qb5 (tag M)=some c:=by rw [h.tagM];rfl
 have hl: ∀b,vl.ownBlock=some b->qb5 (tag b)=some c:=fun b hb=>by rw [h.tagl b hb];rfl
 refine⟨h.row,h.mask,(ht L hL).trans h.tagL,hK.heap h.box (hC L hL),(ht M hM).trans h.tagM,h.map.keep hK (hC M hM),qg h.list hK (fun b hb=>hC b (hl b hb)),fun b hb=>(ht b (hl b hb)).trans (h.tagl b hb),h.keys,h.few,fun k v hkv=>?_,fun b k p hb j hj=>?_⟩
 ·obtain⟨h1,h2⟩:=h.ents k v hkv;have h3: ∀b,v.ownBlock=some b->qb5 (tag b)=some c:=fun b hb=>by rw [h2 b hb];rfl
  exact⟨qg h1 hK (fun b hb=>hC b (h3 b hb)),fun b hb=>(ht b (h3 b hb)).trans (h2 b hb)⟩
 ·have h0:=ht2 b (by rw [hb];rfl);rw [hb]at h0;obtain⟨i,h1,h2⟩:=h.blocks b k p h0.symm j hj;exact⟨i,h1,hK.cell h2 (hC b (by rw [←h0];rfl))⟩
structure TagStep (c:List Bool)(tag tag':qb2)(w w':World):Prop where
 le:TagLe tag tag'
 old: ∀b,b<w.heap.size->qb5 (tag b)≠some c->tag' b=tag b
 new: ∀b T,tag' b=some T->b<w'.heap.size/\(w.heap.size<=b->qb5 (some T)=some c)
 ents: ∀b c',qb5 (tag' b)=some c'->qb5 (tag b)=some c'∨c'=c
theorem quh: ∀w:World,(zeroValue 86).run prog w=.ok (.slice none 0 0) w:=fun w=>by kernel_rfl
theorem q1n {tag:qb2}{W W2:World}{n:Nat}{ts:List (List Int)}{c:List Bool}{L M:Nat}{l:List Int}{vl:Value}{m:List (List Int×Value)}(h:LookAt tag W n ts c L l vl M m)(hlt: ∀b T,tag b=some T->b<W.heap.size)(t:List Int)(hts:ts.length<=536870912)
  (hK2:Keep (fun b=>b≠M) W W2) (hs2:W2.heap.size=W.heap.size+1) (hnb:W2.heap[W.heap.size]?=some (.cells #[qh5 ts.length] 3 (0,0))) (v0:Value) (hv0:(∃v,(qcb t l,v)∈m/\v0=v)∨(qcb t l∉m.map (·.1)/\v0=.slice none 0 0)) (st:Int)
  (hst: ∀w2:World,w2.heap[M]?=W2.heap[M]?-> ∀v:Value,∃w3,(Instr.entryStore 227 (.map (some M)) (.int .i64 st) v).run prog w2=.ok () w3/\q1m w3 M (setK m (qcb t l) v)/\Keep (fun j=>j≠M) w2 w3/\w3.heap.size=w2.heap.size):
  ∃v' W3 W4,(Builtin.append_ #[86,86] 86 #[v0,.slice (some ⟨W.heap.size,0,none⟩) 1 1]).run prog W2=.ok v' W3/\(Instr.entryStore 227 (.map (some M)) (.int .i64 st) v').run prog W3=.ok () W4/\Keep (fun b=>b≠M/\ ∀k p,tag b≠some (.ent c k p)) W W3/\
   ∃tag',LookAt tag' W4 n (ts++ [t]) c L l vl M (setK m (qcb t l) v')/\TagStep c tag tag' W W4/\Keep (fun b=>qb5 (tag b)≠some c) W W4:=by
 have hMlt:=hlt M _ h.tagM;have hown0:W.ownsRow 0 3 1 v0 (idx ts l (qcb t l)).length ((idx ts l (qcb t l)).map qh5)/\ ∀b,v0.ownBlock=some b->tag b=some (.ent c (qcb t l) (idx ts l (qcb t l)).length):=by
  rcases hv0 with ⟨v,hv,rfl⟩ |⟨hno,rfl⟩
  ·exact h.ents _ _ hv
  ·have:idx ts l (qcb t l)= []:=by
    refine filter_eq_nil_iff.2 fun i hi=>?_;rw [mem_range]at hi;simp only [decide_eq_true_eq];intro he;refine hno ((h.keys _).2 ⟨ts.getD i [],?_,he⟩);rw [getD_eq_getElem?_getD,getElem?_eq_getElem hi];exact getElem_mem hi
   rw [this];exact⟨World.ownsRow_nil _ _ _ _,fun b hb=>by simp [Value.ownBlock] at hb⟩
 obtain⟨ho0,ht0⟩:=hown0;have hM0: ∀b,v0.ownBlock=some b->b≠M:=fun b hb e=>by have:=ht0 b hb;rw [e,h.tagM] at this;cases this
 have ho2:=qg ho0 hK2 hM0;have hil:=qxc ts l (qcb t l);obtain⟨v',W3,hr3,ho3,g,cap,hv',hg,hgl,hK3⟩:=q6q qm3 86 ho2 ⟨W.heap.size,0,none⟩ 1 1 [qh5 ts.length] rfl (fun j u hj=>by
  have:=qb hnb j u (by simpa using hj);simp only [Nat.zero_add]at this;rw [show((⟨W.heap.size,0,none⟩:Addr).add j)=⟨W.heap.size,j,none⟩ from by unfold Addr.add;split<;>simp_all];exact this) (by simp [Value.oneCell']) (by omega) (by omega) (by omega)
 have hgtag:tag g=some (.ent c (qcb t l) (idx ts l (qcb t l)).length)∨(tag g=none/\W.heap.size<g):=by
  rcases hg with hg |hg
  ·exact .inl (ht0 g hg)
  ·refine .inr ⟨?_,by omega⟩;cases hT:tag g with
   |none=>rfl
   |some T=>have:=hlt g T hT;omega
 have hgne: ∀b,qb5 (tag b)=some c->(∀p,tag b≠some (.ent c (qcb t l) p))->b≠g:=fun b hb hno e=>by
  subst e;rcases hgtag with h1 |⟨h1,_⟩
  ·exact hno _ h1
  ·rw [h1]at hb;cases hb
 have hMg:M≠g:=hgne M (by rw [h.tagM];rfl) (fun p=>by rw [h.tagM];exact fun e=>(by cases e));obtain⟨W4,hr4,hm4,hK4,hs4⟩:=hst W3 (hK3.block M (by omega) hMg) v';have hz3:=hK3.size;have hKK:Keep (fun b=>b≠M/\b≠g) W W4:=(hK2.mono fun b _ h=>h.1).trans ((hK3.mono fun b _ h=>h.2).trans (hK4.mono fun b _ h=>h.1));have hKm:Keep (fun b=>b≠M/\ ∀k p,tag b≠some (.ent c k p)) W W3:=(hK2.mono fun b _ h=>h.1).trans (hK3.mono fun b hb h e=>by
  subst e;rcases hgtag with h1 |⟨_,h1⟩
  ·exact h.2 _ _ h1
  ·rcases hg with hg |hg
   ·have:=(World.ownsRow.lt ho0 _ hg).2;omega
   ·omega)
 refine⟨v',W3,W4,hr3,hr4,hKm,fun b=>if b=g then some (.ent c (qcb t l) ((idx ts l (qcb t l)).length+1)) else tag b,?_,⟨?_,?_,?_,?_⟩,?_⟩
 ·have hlook: ∀b,qb5 (tag b)=some c->b≠M->b≠g->b≠M/\b≠g:=fun b _ h1 h2=>⟨h1,h2⟩;have hL:L≠M/\L≠g:=⟨fun e=>(by have:=h.tagL;rw [e,h.tagM] at this;cases this),hgne L (by rw [h.tagL];rfl) (fun p=>by rw [h.tagL];exact fun e=>(by cases e))⟩;have hll: ∀b,vl.ownBlock=some b->b≠M/\b≠g:=fun b hb=>⟨fun e=>(by have:=h.tagl b hb;rw [e,h.tagM] at this;cases this),hgne b (by rw [h.tagl b hb];rfl) (fun p=>by rw [h.tagl b hb];exact fun e=>(by cases e))⟩;refine⟨h.row,h.mask,by rw [if_neg hL.2];exact h.tagL,hKK.heap h.box hL,by rw [if_neg hMg];exact h.tagM,hm4,qg h.list hKK hll,fun b hb=>by rw [if_neg (hll b hb).2];exact h.tagl b hb,fun k=>?_,?few,fun k v hkv=>?_,fun b k p hb j hj=>?_⟩
  case few=>
   have:=h.few;unfold setK;split<;>simp<;>omega
  ·have hset:k∈(setK m (qcb t l) v').map (·.1)↔k∈m.map (·.1)∨k=qcb t l:=by
    by_cases hin:qcb t l∈m.map (·.1)
    ·rw [qm0 hin];exact⟨.inl,fun h=>h.elim id (fun e=>e▸hin)⟩
    ·unfold setK;rw [if_neg hin];simp
   rw [hset,h.keys];constructor
   ·rintro(⟨t1,ht1,e⟩ |e)
    ·exact⟨t1,by simp [ht1],e⟩
    ·exact⟨t,by simp,e.symm⟩
   ·rintro⟨t1,ht1,e⟩;rcases mem_append.1 ht1 with ht1 |ht1
    ·exact .inl ⟨t1,ht1,e⟩
    ·have:t1=t:=by simpa using ht1
     subst this;exact .inr e.symm
  ·have hcase:(k=qcb t l/\v=v')∨(k≠qcb t l/\(k,v)∈m):=by
    unfold setK at hkv;split at hkv
    ·obtain⟨p,hp,he⟩:=mem_map.1 hkv;split at he
     ·rename_i e1;cases he;exact .inl ⟨rfl,rfl⟩
     ·rename_i e1;subst he;exact .inr ⟨e1,hp⟩
    ·rename_i hno;rcases mem_append.1 hkv with hp |hp
     ·exact .inr ⟨fun e=>hno (e▸mem_map.2 ⟨_,hp,rfl⟩),hp⟩
     ·simp at hp;exact .inl hp
   rcases hcase with ⟨rfl,rfl⟩ |⟨hne,hmem⟩
   ·rw [qk7,if_pos rfl];refine⟨?_,fun b hb=>?_⟩
    ·have:=qg ho3 hK4 (fun b hb=>by rw [hv'] at hb;simp only [Value.ownBlock,Option.some.injEq] at hb;rw [←hb];exact fun e=>hMg e.symm)
     simpa using this
    ·rw [hv']at hb;simp only [Value.ownBlock,Option.some.injEq]at hb;rw [if_pos hb.symm];simp
   ·rw [qk7,if_neg (fun e=>hne e.symm),append_nil];obtain⟨h1,h2⟩:=h.ents k v hmem;have h3: ∀b,v.ownBlock=some b->b≠M/\b≠g:=fun b hb=>⟨fun e=>(by have:=h2 b hb;rw [e,h.tagM] at this;cases this),hgne b (by rw [h2 b hb];rfl) (fun p=>by rw [h2 b hb];exact fun e=>by cases e;exact hne rfl)⟩;exact⟨qg h1 hKK h3,fun b hb=>by rw [if_neg (h3 b hb).2];exact h2 b hb⟩
  ·by_cases hbg:b=g
   ·subst hbg;rw [if_pos rfl]at hb;simp only [Option.some.injEq,Tag.ent.injEq,true_and]at hb;obtain⟨hk,rfl⟩:=hb;subst hk;rw [qk7,if_pos rfl];obtain⟨i,hi⟩: ∃i,(idx ts l (qcb t l)++ [ts.length])[j]?=some i:=⟨_,getElem?_eq_getElem (by simp;omega)⟩;refine⟨i,hi,?_⟩;rw [hv']at ho3;have:=qb7 ho3 j (qh5 i) (by rw [show(idx ts l (qcb t l)).map qh5++ [qh5 ts.length]=(idx ts l (qcb t l)++ [ts.length]).map qh5 from by simp,getElem?_map,hi];rfl);exact hK4.cell this (fun e=>hMg e.symm)
   ·rw [if_neg hbg]at hb;obtain⟨i,h1,h2⟩:=h.blocks b k p hb j hj;refine⟨i,?_,hKK.cell h2 ⟨fun e=>?_,hbg⟩⟩
    ·rw [qk7,getElem?_append_left (List.getElem?_eq_some_iff.1 h1).1];exact h1
    ·simp only at e;rw [e,h.tagM]at hb;cases hb
 ·intro b T hb;by_cases hbg:b=g
  ·subst hbg;rcases hgtag with h1 |⟨h1,_⟩
   ·rw [h1]at hb;cases hb;exact .inr ⟨c,_,_,_,rfl,if_pos rfl,by omega⟩
   ·rw [h1]at hb;cases hb
  ·exact .inl (by show(if b=g then _ else _)=_;rw [if_neg hbg];exact hb)
 ·intro b hbl hb;have hbg:b≠g:=fun e=>by
   subst e;rcases hgtag with h1 |⟨_,h1⟩
   ·rw [h1]at hb;exact hb rfl
   ·omega
  show(if b=g then _ else _)=_;rw [if_neg hbg]
 ·intro b T hb;by_cases hbg:b=g
  ·subst hbg;simp only [if_true]at hb;cases hb;exact⟨by omega,fun _=>rfl⟩
  ·simp only [if_neg hbg]at hb;have:=hlt b T hb;exact⟨by omega,fun h=>by omega⟩
 ·intro b c' hb;by_cases hbg:b=g
  ·subst hbg;simp only [if_true]at hb;cases hb;exact .inr rfl
  ·simp only [if_neg hbg]at hb;exact .inl hb
 ·refine hKK.mono fun b hb hC=>⟨fun e=>?_,fun e=>?_⟩
  ·subst e;exact hC (by rw [h.tagM];rfl)
  ·subst e;rcases hgtag with h1 |⟨_,h1⟩
   ·exact hC (by rw [h1];rfl)
   ·omega
end Go.Proofs.R4
namespace Go.Proofs.R4
open Go.RowKit Go.Ink
attribute [local go_sem] Oper.semAt_some
theorem qy1 {F:World->Prop}{w:World}(G:World->Prop)(h:G w)(k: ∀W,G W->F W):F w:=k w h
set_option maxRecDepth 100000 in
set_option maxHeartbeats 4000000 in
theorem qui {tag:qb2}{w:World}{n:Nat}{ts:List (List Int)}{c:List Bool}{L M:Nat}{l:List Int}{vl:Value}{m:List (List Int×Value)}(h:LookAt tag w n ts c L l vl M m)(hlt: ∀b T,tag b=some T->b<w.heap.size)(hn:n<=16)(hts:ts.length<=536870912)
  (v:Value) (t:List Int) (hs:qap w.heap.size w v t) (ht:t.length=n) (hok:okT t) (hll:l.length<=16):
  Calls prog 99 #[.pointer (some ⟨L,0,none⟩),v,qh5 ts.length] w fun e w'=>e=.returned (.tuple #[])/\
   ∃tag' m',LookAt tag' w' n (ts++ [t]) c L l vl M m'/\TagStep c tag tag' w w'/\Keep (fun b=>qb5 (tag b)≠some c) w w':=by
 obtain⟨a,cc,rfl,hlt1,hct,het⟩:=id hs;have hLlt:=qe h.box;have hMlt:=h.map.lt;have d0:=qb h.box 0 _ rfl;simp only [Nat.zero_add]at d0;have hin: ∀x∈l,0<=x/\x<t.length:=fun x hx=>by rw [ht];exact qnq h.row x hx
 have hli:qap w.heap.size w vl l:=qd8 h.list (by omega);have hckl:(qa6 (qen t l)).length=16:=qhk (by rw [qj2];exact hll);have hkok: ∃q,keyOf prog 176 (qg5 (qcb t l))=some q:=qp2 hckl (qnu (q56 hok));obtain⟨k0,k1,k2,k3,k4,k5,k6,k7,k8,k9,k10,k11,k12,k13,k14,k15,hpad⟩: ∃k0 k1 k2 k3 k4 k5 k6 k7 k8 k9 k10 k11 k12 k13 k14 k15,qcb t l= [k0,k1,k2,k3,k4,k5,k6,k7,k8,k9,k10,k11,k12,k13,k14,k15]:=by
  unfold qcb
  match h:qa6 (qen t l),hckl with
  | [k0,k1,k2,k3,k4,k5,k6,k7,k8,k9,k10,k11,k12,k13,k14,k15],_=>exact⟨k0,k1,k2,k3,k4,k5,k6,k7,k8,k9,k10,k11,k12,k13,k14,k15,rfl⟩
 have hkv:qg5 (qcb t l)=.agg #[.int .i64 k0,.int .i64 k1,.int .i64 k2,.int .i64 k3,.int .i64 k4,.int .i64 k5,.int .i64 k6,.int .i64 k7,.int .i64 k8,.int .i64 k9,.int .i64 k10,.int .i64 k11,.int .i64 k12,.int .i64 k13,.int .i64 k14,.int .i64 k15]:=by rw [hpad];rfl
 clear hckl ht hok;refine qd9 ?_ h hlt hs het hin hli hkok hpad hkv hts;clear h hlt hs het hin hli hkok hpad hkv hts;intro Xh Xhlt Xhs Xhet Xhin Xhli Xhkok Xhpad Xhkv Xhts
 go_enter Tryz.func99,Tryz.ntmps99
 go_wp2_with fail;refine(q55 w _ vl t l Xhs.o Xhli.o hll Xhin.o).mono ?_;rintro e W1 ⟨rfl,kw1⟩;obtain⟨W0,hW0⟩:=ex (W1.alloc (.cells #[.int .i64 0,.int .i64 0,.int .i64 0,.int .i64 0,.int .i64 0,.int .i64 0,.int .i64 0,.int .i64 0,.int .i64 0,.int .i64 0,.int .i64 0,.int .i64 0,.int .i64 0,.int .i64 0,.int .i64 0,.int .i64 0] 176));obtain⟨nb,hnb⟩:=ex (W1.heap.size);have n1:W0.heap[nb]?=some (.cells #[.int .i64 0,.int .i64 0,.int .i64 0,.int .i64 0,.int .i64 0,.int .i64 0,.int .i64 0,.int .i64 0,.int .i64 0,.int .i64 0,.int .i64 0,.int .i64 0,.int .i64 0,.int .i64 0,.int .i64 0,.int .i64 0] 176 (0,0)):=by rw [←hW0,←hnb];exact qh _ _
 have kw0:Keep (fun b=>b<w.heap.size) w W0:=by rw [←hW0];exact kw1.trans kAl
 have s0:nb<W0.heap.size:=qe n1;have hwn:w.heap.size<=nb:=by rw [←hnb];exact kw1.size
 have z0:=qb n1 0 _ rfl;have f0:=qf n1 0;have z1:=qb n1 1 _ rfl;have f1:=qf n1 1;have z2:=qb n1 2 _ rfl;have f2:=qf n1 2;have z3:=qb n1 3 _ rfl;have f3:=qf n1 3;have z4:=qb n1 4 _ rfl;have f4:=qf n1 4;have z5:=qb n1 5 _ rfl;have f5:=qf n1 5;have z6:=qb n1 6 _ rfl;have f6:=qf n1 6;have z7:=qb n1 7 _ rfl;have f7:=qf n1 7;have z8:=qb n1 8 _ rfl;have f8:=qf n1 8;have z9:=qb n1 9 _ rfl;have f9:=qf n1 9;have z10:=qb n1 10 _ rfl;have f10:=qf n1 10;have z11:=qb n1 11 _ rfl;have f11:=qf n1 11;have z12:=qb n1 12 _ rfl;have f12:=qf n1 12;have z13:=qb n1 13 _ rfl;have f13:=qf n1 13;have z14:=qb n1 14 _ rfl;have f14:=qf n1 14;have z15:=qb n1 15 _ rfl;have f15:=qf n1 15;simp only [Nat.zero_add]at z0 z1 z2 z3 z4 z5 z6 z7 z8 z9 z10 z11 z12 z13 z14 z15;rw [Xhkv.o];clear kw1;refine hd2 ?_ n1 kw0;clear n1 kw0;intro Xn1 Xkw0;go_wp2_with fail;refine qy1 (fun W=>W.heap[nb]?=some (.cells #[.int .i64 k0,.int .i64 k1,.int .i64 k2,.int .i64 k3,.int .i64 k4,.int .i64 k5,.int .i64 k6,.int .i64 k7,.int .i64 k8,.int .i64 k9,.int .i64 k10,.int .i64 k11,.int .i64 k12,.int .i64 k13,.int .i64 k14,.int .i64 k15] 176 (0,0))/\Keep (fun k=>k<w.heap.size) w W) (w:=qgz nb [.int .i64 k0,.int .i64 k1,.int .i64 k2,.int .i64 k3,.int .i64 k4,.int .i64 k5,.int .i64 k6,.int .i64 k7,.int .i64 k8,.int .i64 k9,.int .i64 k10,.int .i64 k11,.int .i64 k12,.int .i64 k13,.int .i64 k14,.int .i64 k15] 0 W0) ⟨qg0 [.int .i64 k0,.int .i64 k1,.int .i64 k2,.int .i64 k3,.int .i64 k4,.int .i64 k5,.int .i64 k6,.int .i64 k7,.int .i64 k8,.int .i64 k9,.int .i64 k10,.int .i64 k11,.int .i64 k12,.int .i64 k13,.int .i64 k14,.int .i64 k15] Xn1.o rfl,Xkw0.o.trans ((qe4 _ _ _ _).mono (fun b _ h=>by omega))⟩ ?_;rintro W2 ⟨hq,kw2⟩;clear z0 z1 z2 z3 z4 z5 z6 z7 z8 z9 z10 z11 z12 z13 z14 z15 Xn1 Xkw0 s0 hnb hW0;have r0:=qb hq 0 _ rfl;have r1:=qb hq 1 _ rfl;have r2:=qb hq 2 _ rfl;have r3:=qb hq 3 _ rfl;have r4:=qb hq 4 _ rfl;have r5:=qb hq 5 _ rfl;have r6:=qb hq 6 _ rfl;have r7:=qb hq 7 _ rfl;have r8:=qb hq 8 _ rfl;have r9:=qb hq 9 _ rfl
 have r10:=qb hq 10 _ rfl;have r11:=qb hq 11 _ rfl;have r12:=qb hq 12 _ rfl;have r13:=qb hq 13 _ rfl;have r14:=qb hq 14 _ rfl;have r15:=qb hq 15 _ rfl;simp only [Nat.zero_add]at r0 r1 r2 r3 r4 r5 r6 r7 r8 r9 r10 r11 r12 r13 r14 r15;have hLs:qb5 (tag L)=some c:=by rw [Xh.o.tagL];rfl
 obtain⟨Wd,hWd⟩:=ex (W2.drew);have kd:Keep (fun k=>k<w.heap.size) w Wd:=by rw [←hWd];exact kw2.trans kDr
 have hd:LookAt tag Wd n ts c L l vl M m:=Xh.o.keep kd (fun b hb=>by
  cases hT:tag b with
  |none=>rw [hT] at hb;cases hb
  |some T=>exact Xhlt.o b T hT) (fun _ _=>rfl) (fun _ _=>rfl)
 have hdl: ∀b T,tag b=some T->b<Wd.heap.size:=fun b T hb=>Nat.lt_of_lt_of_le (Xhlt.o b T hb) kd.size;have hmM:m.length<=maxLen:=by have:=hd.few;have:=Xhts.o;simp only [maxLen];omega
 have hMd:=hd.map.lt;have hnbd:nb<Wd.heap.size:=by rw [←hWd];exact qe hq
 have step: ∀tag' W4,TagStep c tag tag' Wd W4->TagStep c tag tag' w W4:=fun tag' W4 hst=>⟨hst.le,fun b hb=>hst.old b (Nat.lt_of_lt_of_le hb kd.size),fun b T hb=>⟨(hst.new b T hb).1,fun hwb=>by
  rcases Nat.lt_or_ge b Wd.heap.size with hb1 |hb1
  ·have hnone:tag b=none:=by
    cases hT:tag b with
    |none=>rfl
    |some T'=>have:=Xhlt.o b T' hT;omega
   have:=hst.old b hb1 (by rw [hnone];exact fun e=>(by cases e));rw [hb,hnone]at this;cases this
  ·exact(hst.new b T hb).2 hb1⟩,hst.ents⟩
 have keepF: ∀W4,Keep (fun b=>qb5 (tag b)≠some c) Wd W4->Keep (fun b=>qb5 (tag b)≠some c) w W4:=fun W4 hk=>⟨hk.os.trans kd.os,hk.tape.trans kd.tape,hk.output.trans kd.output,Nat.le_trans kd.size hk.size,fun b hb hC=>(hk.block b (Nat.lt_of_lt_of_le hb kd.size) hC).trans (kd.block b hb hb)⟩;obtain⟨WA1,hWA1⟩:=ex (Wd.alloc (.cells #[qh5 ts.length] 3));have kA1:Keep (fun _=>True) Wd WA1:=by rw [←hWA1];exact kAl
 have zA1:WA1.heap.size=Wd.heap.size+1:=by rw [←hWA1];simp
 have bA1:WA1.heap[Wd.heap.size]?=some (.cells #[qh5 ts.length] 3 (0,0)):=by rw [←hWA1];exact qh _ _
 obtain⟨vA,stA,WA2,hrA,hvA,hkA,hsA,hstA⟩:=qyb (P:=prog) Tryz.underlying227 qk6.law qj1 quh (hd.map.keep kA1 trivial) hmM (qcb t l) Xhkok.o;obtain⟨vA',WA3,WA4,hrA3,hrA4,hkA3,tagA,hA1,hA2,hA3⟩:=q1n hd hdl t Xhts.o ((kA1.mono fun _ _ _=>trivial).trans hkA) (hsA.trans zA1) ((hkA.block _ (by omega) (by omega)).trans bA1) vA hvA stA hstA;rw [Xhkv.o]at hrA;have fA: ∃tag' m',LookAt tag' WA4 n (ts++ [t]) c L l vl M m'/\TagStep c tag tag' w WA4/\Keep (fun b=>qb5 (tag b)≠some c) w WA4:=⟨_,_,hA1,step _ _ hA2,keepF _ hA3⟩;have e1:Wd.cell? ⟨L,1,none⟩=some (.map (some M)):=by have:=qb hd.box 1 _ rfl;simpa using this
 have hLd:=qe hd.box;have hqd:Wd.heap[nb]?=some (.cells #[.int .i64 k0,.int .i64 k1,.int .i64 k2,.int .i64 k3,.int .i64 k4,.int .i64 k5,.int .i64 k6,.int .i64 k7,.int .i64 k8,.int .i64 k9,.int .i64 k10,.int .i64 k11,.int .i64 k12,.int .i64 k13,.int .i64 k14,.int .i64 k15] 176 (0,0)):=by rw [←hWd];exact hq
 have hnt:tag nb=none:=by
  cases hT:tag nb with
  |none=>rfl
  |some T=>have:=Xhlt.o nb T hT;omega
 have cellsB: ∀W:World,Keep (fun b=>b≠M/\ ∀k p,tag b≠some (.ent c k p)) Wd W->W.cell? ⟨L,1,none⟩=some (.map (some M))/\W.heap[nb]?=some (.cells #[.int .i64 k0,.int .i64 k1,.int .i64 k2,.int .i64 k3,.int .i64 k4,.int .i64 k5,.int .i64 k6,.int .i64 k7,.int .i64 k8,.int .i64 k9,.int .i64 k10,.int .i64 k11,.int .i64 k12,.int .i64 k13,.int .i64 k14,.int .i64 k15] 176 (0,0)):=fun W hW=>⟨hW.cell e1 ⟨fun e=>(by have:=hd.tagL;simp only at e;rw [e,hd.tagM] at this;cases this),fun k p e=>(by have:=hd.tagL;simp only at e;rw [e] at this;cases this)⟩,hW.heap hqd ⟨fun e=>by omega,fun k p e=>by rw [hnt] at e;cases e⟩⟩;have sAll: ∀W:World,Keep (fun b=>b≠M/\ ∀k p,tag b≠some (.ent c k p)) Wd W->W.cell? ⟨L,1,none⟩=some (.map (some M))/\W.cell? ⟨nb,0,none⟩=some (.int .i64 k0)/\W.cell? ⟨nb,1,none⟩=some (.int .i64 k1)/\W.cell? ⟨nb,2,none⟩=some (.int .i64 k2)/\W.cell? ⟨nb,3,none⟩=some (.int .i64 k3)/\W.cell? ⟨nb,4,none⟩=some (.int .i64 k4)/\W.cell? ⟨nb,5,none⟩=some (.int .i64 k5)/\W.cell? ⟨nb,6,none⟩=some (.int .i64 k6)/\W.cell? ⟨nb,7,none⟩=some (.int .i64 k7)/\W.cell? ⟨nb,8,none⟩=some (.int .i64 k8)/\W.cell? ⟨nb,9,none⟩=some (.int .i64 k9)/\W.cell? ⟨nb,10,none⟩=some (.int .i64 k10)/\W.cell? ⟨nb,11,none⟩=some (.int .i64 k11)/\W.cell? ⟨nb,12,none⟩=some (.int .i64 k12)/\W.cell? ⟨nb,13,none⟩=some (.int .i64 k13)/\W.cell? ⟨nb,14,none⟩=some (.int .i64 k14)/\W.cell? ⟨nb,15,none⟩=some (.int .i64 k15):=fun W hW=>by
  obtain⟨q1,q2⟩:=cellsB W hW;refine⟨q1,?_,?_,?_,?_,?_,?_,?_,?_,?_,?_,?_,?_,?_,?_,?_,?_⟩<;>simp [World.cell?,q2]
 clear kA1 zA1 bA1 hA1 hA2 hA3 hvA hsA hstA step keepF hd hdl hmM kw2 kd hLs r0 r1 r2 r3 r4 r5 r6 r7 r8 r9 r10 r11 r12 r13 r14 r15 e1 hqd cellsB;have hSA:=sAll WA1 (by rw [←hWA1];exact kAl);have hSA2:=sAll WA2 (((by rw [←hWA1];exact kAl:Keep (fun b=>b≠M) Wd WA1).trans hkA).mono fun b _ h=>h.1);have hSA4:=sAll WA3 hkA3;have hSA3:=sAll Wd (Keep.refl _ _);clear hkA hkA3 sAll hnt;refine hd9 ?_ fA hq hSA hSA2 hSA3 hSA4 hWA1 hrA3 hrA4;clear fA hq hSA hSA2 hSA3 hSA4 hWA1 hrA3 hrA4;intro XfA Xhq XhSA XhSA2 XhSA3 XhSA4 XhWA1 XhrA3 XhrA4;subst hWd;refine qc7 rfl (fun W=>W.cell? ⟨L,1,none⟩=some (.map (some M))/\W.cell? ⟨nb,0,none⟩=some (.int .i64 k0)/\W.cell? ⟨nb,1,none⟩=some (.int .i64 k1)/\W.cell? ⟨nb,2,none⟩=some (.int .i64 k2)/\W.cell? ⟨nb,3,none⟩=some (.int .i64 k3)/\W.cell? ⟨nb,4,none⟩=some (.int .i64 k4)/\W.cell? ⟨nb,5,none⟩=some (.int .i64 k5)/\W.cell? ⟨nb,6,none⟩=some (.int .i64 k6)/\W.cell? ⟨nb,7,none⟩=some (.int .i64 k7)/\W.cell? ⟨nb,8,none⟩=some (.int .i64 k8)/\W.cell? ⟨nb,9,none⟩=some (.int .i64 k9)/\W.cell? ⟨nb,10,none⟩=some (.int .i64 k10)/\W.cell? ⟨nb,11,none⟩=some (.int .i64 k11)/\W.cell? ⟨nb,12,none⟩=some (.int .i64 k12)/\W.cell? ⟨nb,13,none⟩=some (.int .i64 k13)/\W.cell? ⟨nb,14,none⟩=some (.int .i64 k14)/\W.cell? ⟨nb,15,none⟩=some (.int .i64 k15)) [11] ?_;refine qam [0,1,2,3,4,5] ?_
 iterate 6
  refine tkN (v:=?_) rfl XhSA3.o ?_ ?_;rotate_left
  ·rintro Wq ⟨x0,x1,x2,x3,x4,x5,x6,x7,x8,x9,x10,x11,x12,x13,x14,x15,x16⟩;go_simp
   try with_reducible rfl
  try simp only [qan]
 refine qu ?_;refine ho 6 rfl fun K XhK0=>?_;have hWA1':=XhWA1.o;go_wp2_with fail;refine XhK0.o _ _ (fun _=>XhSA.o) ?_;refine ho 7 rfl fun K XhK1=>?_;go_wp2_with fail;refine XhK1.o _ _ (fun _=>XhSA2.o) ?_;refine qam [8,10] ?_
 iterate 2
  refine tkN (v:=?_) rfl XhSA2.o ?_ ?_;rotate_left
  ·rintro Wq ⟨x0,x1,x2,x3,x4,x5,x6,x7,x8,x9,x10,x11,x12,x13,x14,x15,x16⟩;go_simp
   try with_reducible rfl
  try simp only [qan]
 refine qu ?_;refine ho 9 rfl fun K XhK2=>?_;simp only [getElem_toArray,getElem_cons_zero,getElem_cons_succ,Act.put,setIfInBounds_toArray,set_cons_zero,set_cons_succ];refine qcq (v:=vA) (u:=.slice (some ⟨W2.heap.size,0,none⟩) 1 1) (v':=vA') (w':=WA3) rfl (.tmp 18) (.tmp 20) 86 rfl rfl rfl XhrA3.o ?_;go_wp2_with fail;refine XhK2.o _ _ (fun _=>XhSA4.o) ?_;refine ho 11 rfl fun K XhK3=>?_;have hrA4':=XhrA4.o;go_wp2_with fail;refine XhK3.o _ _ (fun h=>by simp at h) ?_;refine qee (by kernel_rfl) ?_;go_wp2_with fail;refine bodyPost_end (results_none rfl _ _ _) rfl ?_;exact⟨rfl,XfA.o⟩
end Go.Proofs.R4
