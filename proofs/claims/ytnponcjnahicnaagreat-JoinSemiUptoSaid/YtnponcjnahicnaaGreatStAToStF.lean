/- Parts of the proof. -/
import Derived.Test.YtnponcjnahicnaaGreatProg
import Derived.Test.YtnponcjnahicnaaGreatRelSToPlayD
import Derived.Test.YtnponcjnahicnaaGreatTbAToTbD
import Derived.Test.YtnponcjnahicnaaGreatJnDToJnE
import Derived.Test.YtnponcjnahicnaaGreatMapsToRelG
import Derived.Conc.MuLone
import Derived.DeepKeys4
import Derived.BigQuiet
import Derived.WalkKit
import Derived.Test.YtnponcjnahicnaaGreatHdToKp
import Derived.Deep.Cut
set_option linter.unusedSimpArgs false
set_option linter.unusedVariables false
open Go.Proofs.Tryz(prog)
open List(all_eq_false all_eq_true append_assoc append_nil eq_nil_iff_forall_not_mem find?_eq_none find?_some getElem?_eq_getElem getElem?_inj getElem?_map length_map map_append mem_append mem_iff_getElem? mem_of_find?_eq_some mem_of_getElem? mem_singleton take_add_one take_length)
namespace Go.Proofs
open Go.RowKit Go.Ink R4
attribute [local go_sem] Oper.semAt_some
inductive qza where
 |box |tab |texts |nums |rels
 |rel (R:Nat) (T:Tag)
abbrev qct:=Nat->Option (Nat×qza)
def qa1 (tag:qct)(S R:Nat):qb2:=fun b=>match tag b with
 |some (S',.rel R' T)=>if S'=S/\R'=R then some T else none
 |_=>none
theorem qaa {tag:qct}{S R b:Nat}{T:Tag}:qa1 tag S R b=some T↔tag b=some (S,.rel R T):=by
 unfold qa1;constructor
 ·intro h;split at h
  ·rename_i S' R' T' ht;split at h
   ·rename_i hc;obtain⟨rfl,rfl⟩:=hc;cases h;exact ht
   ·cases h
  ·cases h
 ·intro h;rw [h];simp
def qdt (k:ByteArray×Nat):Value:=.agg #[.string k.1,.int .i64 (k.2:Int)]
abbrev qh7 (w:World)(b:Nat)(m:List ((ByteArray×Nat)×Nat)):Prop:=MapIn prog 122 qdt qj w b m
def qex (T M n:Nat):List Value:= [.int .i32 0,.int .u32 0,.bool true,qj T,.map (some M),.int .i64 (n:Int)]
structure StParts (tag:qct)(w:World)(S:Nat)(c:List ql)(T M MX:Nat)(vx:Value)(xs:List ByteArray)(rl:List ((ByteArray×Nat)×Nat)):Prop where
 tagS:tag S=some (S,.box)
 box:w.heap[S]?=some (.cells (qex T M c.length).toArray 120 (0,0))
 tagT:tag T=some (S,.tab)
 tab:w.heap[T]?=some (.cells #[vx,.map (some MX)] 186 (0,0))
 own:w.ownsRow 0 9 1 vx xs.length (xs.map .string)
 tagx: ∀b,vx.ownBlock=some b->tag b=some (S,.texts)
 tagN:tag MX=some (S,.nums)
 nums:qqj w MX xs.zipIdx
 tagM:tag M=some (S,.rels)
 rels:qh7 w M rl
 rel: ∀k R,(k,R)∈rl-> ∃vD P K lm,qb6 (qa1 tag S R) w R k.2 ((qo c k.1 k.2).map (qr xs)) vD P K lm
 inj:(rl.map (·.2)).Nodup
 all: ∀f,f∈c-> ∃R,((f.pred,f.tuple.length),R)∈rl
 texts: ∀f s,f∈c->s∈f.tuple->s∈xs
 nodup:c.Nodup
 few:c.length<=67108864
 xfew:xs.length<=16*c.length
def StoreAt (tag:qct)(w:World)(S:Nat)(c:List ql):Prop:= ∃T M MX vx xs rl,StParts tag w S c T M MX vx xs rl
theorem StParts.keep {tag tag':qct}{w w':World}{S:Nat}{c:List ql}{T M MX:Nat}{vx:Value}{xs:List ByteArray}{rl:List ((ByteArray×Nat)×Nat)}{C:Nat->Prop}(h:StParts tag w S c T M MX vx xs rl)(hK:Keep C w w')
  (hC: ∀b U,tag b=some (S,U)->C b) (ht: ∀b U,tag' b=some (S,U)↔tag b=some (S,U)):StParts tag' w' S c T M MX vx xs rl:=by
 have hr: ∀R,qa1 tag' S R=qa1 tag S R:=fun R=>funext fun b=>by
  cases e:qa1 tag S R b with
  |some U=>exact qaa.2 ((ht b _).2 (qaa.1 e))
  |none=>
   cases e':qa1 tag' S R b with
   |none=>rfl
   |some U=>
    have:=qaa.2 ((ht b _).1 (qaa.1 e'));rw [e]at this;cases this
 refine⟨(ht _ _).2 h.tagS,hK.heap h.box (hC _ _ h.tagS),(ht _ _).2 h.tagT,hK.heap h.tab (hC _ _ h.tagT),qg h.own hK (fun b hb=>hC b _ (h.tagx b hb)),fun b hb=>(ht _ _).2 (h.tagx b hb),(ht _ _).2 h.tagN,h.nums.keep hK (hC _ _ h.tagN),(ht _ _).2 h.tagM,h.rels.keep hK (hC _ _ h.tagM),fun k R hk=>?_,h.inj,h.all,h.texts,h.nodup,h.few,h.xfew⟩;obtain⟨vD,P,K,lm,hR⟩:=h.rel k R hk;rw [hr];exact⟨vD,P,K,lm,hR.keep hK (fun b U hb _=>hC b _ (qaa.1 hb))⟩
theorem StoreAt.keep {tag tag':qct}{w w':World}{S:Nat}{c:List ql}{C:Nat->Prop}(h:StoreAt tag w S c)(hK:Keep C w w')(hC: ∀b U,tag b=some (S,U)->C b)(ht: ∀b U,tag' b=some (S,U)↔tag b=some (S,U)):StoreAt tag' w' S c:=by
 obtain⟨T,M,MX,vx,xs,rl,h⟩:=h;exact⟨T,M,MX,vx,xs,rl,h.keep hK hC ht⟩
structure Gh where
 st:Nat->Option (List ql)
 tag:qct
 held:Nat->Option Obj
def Gh.free (g:Gh)(b:Nat):Prop:=g.tag b=none/\g.held b=none
structure GInv (g:Gh)(w:World):Prop where
 store: ∀S c,g.st S=some c->StoreAt g.tag w S c
 own: ∀b S T,g.tag b=some (S,T)-> ∃c,g.st S=some c
 lt: ∀b T,g.tag b=some T->b<w.heap.size
 hold: ∀b o,g.held b=some o->w.heap[b]?=some o
 apart: ∀b o,g.held b=some o->g.tag b=none
 reln: ∀b S R U,g.tag b=some (S,.rel R U)->R<w.heap.size
structure GBd (g:Gh)(n:Nat)(g':Gh):Prop where
 more: ∀S c,g.st S=some c-> ∃d,g'.st S=some (c++d)
 new: ∀b,b<n->g.free b->g'.free b
 held: ∀b,b<n->g'.held b=g.held b
structure GStep (n0:Nat)(g:Gh)(X:World)(g':Gh)(Y:World):Prop where
 keep:Keep g.free X Y
 more: ∀S c,g.st S=some c-> ∃d,g'.st S=some (c++d)
 new: ∀b,b<X.heap.size->g.free b->g'.free b
 held: ∀b,b<n0->g'.held b=g.held b
 inv:GInv g' Y
theorem GBd.refl (g:Gh)(n:Nat):GBd g n g:=⟨fun S c h=>⟨[],by rw [h,append_nil]⟩,fun _ _ h=>h,fun _ _=>rfl⟩
theorem GBd.mono {g g':Gh}{n n0:Nat}(h:GBd g n g')(hn:n0<=n):GBd g n0 g':=⟨h.more,fun b hb=>h.new b (by omega),fun b hb=>h.held b (by omega)⟩
theorem GBd.trans {g g' g'':Gh}{n n':Nat}(h:GBd g n g')(k:GBd g' n' g'')(hn:n<=n'):GBd g n g'':=by
 refine⟨fun S c hc=>?_,fun b hb hf=>k.new b (by omega) (h.new b hb hf),fun b hb=>(k.held b (by omega)).trans (h.held b hb)⟩;obtain⟨d,hd⟩:=h.more S c hc;obtain⟨e,he⟩:=k.more S _ hd;exact⟨d++e,by rw [he,append_assoc]⟩
theorem GInv.keep {g:Gh}{X Y:World}(h:GInv g X)(hK:Keep (fun b=> ¬g.free b) X Y):GInv g Y:=by
 refine⟨fun S c hc=>(h.store S c hc).keep hK (fun b U hb hf=>by rw [hf.1] at hb;cases hb) (fun _ _=>Iff.rfl),h.own,fun b T hb=>Nat.lt_of_lt_of_le (h.lt b T hb) hK.size,fun b o hb=>hK.heap (h.hold b o hb) (fun hf=>by rw [hf.2] at hb;cases hb),h.apart,fun b S R U hb=>Nat.lt_of_lt_of_le (h.reln b S R U hb) hK.size⟩
theorem GStep.mono {n0 n1:Nat}{g g':Gh}{X Y:World}(h:GStep n0 g X g' Y)(hn:n1<=n0):GStep n1 g X g' Y:=⟨h.keep,h.more,h.new,fun b hb=>h.held b (by omega),h.inv⟩
theorem GStep.refl {n0:Nat}{g:Gh}{X:World}(h:GInv g X):GStep n0 g X g X:=⟨Keep.refl _ _,(GBd.refl g 0).more,fun _ _ h=>h,fun _ _=>rfl,h⟩
theorem GStep.trans {n0:Nat}{g g' g'':Gh}{X Y Z:World}(h:GStep n0 g X g' Y)(k:GStep n0 g' Y g'' Z):GStep n0 g X g'' Z:=by
 have z:=h.keep.size;have h1:Keep (fun b=>g.free b/\b<X.heap.size) X Y:=h.keep.mono fun b _ hf=>hf.1;have h2:Keep (fun b=>g.free b/\b<X.heap.size) Y Z:=k.keep.mono fun b _ hf=>h.new b hf.2 hf.1;refine⟨(h1.trans h2).mono fun b hb hf=>⟨hf,hb⟩,fun S c hc=>?_,fun b hb hf=>k.new b (by omega) (h.new b hb hf),fun b hb=>(k.held b hb).trans (h.held b hb),k.inv⟩;obtain⟨d,hd⟩:=h.more S c hc;obtain⟨e,he⟩:=k.more S _ hd;exact⟨d++e,by rw [he,append_assoc]⟩
theorem GStep.own {n0:Nat}{g:Gh}{X Y:World}(h:GInv g X)(hK:Keep (fun _=>True) X Y):GStep n0 g X g Y:=⟨hK.mono fun _ _ _=>trivial,(GBd.refl g 0).more,fun _ _ h=>h,fun _ _=>rfl,h.keep (hK.mono fun _ _ _=>trivial)⟩
def Gh.hold (g:Gh)(n:Nat)(Y:World):Gh:={g with held:=fun b=>if n<=b/\b<Y.heap.size/\g.tag b=none/\g.held b=none then Y.heap[b]? else g.held b}
theorem GInv.holds {g:Gh}{Y:World}(h:GInv g Y)(n:Nat):GInv (g.hold n Y) Y:=by
 refine⟨h.store,h.own,h.lt,fun b o hb=>?_,fun b o hb=>?_,h.reln⟩
 ·simp only [Gh.hold]at hb;split at hb
  ·exact hb
  ·exact h.hold b o hb
 ·simp only [Gh.hold]at hb;split at hb
  ·rename_i hc;exact hc.2.2.1
  ·exact h.apart b o hb
theorem GStep.hold {n0:Nat}{g g':Gh}{X Y:World}(h:GStep n0 g X g' Y)(hn:n0<=X.heap.size):GStep n0 g X (g'.hold X.heap.size Y) Y:=by
 refine⟨h.keep,h.more,fun b hb hf=>?_,fun b hb=>?_,h.inv.holds _⟩
 ·have:=h.new b hb hf;refine⟨this.1,?_⟩;simp only [Gh.hold];rw [if_neg (by omega)];exact this.2
 ·simp only [Gh.hold];rw [if_neg (by omega)];exact h.held b hb
def Gh.put (g:Gh)(k:Nat)(o:Obj):Gh:={g with held:=fun b=>if b=k then some o else g.held b}
theorem GStep.put {n0:Nat}{g:Gh}{X Y:World}(h:GInv g X){k:Nat}{o o':Obj}(hk:g.held k=some o)(hn:n0<=k)(hK:Keep (fun b=>b≠k) X Y)(ho:Y.heap[k]?=some o'):GStep n0 g X (g.put k o') Y:=by
 have hkt:=h.apart k o hk;have hne: ∀b U,g.tag b=some U->b≠k:=fun b U hb e=>by subst e;rw [hkt] at hb;cases hb
 refine⟨hK.mono fun b _ hf e=>(by subst e;rw [hf.2] at hk;cases hk),(GBd.refl g 0).more,fun b hb hf=>⟨hf.1,?_⟩,fun b hb=>?_,?_⟩
 ·simp only [Gh.put];rw [if_neg (fun e=>by subst e;rw [hf.2]at hk;cases hk)];exact hf.2
 ·simp only [Gh.put];rw [if_neg (by omega)]
 ·refine⟨fun S c hc=>(h.store S c hc).keep hK (fun b U hb=>hne b _ hb) (fun _ _=>Iff.rfl),h.own,fun b T hb=>Nat.lt_of_lt_of_le (h.lt b T hb) hK.size,fun b u hb=>?_,fun b u hb=>?_,fun b S R U hb=>Nat.lt_of_lt_of_le (h.reln b S R U hb) hK.size⟩
  ·simp only [Gh.put]at hb;split at hb
   ·rename_i e;subst e;cases hb;exact ho
   ·rename_i e;exact hK.heap (h.hold b u hb) e
  ·simp only [Gh.put]at hb;split at hb
   ·rename_i e;subst e;exact hkt
   ·exact h.apart b u hb
def qk8 (n0:Nat):qf8 Gh where
 inv:=GInv
 free:=Gh.free
 istep g X g' Y:=GStep n0 g X g' Y/\g'.st=g.st
 bstep:=GBd
 ifree h:=h.1.keep
 inew h:=h.1.new
 bnew h:=h.new
 bmono hn h:=h.mono hn
 invk h hK:=h.keep hK
def qbv (tag:qct)(S R:Nat)(rt:qb2):qct:=fun b=>match rt b with
 |some T=>some (S,.rel R T)
 |none=>tag b
theorem qqg {tag:qct}{S R:Nat}{rt:qb2}(hle:TagLe (qa1 tag S R) rt):qa1 (qbv tag S R rt) S R=rt:=funext fun b=>by
 cases e:rt b with
 |some T=>exact qaa.2 (by unfold qbv;rw [e])
 |none=>
  cases e':qa1 (qbv tag S R rt) S R b with
  |none=>rfl
  |some T=>
   have h:=qaa.1 e';unfold qbv at h;rw [e]at h;rcases hle b T (qaa.2 h) with h1 |⟨_,_,_,_,_,h1,_⟩
   ·rw [e]at h1;cases h1
   ·rw [e]at h1;cases h1
theorem qfk {tag:qct}{S R:Nat}{rt:qb2}{X:World}(hlt: ∀b T,tag b=some T->b<X.heap.size)(hnew:TagNew (qa1 tag S R) rt X){b:Nat}{U:Nat×qza}(hU: ∀T,U≠(S,.rel R T)):qbv tag S R rt b=some U↔tag b=some U:=by
 unfold qbv;cases e:rt b with
 |none=>exact Iff.rfl
 |some T=>
  constructor
  ·intro h;cases h;exact absurd rfl (hU T)
  ·intro h;exfalso;rcases hnew b T e with ⟨T',h1⟩ |h1
   ·have:=qaa.1 h1;rw [h]at this;cases this;exact hU T' rfl
   ·have:=hlt b _ h;omega
theorem qsp {tag:qct}{S R R' S':Nat}{rt:qb2}{X:World}(hlt: ∀b T,tag b=some T->b<X.heap.size)(hnew:TagNew (qa1 tag S R) rt X)(h:S'≠S∨R'≠R):qa1 (qbv tag S R rt) S' R'=qa1 tag S' R':=funext fun b=>by
 have hne: ∀T T',((S',qza.rel R' T):Nat×qza)≠(S,.rel R T'):=fun T T' e=>by cases e;rcases h with h |h<;>exact h rfl
 cases e:qa1 tag S' R' b with
 |some U=>exact qaa.2 ((qfk hlt hnew (hne U)).2 (qaa.1 e))
 |none=>
  cases e':qa1 (qbv tag S R rt) S' R' b with
  |none=>rfl
  |some U=>
   have:=qaa.2 ((qfk hlt hnew (hne U)).1 (qaa.1 e'));rw [e]at this;cases this
theorem StParts.rel_at {tag:qct}{w:World}{S:Nat}{c:List ql}{T M MX:Nat}{vx:Value}{xs:List ByteArray}{rl:List ((ByteArray×Nat)×Nat)}(h:StParts tag w S c T M MX vx xs rl){k:ByteArray×Nat}{R:Nat}(hk:(k,R)∈rl):tag R=some (S,.rel R .box):=by
 obtain⟨vD,P,K,lm,hR⟩:=h.rel k R hk;exact qaa.1 hR.tagB
theorem StParts.rel_step {tag:qct}{X Y:World}{S:Nat}{c:List ql}{T M MX:Nat}{vx:Value}{xs:List ByteArray}{rl:List ((ByteArray×Nat)×Nat)}(h:StParts tag X S c T M MX vx xs rl)(hlt: ∀b U,tag b=some U->b<X.heap.size)
  {k:ByteArray×Nat} {R:Nat} (hk:(k,R)∈rl) {rt:qb2} (hle:TagLe (qa1 tag S R) rt) (hnew:TagNew (qa1 tag S R) rt X) (hK:Keep (fun b=>qa1 tag S R b=none) X Y)
  {vD:Value} {P K:Nat} {lm:List (List Bool×Nat)} (hR:qb6 rt Y R k.2 ((qo c k.1 k.2).map (qr xs)) vD P K lm):StParts (qbv tag S R rt) Y S c T M MX vx xs rl:=by
 have hn: ∀b V,tag b=some V->(∀U,V≠(S,.rel R U))->qa1 tag S R b=none:=fun b V hb hV=>by
  cases e:qa1 tag S R b with
  |none=>rfl
  |some U=>exact absurd (Option.some.inj (hb.symm.trans (qaa.1 e))) (hV U)
 have ht: ∀b V,tag b=some V->(∀U,V≠(S,.rel R U))->qbv tag S R rt b=some V:=fun b V hb hV=>(qfk hlt hnew hV).2 hb;refine⟨ht _ _ h.tagS (fun U e=>by cases e),hK.heap h.box (hn _ _ h.tagS (fun U e=>by cases e)),ht _ _ h.tagT (fun U e=>by cases e),hK.heap h.tab (hn _ _ h.tagT (fun U e=>by cases e)),qg h.own hK (fun b hb=>hn _ _ (h.tagx b hb) (fun U e=>by cases e)),
  fun b hb=>ht _ _ (h.tagx b hb) (fun U e=>by cases e),ht _ _ h.tagN (fun U e=>by cases e),h.nums.keep hK (hn _ _ h.tagN (fun U e=>by cases e)),ht _ _ h.tagM (fun U e=>by cases e),h.rels.keep hK (hn _ _ h.tagM (fun U e=>by cases e)),fun k' R' hk'=>?_,h.inj,h.all,h.texts,h.nodup,h.few,h.xfew⟩
 by_cases e:R'=R
 ·subst e;have:k'=k:=by
   obtain⟨i,hi⟩:=mem_iff_getElem?.1 hk';obtain⟨j,hj⟩:=mem_iff_getElem?.1 hk;have hij:i=j:=by
    refine(getElem?_inj (l:=rl.map (·.2)) ?_ h.inj).1 ?_
    ·rw [length_map];exact(List.getElem?_eq_some_iff.1 hi).1
    ·rw [getElem?_map,getElem?_map,hi,hj];rfl
   subst hij;rw [hi]at hj;cases hj
   rfl
  subst this;rw [qqg hle];exact⟨vD,P,K,lm,hR⟩
 ·obtain⟨vD',P',K',lm',hR'⟩:=h.rel k' R' hk';rw [qsp hlt hnew (.inr e)];exact⟨vD',P',K',lm',hR'.keep hK (fun b U hb _=>hn b _ (qaa.1 hb) (fun U' e'=>by cases e';exact e rfl))⟩
theorem q2g {n0:Nat}{g:Gh}{X Y:World}{S:Nat}{c:List ql}{T M MX:Nat}{vx:Value}{xs:List ByteArray}{rl:List ((ByteArray×Nat)×Nat)}(hg:GInv g X)(hS:g.st S=some c)(h:StParts g.tag X S c T M MX vx xs rl)
  {k:ByteArray×Nat} {R:Nat} (hk:(k,R)∈rl) {rt:qb2} (hle:TagLe (qa1 g.tag S R) rt) (hnew:TagNew (qa1 g.tag S R) rt X) (hltY: ∀b U,rt b=some U->b<Y.heap.size) (hK:Keep (fun b=>qa1 g.tag S R b=none) X Y)
  {vD:Value} {P K:Nat} {lm:List (List Bool×Nat)} (hR:qb6 rt Y R k.2 ((qo c k.1 k.2).map (qr xs)) vD P K lm):GStep n0 g X {g with tag:=qbv g.tag S R rt} Y:=by
 have hfree: ∀b,g.tag b=none->qa1 g.tag S R b=none:=fun b hb=>by
  cases e:qa1 g.tag S R b with
  |none=>rfl
  |some U=>have:=qaa.1 e;rw [hb] at this;cases this
 have hnone: ∀b,b<X.heap.size->g.tag b=none->qbv g.tag S R rt b=none:=fun b hb ht=>by
  unfold qbv;cases e:rt b with
  |none=>exact ht
  |some U=>
   rcases hnew b U e with ⟨U',h1⟩ |h1
   ·rw [hfree b ht]at h1;cases h1
   ·omega
 have hparts:=h.rel_step hg.lt hk hle hnew hK hR;refine⟨hK.mono fun b _ hf=>hfree b hf.1,(GBd.refl g 0).more,fun b hb hf=>⟨hnone b hb hf.1,hf.2⟩,fun _ _=>rfl,?_⟩;refine⟨fun S' c' hS'=>?_,fun b S' U hb=>?_,fun b U hb=>?_,fun b o hb=>hK.heap (hg.hold b o hb) (hfree b (hg.apart b o hb)),fun b o hb=>hnone b (qe (hg.hold b o hb)) (hg.apart b o hb),fun b S' R' U hb=>?_⟩
 ·by_cases e:S'=S
  ·subst e;have:c'=c:=by rw [hS] at hS';cases hS';rfl
   subst this;exact⟨T,M,MX,vx,xs,rl,hparts⟩
  ·refine(hg.store S' c' hS').keep hK (fun b U hb=>?_) (fun b U=>qfk hg.lt hnew (fun V e'=>by cases e';exact e rfl));cases e':qa1 g.tag S R b with
   |none=>rfl
   |some V=>
    have:=qaa.1 e';rw [hb]at this;cases this;exact absurd rfl e
 ·simp only at hb;unfold qbv at hb;cases e:rt b with
  |none=>rw [e] at hb;exact hg.own b S' U hb
  |some V=>rw [e] at hb;cases hb;exact⟨c,hS⟩
 ·simp only at hb;unfold qbv at hb;cases e:rt b with
  |none=>rw [e] at hb;exact Nat.lt_of_lt_of_le (hg.lt b U hb) hK.size
  |some V=>exact hltY b V e
 ·simp only at hb;unfold qbv at hb;cases e:rt b with
  |none=>rw [e] at hb;exact Nat.lt_of_lt_of_le (hg.reln b S' R' U hb) hK.size
  |some V=>rw [e] at hb;cases hb;exact Nat.lt_of_lt_of_le (hg.lt _ _ (h.rel_at hk)) hK.size
end Go.Proofs
namespace Go.Proofs
open Go.RowKit Go.Ink R4
theorem StParts.table {tag:qct}{w:World}{S:Nat}{c:List ql}{T M MX:Nat}{vx:Value}{xs:List ByteArray}{rl:List ((ByteArray×Nat)×Nat)}(h:StParts tag w S c T M MX vx xs rl):TabAt w T MX vx xs:=⟨h.tab,h.own,h.nums⟩
abbrev q7h:Go.Conc.Locks.MuLink:={lock:=54,unlock:=55,ilock:=92,iunlock:=93,lockSlow:=129,unlockSlow:=132,disable:=125,enable:=127,acquire:=128,relMerge:=130,cas32:=126,add32:=131,tMutex:=114,tIMutex:=112,tPMutex:=167,tPIMutex:=219,tPI32:=221,tUP:=223,tNoCopy:=109,tU32:=110}
theorem qhd:Go.Conc.Locks.MuLib prog q7h:=
 ⟨Tryz.func54,Tryz.func55,Tryz.func92,Tryz.func93,Tryz.func125,Tryz.func127,Tryz.func128,Tryz.func130,Tryz.func126,Tryz.func131,Tryz.underlying112,Tryz.runUnderlying112,Tryz.sizeOf112,Tryz.isAgg112,Tryz.zeroValue112,Tryz.underlying114,Tryz.runUnderlying114,Tryz.sizeOf114,Tryz.isAgg114,Tryz.zeroValue114,Tryz.underlying167,Tryz.runUnderlying167,Tryz.sizeOf167,Tryz.isAgg167,Tryz.zeroValue167,Tryz.underlying219,Tryz.runUnderlying219,Tryz.sizeOf219,Tryz.isAgg219,Tryz.zeroValue219,Tryz.underlying221,Tryz.runUnderlying221,Tryz.sizeOf221,Tryz.isAgg221,Tryz.zeroValue221,Tryz.underlying223,Tryz.runUnderlying223,Tryz.sizeOf223,Tryz.isAgg223,Tryz.zeroValue223,Tryz.underlying109,Tryz.runUnderlying109,Tryz.sizeOf109,Tryz.isAgg109,Tryz.zeroValue109,Tryz.underlying21,Tryz.runUnderlying21,Tryz.sizeOf21,Tryz.isAgg21,Tryz.zeroValue21,(by kernel_rfl)⟩
theorem ql5 (w:World)(B o:Nat)(v:Value)(k:Nat):(w.setCell ⟨B,o,none⟩ v).heap[k]?=if k=B then (w.heap[k]?).map (fun x=>match x with |.cells c e f=>.cells (c.setIfInBounds o v) e f |x=>x) else w.heap[k]?:=by
 by_cases h:k=B
 ·subst h;rw [if_pos rfl];simp only [World.setCell,Option.isSome_none,Bool.false_eq_true,if_false];rw [Array.getElem?_modify,if_pos rfl];cases w.heap[k]? with
  |none=>rfl
  |some x=>cases x<;>rfl
 ·rw [if_neg h];exact Below.heap_setCell _ _ _ _ h
theorem Keep.set_both {C:Nat->Prop}{w w':World}(h:Keep C w w')(B o:Nat)(v:Value):Keep C (w.setCell ⟨B,o,none⟩ v) (w'.setCell ⟨B,o,none⟩ v):=
 ⟨h.os,h.tape,h.output,by simpa using h.size,fun k hk hC=>by
  rw [ql5,ql5,h.block k (by simpa using hk) hC]⟩
theorem q6j {w:World}{B t:Nat}{c:List Value}{u v:Value}{fr:Nat×Nat}(h:w.heap[B]?=some (.cells (u::c).toArray t fr)):((w.setCell ⟨B,0,none⟩ v).setCell ⟨B,0,none⟩ u)=w:=by
 have hb:=qe h;have: ∀k,((w.setCell ⟨B,0,none⟩ v).setCell ⟨B,0,none⟩ u).heap[k]?=w.heap[k]?:=fun k=>by
  rw [ql5,ql5];by_cases e:k=B
  ·subst e;rw [if_pos rfl,if_pos rfl,h];rfl
  ·rw [if_neg e,if_neg e]
 have he:((w.setCell ⟨B,0,none⟩ v).setCell ⟨B,0,none⟩ u).heap=w.heap:=Array.ext_getElem? this;show {w with heap:=((w.setCell ⟨B,0,none⟩ v).setCell ⟨B,0,none⟩ u).heap}=w;rw [he]
end Go.Proofs
namespace Go.Proofs
open Go.RowKit Go.Ink R4
attribute [local go_sem] Oper.semAt_some
theorem qiw: ∀a b:ByteArray×Nat,qdt a=qdt b->a=b:=fun a b h=>by
 unfold qdt at h;obtain⟨a1,a2⟩:=a;obtain⟨b1,b2⟩:=b;simp only [Value.agg.injEq,Array.mk.injEq,List.cons.injEq,Value.string.injEq,Value.int.injEq,true_and,and_true,Int.natCast_inj]at h;obtain⟨rfl,rfl⟩:=h
 rfl
theorem qj5:WideMaps.KeyLaw prog 122:=deep_law (m:=4) (by omega) (by kernel_rfl) (by kernel_rfl) (by simp only [Tryz.underlying122])
theorem qj6 {k:ByteArray×Nat}(h1:k.1.size<=1073741824)(h2:k.2<=1073741824): ∃l,keyOf prog 122 (qdt k)=some l:=by
 obtain⟨m,hm⟩:=ql1;have hkt:prog.keyType 122=true:=by kernel_rfl
 have c0:prog.cellsOf 122=2:=by kernel_rfl
 have c1:prog.cellsOf 9=1:=by kernel_rfl
 have c2:prog.cellsOf 3=1:=by kernel_rfl
 have e1: ∀d,prog.keyLits (d+1) 9 [.string k.1]=some [.string k.1.data.toList]:=fun d=>by
  unfold Program.keyLits;simp only [Tryz.underlying9];rw [if_pos (by simp only [maxLen];omega)]
 have e2: ∀d,prog.keyLits (d+1) 3 [.int .i64 (k.2:Int)]=some [.int .i64 (k.2:Int)]:=fun d=>by
  unfold Program.keyLits;simp only [Tryz.underlying3];have hok:okI (k.2:Int):=by unfold okI;omega
  have hw:(Lit.int .i64 (k.2:Int)).wf=true:=by
   simp only [Lit.wf,Bool.and_eq_true,decide_eq_true_eq];exact hok
  simp only [hw,and_self,if_true]
 unfold keyOf qdt;simp only [Tryz.underlying122];rw [if_pos (by simp [hkt,Value.formed,Tryz.underlying122,c0,Value.cells,Value.oneCell']),hm];rw [Program.keyLits.eq_def];simp only [Tryz.underlying122,c0];simp [Value.cells,c1,c2,e1,e2]
end Go.Proofs
namespace Go.Proofs
open Go.RowKit Go.Ink R4 Go.MuLone
attribute [local go_sem] Oper.semAt_some
theorem qix {C:Nat->Prop}{w W:World}{S t:Nat}{c:List Value}{fr:Nat×Nat}(h:w.heap[S]?=some (.cells (.int .i32 0::c).toArray t fr))(hK:Keep C (w.setCell ⟨S,0,none⟩ (.int .i32 1)) W):Keep C w (W.setCell ⟨S,0,none⟩ (.int .i32 0)):=by
 have:=Keep.set_both hK S 0 (.int .i32 0);rw [q6j h]at this;exact this
theorem qfd {κ ν:Type}[DecidableEq κ]{m:List (κ×ν)}{k:κ}{v:ν}(h:qc1 m k=some v):(k,v)∈m:=by
 unfold qc1 at h;rw [Option.map_eq_some_iff]at h;obtain⟨p,hp,rfl⟩:=h;have h1:p.1=k:=by simpa using find?_some hp
 have h2:=mem_of_find?_eq_some hp;obtain⟨a,b⟩:=p;simp only at h1;subst h1;exact h2
theorem qr9 {κ ν:Type}[DecidableEq κ]{m:List (κ×ν)}{k:κ}(h:qc1 m k=none): ∀v,(k,v)∉m:=fun v hv=>by
 unfold qc1 at h;rw [Option.map_eq_none_iff,find?_eq_none]at h;exact h (k,v) hv (decide_eq_true rfl)
theorem ql6: ∀w:World,(zeroValue 123).run prog w=.ok (.pointer none) w:=fun w=>by kernel_rfl
theorem ql7 {tag:qct}{w:World}{S:Nat}{c:List ql}{T M MX:Nat}{vx:Value}{xs:List ByteArray}{rl:List ((ByteArray×Nat)×Nat)}(h:StParts tag w S c T M MX vx xs rl){p:ByteArray}{n:Nat}(hl:qc1 rl (p,n)=none):qo c p n= []:=by
 refine eq_nil_iff_forall_not_mem.2 fun t ht=>?_;obtain⟨h1,h2⟩:=qay.1 ht;obtain⟨R,hR⟩:=h.all _ h1;simp only [h2]at hR;exact qr9 hl R hR
set_option maxRecDepth 100000 in
theorem qh8 {w:World}{S T M n:Nat}(h:w.heap[S]?=some (.cells (qex T M n).toArray 120 (0,0))):Calls prog 50 #[qj S] w fun e w'=>e=.returned (.bool false)/\w'=w:=by
 have c2:=qb h 2 _ rfl;have hB:=qe h;simp only [Nat.zero_add]at c2;clear h
 go_enter Tryz.func50,Tryz.ntmps50
 go_wp2;go_ret;exact⟨rfl,rfl⟩
set_option maxRecDepth 100000 in
theorem qqh (w:World):Calls prog 50 #[.pointer none] w fun e w'=>e=.returned (.bool true)/\w'=w:=by
 go_enter Tryz.func50,Tryz.ntmps50
 go_wp2;go_ret;exact⟨rfl,rfl⟩
set_option maxRecDepth 100000 in
theorem qzb (k:ByteArray×Nat)(w:World):Calls prog 119 #[.pointer none,qdt k] w fun e w'=>e=.returned (.int .i64 0)/\Keep (fun _=>True) w w':=by
 unfold qdt
 go_enter_defers Tryz.func119,Tryz.ntmps119
 go_wp2_with fail;refine(qqh _).mono ?_;rintro e w9 ⟨rfl,hw9⟩;have hw9:=hw9.symm;subst hw9;go_wp2_with fail;exact⟨_,results_tmp rfl _ _ _,rfl,kAl⟩
set_option maxRecDepth 100000 in
theorem qzc {tag:qct}{w:World}{S:Nat}{c:List ql}(h:StoreAt tag w S c)(p:ByteArray)(n:Nat)(hp:p.size<=1073741824)(hn:n<=1073741824):
  Calls prog 119 #[qj S,qdt (p,n)] w fun e w'=>e=.returned (.int .i64 ((qo c p n).length:Int))/\Keep (fun _=>True) w w':=by
 obtain⟨T,M,MX,vx,xs,rl,hP⟩:=h;obtain⟨W0,hW0⟩:=ex (w.alloc (.cells #[.string p,.int .i64 (n:Int)] 122));have k0:Keep (fun _=>True) w W0:=by rw [←hW0];exact kAl
 have z0:W0.heap.size=w.heap.size+1:=by rw [←hW0];simp
 have q0:W0.heap[w.heap.size]?=some (.cells #[.string p,.int .i64 (n:Int)] 122 (0,0)):=by rw [←hW0];exact qh _ _
 have hP0:=hP.keep (tag':=tag) k0 (fun _ _ _=>trivial) (fun _ _=>Iff.rfl);have a0:=qb hP0.box 0 _ rfl;have f0:=qf hP0.box 0;have hSl:=qe hP0.box;have hSw:=qe hP.box;obtain⟨W1,hW1⟩:=ex (W0.setCell ⟨S,0,none⟩ (.int .i32 1));have k1:Keep (fun b=>b≠S) W0 W1:=by rw [←hW1];exact kSc
 have box1:=q8 0 (.int .i32 1) hP0.box;rw [hW1]at box1;have a3:=qb box1 4 _ rfl;have a1:=qb box1 0 _ rfl;have f1:=qf box1 0;have hS1:=qe box1;have q1:=k1.heap q0 (by omega);have b0:=qb q1 0 _ rfl;have b1:=qb q1 1 _ rfl;have hq1:=qe q1;have hMS:M≠S:=fun e=>by have:=hP0.tagM;rw [e,hP0.tagS] at this;cases this
 have hrel:=hP0.rels.keep k1 hMS;have hlk:=fun m=>qd1 (P:=prog) Tryz.underlying116 qj5 qiw ql6 (hrel.keep (Keep.drewN' (fun _=>True) W1 m) trivial) (p,n) (qj6 hp hn) false;have hnone:=qh8 hP0.box;have hfin: ∀m,Keep (fun _=>True) w ((W1.drewN m).setCell ⟨S,0,none⟩ (.int .i32 0)):=fun m=>k0.trans (qix hP0.box (by rw [hW1];exact Keep.drewN' _ _ _));have hlock:=lock_free qhd ⟨S,0,none⟩ W0 (by simpa using a0) f0;rw [hW1]at hlock;simp only [Nat.zero_add]at a0 a1 a3 b0 b1;unfold qdt at hlk⊢;cases hl:qc1 rl (p,n) with
 |none=>
  simp only [hl,Bool.false_eq_true,if_false]at hlk;have hk:=ql7 hP hl;rw [hk];clear hl hrel hMS box1 hW1 q0 q1 k1 hP k0;refine hd6 ?_ hP0 hnone hlock hW0 hk hfin;clear hP0 hnone hlock hW0 hk hfin;intro XhP0 Xhnone Xhlock XhW0 Xhk Xhfin
  go_enter_defers Tryz.func119,Tryz.ntmps119
  go_wp2_with fail;rw [XhW0.o];refine Xhnone.o.mono ?_;rintro e w9 ⟨rfl,hw9⟩;have hw9:=hw9.symm;subst hw9;go_wp2_with fail;refine Xhlock.o.mono ?_;rintro e w9 ⟨rfl,hw9⟩;have hw9:=hw9.symm;subst hw9;go_wp2_with fail
  go_quiet (first |(go_at_call 144;exact Calls.quiet_of_same (qyz _)))
  go_wp2_with fail;refine leaves_cons (f:=55) (args:= #[.pointer (some ⟨S,0,none⟩)]) (by simp) (by simp [go_sem]) ?_;refine(unlock_deferred qhd ⟨S,0,none⟩ .returning _ (by simpa using a1) (by simpa using f1)).mono ?_;rintro e u' w'' ⟨rfl,rfl,rfl⟩;exact⟨_,results_tmp rfl _ _ _,rfl,Xhfin.o _⟩
 |some R=>
  simp only [hl,Bool.false_eq_true,if_false]at hlk;obtain⟨vD,P,K,lm,hR⟩:=hP0.rel _ _ (qfd hl);have hRS:R≠S:=fun e=>by have:=hP0.rel_at (qfd hl);rw [e,hP0.tagS] at this;cases this
  have hRl:=k1.heap hR.box hRS;have hlen:((qo c p n).map (qr xs)).length=(qo c p n).length:=length_map _;have hlR: ∀m,Calls prog 144 #[.pointer (some ⟨R,0,none⟩)] (W1.drewN m) fun e w'=>e=.returned (.int .i64 ((qo c p n).length:Int))/\w'=W1.drewN m:=fun m=>by
   have:=qy0 ((Keep.drewN' (fun _=>True) W1 m).heap hRl trivial);rw [hlen]at this;exact this
  clear hl hrel hMS box1 hW1 q0 q1 k1 hP k0 hR hRS hRl hlen;refine hd6 ?_ hP0 hnone hlock hW0 hfin hlR;clear hP0 hnone hlock hW0 hfin hlR;intro XhP0 Xhnone Xhlock XhW0 Xhfin XhlR
  go_enter_defers Tryz.func119,Tryz.ntmps119
  go_wp2_with fail;rw [XhW0.o];refine Xhnone.o.mono ?_;rintro e w9 ⟨rfl,hw9⟩;have hw9:=hw9.symm;subst hw9;go_wp2_with fail;refine Xhlock.o.mono ?_;rintro e w9 ⟨rfl,hw9⟩;have hw9:=hw9.symm;subst hw9;go_wp2_with fail
  go_quiet (first |(go_at_call 144;exact Calls.quiet_of_same (XhlR.o _)))
  go_wp2_with fail;refine leaves_cons (f:=55) (args:= #[.pointer (some ⟨S,0,none⟩)]) (by simp) (by simp [go_sem]) ?_;refine(unlock_deferred qhd ⟨S,0,none⟩ .returning _ (by simpa using a1) (by simpa using f1)).mono ?_;rintro e u' w'' ⟨rfl,rfl,rfl⟩;exact⟨_,results_tmp rfl _ _ _,rfl,Xhfin.o _⟩
theorem qk9:qce prog 86 3 1 8:=qcx (z:=.int .i64 0) (by kernel_rfl) (by kernel_rfl) rfl (by decide) (by decide)
theorem qsq (n:Nat)(h:n<=1073741824)(u:World):(Instr.makeSlice 86 (.int .i64 0) (.int .i64 (n:Int))).run prog u=
  .ok (.slice (some ⟨u.heap.size,0,none⟩) 0 n) (u.alloc (.cells (Array.replicate n (Value.int .i64 0)) 3)):=by
 obtain⟨i0,hi,hz0,hz1,hz2⟩:=info_parts qva;have h:=run_make (P:=prog) u 86 3 i0 (.int .i64 0) Tryz.underlying86 hi hz0 .i64 .i64 (0:Int) (n:Int) (by omega) (by omega) (by rw [hz2];omega) (by omega)
 simpa [hz1,Value.cells,qsd]using h
theorem q2h {xs t:List ByteArray}{k:Nat}{s:ByteArray}(h:t[k]?=some s):qr xs (t.take (k+1))=qr xs (t.take k)++ [((xs.idxOf s:Nat):Int)]:=by
 unfold qr;rw [take_add_one,h,map_append]
 rfl
theorem qdf (xs t:List ByteArray):(qr xs t).length=t.length:=length_map _
set_option maxRecDepth 100000 in
set_option maxHeartbeats 2000000 in
theorem qmh {w:World}{S T MX:Nat}{vx:Value}{xs:List ByteArray}(hc:w.cell? ⟨S,3,none⟩=some (qj T))(h:TabAt w T MX vx xs)(m:Nat)(v:Value)(t:List ByteArray)(ht:qae m w v t)(hm:m<=w.heap.size)(hsm: ∀s,s∈t->s.size<=1073741824):
  Calls prog 106 #[qj S,v] w fun e w'=> ∃vo,e=.returned (.tuple #[vo,.bool (t.all fun s=>decide (s∈xs))])/\
   ((t.all fun s=>decide (s∈xs))=true->w'.ownsRow w.heap.size 3 1 vo t.length ((qr xs t).map (.int .i64)))/\((t.all fun s=>decide (s∈xs))=false->vo=.slice none 0 0)/\Keep (fun _=>True) w w':=by
 obtain⟨a,c,rfl,hls,hcs,hes⟩:=id ht;have hSl:=World.block_lt_of_cell? _ _ hc;simp only at hSl;obtain⟨B,hB⟩:=ex (w.heap.size);obtain⟨W0,hW0⟩:=ex (w.alloc (.cells (Array.replicate t.length (Value.int .i64 0)) 3));have k0:Keep (fun _=>True) w W0:=by rw [←hW0];exact kAl
 have z0:W0.heap.size=w.heap.size+1:=by rw [←hW0];simp
 have q0:W0.ownsRow w.heap.size 3 1 (.slice (some ⟨w.heap.size,0,none⟩) 0 t.length) 0 []:=by
  rw [←hW0];exact World.ownsRow_made w _ t.length (Nat.le_refl _) (by simp only [maxLen];omega) (by simp)
 have hmk:=fun u=>qsq t.length hls u;rw [hB]at q0 z0;clear ht;refine hd8 ?_ hes k0 q0 hW0 hB h hsm hc;clear hes k0 q0 hW0 hB h hsm hc;intro Xhes Xk0 Xq0 XhW0 XhB Xh Xhsm Xhc
 go_enter Tryz.func106,Tryz.ntmps106
 go_wp2_with fail;rw [XhW0.o,XhB.o];clear hmk
 go_loopw [6,16] (fun x6 i' wr=> ∃k:Nat,k<=t.length/\i'=.int .i64 (k:Int)/\(∀s,s∈t.take k->s∈xs)/\wr.ownsRow B 3 1 x6 k ((qr xs (t.take k)).map (.int .i64))/\Keep (fun b=>b<B) w wr) (fun _ i _=>t.length-(intOf i).toNat)
 case atStart=>exact⟨0,by omega,rfl,by simp,Xq0.o,Xk0.o.mono fun _ _ _=>trivial⟩
 case round=>
  obtain⟨k,hk,rfl,hin,ho,hK⟩:=hrel;have hsz:=hK.size;have hcS:wr.cell? ⟨S,3,none⟩=some (qj T):=hK.cell Xhc.o (by have:=XhB.o;simp only;omega);have hSw:S<wr.heap.size:=by have:=XhB.o;omega
  by_cases hlt:k<t.length
  ·have hlt1:(k:Int)<t.length:=by omega
   have hk0:(0:Int)<=k:=by omega
   obtain⟨s,hs⟩: ∃s,t[k]?=some s:=⟨_,getElem?_eq_getElem hlt⟩;obtain⟨b,o,rfl,hbm,hcc⟩:=Xhes.o k s hs;unfold qgc at hcc;simp only [Nat.mul_one]at hcc;have hcw:=hK.cell hcc (by have:=XhB.o;simp only;omega);have hbw:b<wr.heap.size:=by have:=XhB.o;omega
   have hT:TabAt wr T MX vx xs:=Xh.o.keep hK (by have:=qe Xh.o.tab;have:=XhB.o;omega) (by have:=Xh.o.nums.lt;have:=XhB.o;omega) (fun b hb=>by have:=(World.ownsRow.lt Xh.o.own b hb).2;have:=XhB.o;omega);have hfd:=qwm hT s (Xhsm.o s (mem_of_getElem? hs));have hnt:=q2h (xs:=xs) hs;have hts:t.take (k+1)=t.take k++ [s]:=by rw [take_add_one,hs];rfl
   obtain⟨a6,c6,rfl⟩:=qi ho;by_cases hm:s∈xs
   ·rw [if_pos hm,decide_eq_true hm]at hfd;obtain⟨v',W6,hr,ho6,k6,g,cap,hv,hgo,hg6⟩:=qc4 (P:=prog) qk9 86 ho [.int .i64 ((xs.idxOf s:Nat):Int)] rfl (by simp [Value.oneCell']) (by omega) (by have:=XhB.o;omega);subst hv;have hin2: ∀x,x∈t.take (k+1)->x∈xs:=fun x hx=>by
     rw [hts,mem_append,mem_singleton]at hx;rcases hx with hx |rfl
     ·exact hin x hx
     ·exact hm
    have hK6:Keep (fun b=>b<B) w W6:=hK.trans (k6.mono fun b _ (hb:b<B) e=>by have:=(World.ownsRow.lt ho b e.symm).1;omega);clear hcc hs hm hts hT k6;refine qiz ?_ hfd ho hK hin2 hK6 hr ho6 hnt hg6 hgo hin;clear hfd ho hK hin2 hK6 hr ho6 hnt hg6 hgo hin;intro Xhfd Xho XhK Xhin2 XhK6 Xhr Xho6 Xhnt Xhg6 Xhgo Xhin;go_wp2_with (first |(at_builtin;refine qcq (v:=.slice a6 k c6) (u:=.slice (some ⟨wr.heap.size,0,none⟩) 1 1) (v':=.slice (some ⟨g,0,none⟩) (k+1) cap) (w':=W6) rfl (.tmp 32) (.tmp 34) 86 rfl rfl rfl Xhr.o ?_) |(go_at_call 139;refine Xhfd.o.mono ?_;rintro e w9 ⟨rfl,hw9⟩;have hw9:=hw9.symm;subst hw9));go_roundw
    case rel=>
     refine⟨k+1,by omega,by go_num,Xhin2.o,?_,XhK6.o⟩;rw [Xhnt.o,map_append];exact Xho6.o
    case measure=>simp [intOf];omega
   ·rw [if_neg hm,decide_eq_false hm]at hfd;have hall:(t.all fun s=>decide (s∈xs))=false:=by
     rw [all_eq_false];exact⟨s,mem_of_getElem? hs,by simpa using hm⟩
    clear hcc hs hm hts hT;refine hd5 ?_ hfd ho hK hin hall;clear hfd ho hK hin hall;intro Xhfd Xho XhK Xhin Xhall;go_wp2_with fail;refine Xhfd.o.mono ?_;rintro e w9 ⟨rfl,hw9⟩;have hw9:=hw9.symm;subst hw9;go_wp2_with fail
    go_ret2
    exact⟨_,by rw [Xhall.o];rfl,fun h=>by rw [Xhall.o] at h;(cases h),fun _=>rfl,XhK.o.mono fun b hb _=>by have:=XhB.o;omega⟩
  ·obtain rfl:k=t.length:=by omega
   rw [take_length]at hin ho;have hall:(t.all fun s=>decide (s∈xs))=true:=all_eq_true.2 fun s hs=>decide_eq_true (hin s hs);obtain⟨a6,c6,rfl⟩:=qi ho;clear hlt hin;refine hd3 ?_ ho hK hall;clear ho hK hall;intro Xho XhK Xhall;go_wp2_with fail
   go_ret2
   exact⟨_,by rw [Xhall.o];rfl,fun _=>Xho.o.mono (by have:=XhB.o;omega),fun h=>by rw [Xhall.o] at h;(cases h),XhK.o.mono fun b hb _=>by have:=XhB.o;omega⟩
end Go.Proofs
