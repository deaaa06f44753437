/- Parts of the proof. -/
import Derived.Test.YtnponcjnahicnaaGreatProg
import Derived.Test.YtnponcjnahicnaaGreatStGToStJ
import Derived.Test.YtnponcjnahicnaaGreatStHToTxC
import Derived.Test.YtnponcjnahicnaaGreatRelOToRelP
import Derived.Test.YtnponcjnahicnaaGreatHdToKp
set_option linter.unusedSimpArgs false
set_option linter.unusedVariables false
open List(all_eq_true append_nil find?_eq_none foldl_cons getElem?_inj getElem?_map length_append length_map length_singleton map_append map_congr_left map_cons map_nil mem_append mem_append_left mem_append_right mem_cons_of_mem mem_cons_self mem_iff_getElem? mem_map mem_range mem_singleton nodup_append)
namespace Go.Proofs
open Go.RowKit Go.Ink R4
def qbw (tag:qct)(S R:Nat)(rt:qb2)(vx:Value):qct:=fun b=>if vx.ownBlock=some b then some (S,.texts) else qbv tag S R rt b
def qdq (rl:List ((ByteArray×Nat)×Nat))(k:ByteArray×Nat)(R:Nat):List ((ByteArray×Nat)×Nat):=if (k,R)∈rl then rl else rl++ [(k,R)]
theorem qzh (c:List ql)(f:ql){k:ByteArray×Nat}(h:k≠(f.pred,f.tuple.length)):qo (c++ [f]) k.1 k.2=qo c k.1 k.2:=by
 rw [qjn,qtq,if_neg (fun e=>h (by obtain⟨a,b⟩:=k;simp only at e;rw [←e.1,←e.2])),append_nil]
theorem q2n (c:List ql)(f:ql):qo (c++ [f]) f.pred f.tuple.length=qo c f.pred f.tuple.length++ [f.tuple]:=by
 rw [qjn,qtq,if_pos ⟨rfl,rfl⟩]
theorem qkl {xs:List ByteArray}{ts:List ByteArray}{l:List (List ByteArray)}(h: ∀u s,u∈l->s∈u->s∈xs):l.map (qr (ts.foldl qq xs))=l.map (qr xs):=map_congr_left fun u hu=>q2o fun s hs=>h u s hu hs
theorem qsa {n0:Nat}{g:Gh}{w Wf:World}{S:Nat}{c:List ql}{T M MX:Nat}{vx vx':Value}{xs:List ByteArray}{rl:List ((ByteArray×Nat)×Nat)}(hg:GInv g w)(hS:g.st S=some c)(hP:StParts g.tag w S c T M MX vx xs rl)
  (f:ql) (c':List ql) (hc:(c'=c/\f∈c)∨(c'=c++ [f]/\f∉c)) (hfew:c.length<67108864) (hl16:f.tuple.length<=16) {R:Nat} (hR:((f.pred,f.tuple.length),R)∈rl∨(w.heap.size<=R/\ ∀R',((f.pred,f.tuple.length),R')∉rl))
  (box:Wf.heap[S]?=some (.cells (qex T M c'.length).toArray 120 (0,0))) (htab:TabAt Wf T MX vx' (f.tuple.foldl qq xs)) (hrel:qh7 Wf M (qdq rl (f.pred,f.tuple.length) R))
  {rt:qb2} {vD:Value} {P K:Nat} {lm:List (List Bool×Nat)} (hRo:qb6 rt Wf R f.tuple.length ((qo c' f.pred f.tuple.length).map (qr (f.tuple.foldl qq xs))) vD P K lm)
  (hle:TagLe (qa1 g.tag S R) rt) (hnew:TagNew (qa1 g.tag S R) rt w) (hltY: ∀b U,rt b=some U->b<Wf.heap.size)
  (hK:Keep (fun b=>b≠S/\b≠T/\b≠MX/\b≠M/\vx.ownBlock≠some b/\qa1 g.tag S R b=none) w Wf) (hvx: ∀b,vx'.ownBlock=some b->vx.ownBlock=some b∨(w.heap.size<=b/\rt b=none)):
  GStep n0 g w {g with st:=g.with S c',tag:=qbw g.tag S R rt vx'} Wf:=by
 have hin: ∀k:ByteArray×Nat,∀u s,u∈qo c k.1 k.2->s∈u->s∈xs:=fun k u s hu hs=>hP.texts _ s (qay.1 hu).1 hs;have hvo: ∀b,vx.ownBlock=some b->rt b=none:=fun b hb=>by
  cases e:rt b with
  |none=>rfl
  |some U=>
   rcases hnew b U e with ⟨U',h1⟩ |h1
   ·have:=qaa.1 h1;rw [hP.tagx b hb] at this;cases this
   ·have:=hg.lt b _ (hP.tagx b hb);omega
 have hrtx: ∀b,vx'.ownBlock=some b->rt b=none:=fun b hb=>(hvx b hb).elim (hvo b) (fun h=>h.2);have hgx: ∀b,vx'.ownBlock=some b->g.tag b=some (S,.texts)∨g.tag b=none:=fun b hb=>by
  rcases hvx b hb with h |h
  ·exact .inl (hP.tagx b h)
  ·cases e:g.tag b with
   |none=>exact .inr rfl
   |some U=>have:=hg.lt b U e;omega
 have keepT: ∀b U,g.tag b=some U->(∀V,U≠(S,.rel R V))->qbw g.tag S R rt vx' b=some U:=fun b U hb hU=>by
  unfold qbw;split
  ·rename_i hx;rcases hgx b hx with h |h
   ·rw [hb]at h;exact h.symm
   ·rw [hb]at h;cases h
  ·exact(qfk hg.lt hnew hU).2 hb
 have backT: ∀b U,qbw g.tag S R rt vx' b=some U->(∀V,U≠(S,.rel R V))->U≠(S,.texts)->g.tag b=some U:=fun b U hb hU ht=>by
  unfold qbw at hb;split at hb
  ·exact absurd (Option.some.inj hb).symm ht
  ·exact(qfk hg.lt hnew hU).1 hb
 have relTR:qa1 (qbw g.tag S R rt vx') S R=rt:=by
  refine Eq.trans (funext fun b=>?_) (qqg hle);have e1: ∀V,qbw g.tag S R rt vx' b=some (S,.rel R V)↔qbv g.tag S R rt b=some (S,.rel R V):=fun V=>by
   unfold qbw;split
   ·rename_i hx;constructor
    ·intro h;cases h
    ·intro h;unfold qbv at h;rw [hrtx b hx]at h;rcases hgx b hx with h2 |h2
     ·rw [h2]at h;cases h
     ·rw [h2]at h;cases h
   ·exact Iff.rfl
  cases e:qa1 (qbv g.tag S R rt) S R b with
  |some V=>exact qaa.2 ((e1 V).2 (qaa.1 e))
  |none=>
   cases e':qa1 (qbw g.tag S R rt vx') S R b with
   |none=>rfl
   |some V=>
    have:=qaa.2 ((e1 V).1 (qaa.1 e'));rw [e]at this;cases this
 have relTo: ∀R',R'≠R->qa1 (qbw g.tag S R rt vx') S R'=qa1 g.tag S R':=fun R' hne=>funext fun b=>by
  have e1: ∀V,qbw g.tag S R rt vx' b=some (S,.rel R' V)↔g.tag b=some (S,.rel R' V):=fun V=>
   ⟨fun h=>backT b _ h (fun V' e=>by cases e;exact hne rfl) (fun e=>by cases e),fun h=>keepT b _ h (fun V' e=>by cases e;exact hne rfl)⟩
  cases e:qa1 g.tag S R' b with
  |some V=>exact qaa.2 ((e1 V).2 (qaa.1 e))
  |none=>
   cases e':qa1 (qbw g.tag S R rt vx') S R' b with
   |none=>rfl
   |some V=>
    have:=qaa.2 ((e1 V).1 (qaa.1 e'));rw [e]at this;cases this
 have noneT: ∀b,b<w.heap.size->g.tag b=none->qbw g.tag S R rt vx' b=none:=fun b hb ht=>by
  unfold qbw;split
  ·rename_i hx;rcases hvx b hx with h |h
   ·have:=hP.tagx b h;rw [ht] at this;cases this
   ·omega
  ·unfold qbv;cases e:rt b with
   |none=>exact ht
   |some U=>
    rcases hnew b U e with ⟨U',h1⟩ |h1
    ·have:=qaa.1 h1;rw [ht] at this;cases this
    ·omega
 have relN: ∀b U,g.tag b=some U->(∀V,U≠(S,.rel R V))->qa1 g.tag S R b=none:=fun b U hb hU=>by
  cases e:qa1 g.tag S R b with
  |none=>rfl
  |some V=>have:=qaa.1 e;rw [hb] at this;exact absurd (Option.some.inj this) (hU V)
 have cOf: ∀b U,g.tag b=some U->U≠(S,.box)->U≠(S,.tab)->U≠(S,.nums)->U≠(S,.rels)->U≠(S,.texts)->(∀V,U≠(S,.rel R V))->b≠S/\b≠T/\b≠MX/\b≠M/\vx.ownBlock≠some b/\qa1 g.tag S R b=none:=fun b U hb u1 u2 u3 u4 u5 u6=>by
  refine⟨fun e=>?_,fun e=>?_,fun e=>?_,fun e=>?_,fun e=>?_,relN b U hb u6⟩
  ·subst e;rw [hP.tagS] at hb;exact u1 (Option.some.inj hb).symm
  ·subst e;rw [hP.tagT] at hb;exact u2 (Option.some.inj hb).symm
  ·subst e;rw [hP.tagN] at hb;exact u3 (Option.some.inj hb).symm
  ·subst e;rw [hP.tagM] at hb;exact u4 (Option.some.inj hb).symm
  ·rw [hP.tagx b e]at hb;exact u5 (Option.some.inj hb).symm
 have hkeys:(rl.map (·.1)).Nodup:=by
  obtain⟨_,_,_,_,hn,_⟩:=hP.rels;exact hn
 have hkR: ∀k' R',(k',R')∈rl->(R'=R↔k'=(f.pred,f.tuple.length)):=fun k' R' hm=>by
  obtain⟨i,hi⟩:=mem_iff_getElem?.1 hm;have hil:=(List.getElem?_eq_some_iff.1 hi).1;rcases hR with hR |⟨hR1,hR2⟩
  ·obtain⟨j,hj⟩:=mem_iff_getElem?.1 hR;constructor
   ·intro e;have hij:i=j:=(getElem?_inj (l:=rl.map (·.2)) (by rw [length_map];exact hil) hP.inj).1 (by rw [getElem?_map,getElem?_map,hi,hj,e];rfl);subst hij;rw [hi]at hj;cases hj
    rfl
   ·intro e;have hij:i=j:=(getElem?_inj (l:=rl.map (·.1)) (by rw [length_map];exact hil) hkeys).1 (by rw [getElem?_map,getElem?_map,hi,hj,e];rfl);subst hij;rw [hi]at hj;cases hj
    rfl
  ·constructor
   ·intro e;have:=hg.lt _ _ (hP.rel_at hm);omega
   ·intro e;subst e;exact absurd hm (hR2 R')
 have hmem: ∀k' R',(k',R')∈qdq rl (f.pred,f.tuple.length) R->(k',R')∈rl∨(k'=(f.pred,f.tuple.length)/\R'=R):=fun k' R' hm=>by
  unfold qdq at hm;split at hm
  ·exact .inl hm
  ·rcases mem_append.1 hm with h |h
   ·exact .inl h
   ·rw [mem_singleton]at h;cases h;exact .inr ⟨rfl,rfl⟩
 have hinR:((f.pred,f.tuple.length),R)∈qdq rl (f.pred,f.tuple.length) R:=by
  unfold qdq;split
  ·assumption
  ·exact mem_append_right _ (mem_singleton.2 rfl)
 have hold: ∀k' R',(k',R')∈rl->(k',R')∈qdq rl (f.pred,f.tuple.length) R:=fun k' R' hm=>by
  unfold qdq;split
  ·exact hm
  ·exact mem_append_left _ hm
 have hck: ∀k':ByteArray×Nat,k'≠(f.pred,f.tuple.length)->qo c' k'.1 k'.2=qo c k'.1 k'.2:=fun k' hk=>by
  rcases hc with ⟨h,_⟩ |⟨h,_⟩
  ·rw [h]
  ·rw [h];exact qzh c f hk
 have hcm: ∀x,x∈c'->x∈c∨x=f:=fun x hx=>by
  rcases hc with ⟨h,_⟩ |⟨h,_⟩
  ·rw [h]at hx;exact .inl hx
  ·rw [h,mem_append,mem_singleton]at hx;exact hx
 have hxl:=(qe9 f.tuple xs).2;have hxs:f∈c->f.tuple.foldl qq xs=xs:=fun hf=>by
  have: ∀(ts:List ByteArray),(∀s,s∈ts->s∈xs)->ts.foldl qq xs=xs:=by
   intro ts
   induction ts with
   |nil=>intro _;rfl
   |cons t ts ih=>
    intro h;rw [foldl_cons,show qq xs t=xs from if_pos (h t (mem_cons_self ..))];exact ih fun s hs=>h s (mem_cons_of_mem _ hs)
  exact this _ fun s hs=>hP.texts f s hf hs
 have hparts:StParts (qbw g.tag S R rt vx') Wf S c' T M MX vx' (f.tuple.foldl qq xs) (qdq rl (f.pred,f.tuple.length) R):=by
  refine⟨keepT _ _ hP.tagS (fun V e=>by cases e),box,keepT _ _ hP.tagT (fun V e=>by cases e),htab.tab,htab.own,fun b hb=>by unfold qbw;rw [if_pos hb],keepT _ _ hP.tagN (fun V e=>by cases e),htab.nums,keepT _ _ hP.tagM (fun V e=>by cases e),hrel,fun k' R' hm=>?_,?_,fun x hx=>?_,fun x s hx hs=>?_,?_,?_,?_⟩
  ·by_cases e:R'=R
   ·subst e;have hk:k'=(f.pred,f.tuple.length):=by
     rcases hmem k' R' hm with h |h
     ·exact(hkR k' R' h).1 rfl
     ·exact h.1
    subst hk;rw [relTR];exact⟨vD,P,K,lm,hRo⟩
   ·have hm:(k',R')∈rl:=(hmem k' R' hm).elim id (fun h=>absurd h.2 e);have hk:k'≠(f.pred,f.tuple.length):=fun h=>e ((hkR k' R' hm).2 h);obtain⟨vD',P',K',lm',hR'⟩:=hP.rel k' R' hm;rw [relTo R' e,hck k' hk,qkl (hin k')];exact⟨vD',P',K',lm',hR'.keep hK (fun b U hb _=>cOf b _ (qaa.1 hb) (fun h=>by cases h) (fun h=>by cases h) (fun h=>by cases h) (fun h=>by cases h) (fun h=>by cases h) (fun V h=>by cases h;exact e rfl))⟩
  ·unfold qdq;split
   ·exact hP.inj
   ·rename_i hno;rw [map_append,nodup_append];refine⟨hP.inj,by simp,fun a ha b hb h=>?_⟩;obtain⟨q,hq,rfl⟩:=mem_map.1 ha;simp only [map_cons,map_nil,mem_singleton]at hb;rw [hb]at h;obtain⟨k',R'⟩:=q;simp only at h;have:=(hkR k' R' hq).1 h;subst h this;exact hno hq
  ·rcases hcm x hx with h |h
   ·obtain⟨R',hR'⟩:=hP.all x h;exact⟨R',hold _ _ hR'⟩
   ·subst h;exact⟨R,hinR⟩
  ·rcases hcm x hx with h |h
   ·exact qc9.2 (.inl (hP.texts x s h hs))
   ·subst h;exact qc9.2 (.inr hs)
  ·rcases hc with ⟨h,_⟩ |⟨h,hf⟩
   ·rw [h];exact hP.nodup
   ·rw [h,nodup_append];refine⟨hP.nodup,by simp,fun a ha b hb e=>?_⟩;rw [mem_singleton]at hb;subst e hb;exact hf ha
  ·rcases hc with ⟨h,_⟩ |⟨h,_⟩
   ·rw [h];exact hP.few
   ·rw [h,length_append,length_singleton];omega
  ·have:=hP.xfew;rcases hc with ⟨h,hf⟩ |⟨h,_⟩
   ·rw [h,hxs hf];exact hP.xfew
   ·rw [h,length_append,length_singleton];omega
 have zK:=hK.size;refine⟨hK.mono fun b hb hf=>?_,fun S' c0 hc0=>?_,fun b hb hf=>⟨noneT b hb hf.1,hf.2⟩,fun _ _=>rfl,?_⟩
 ·have ht:=hf.1;refine⟨fun e=>?_,fun e=>?_,fun e=>?_,fun e=>?_,fun e=>?_,?_⟩
  ·subst e;rw [hP.tagS] at ht;cases ht
  ·subst e;rw [hP.tagT] at ht;cases ht
  ·subst e;rw [hP.tagN] at ht;cases ht
  ·subst e;rw [hP.tagM] at ht;cases ht
  ·rw [hP.tagx b e]at ht;cases ht
  ·cases e:qa1 g.tag S R b with
   |none=>rfl
   |some V=>have:=qaa.1 e;rw [ht] at this;cases this
 ·show∃d,g.with S c' S'=some (c0++d);unfold Gh.with;split
  ·rename_i e;subst e;rw [hS]at hc0;cases hc0;rcases hc with ⟨h,_⟩ |⟨h,_⟩
   ·exact⟨[],by rw [h,append_nil]⟩
   ·exact⟨[f],by rw [h]⟩
  ·exact⟨[],by rw [append_nil];exact hc0⟩
 refine⟨fun S' c0 hc0=>?_,fun b S' U hb=>?_,fun b U hb=>?_,fun b o hb=>?_,fun b o hb=>noneT b (qe (hg.hold b o hb)) (hg.apart b o hb),fun b S' R' U hb=>?_⟩
 ·have hc2:g.with S c' S'=some c0:=hc0;clear hc0;unfold Gh.with at hc2;split at hc2
  ·rename_i e;subst e;injection hc2 with hc2
   subst hc2;exact⟨T,M,MX,vx',_,_,hparts⟩
  ·rename_i e;refine(hg.store S' c0 hc2).keep hK (fun b U hb=>cOf b _ hb (fun h=>by cases h;exact e rfl) (fun h=>by cases h;exact e rfl) (fun h=>by cases h;exact e rfl) (fun h=>by cases h;exact e rfl) (fun h=>by cases h;exact e rfl) (fun V h=>by cases h;exact e rfl)) (fun b U=>⟨fun hb=>backT b _ hb (fun V h=>by cases h;exact e rfl) (fun h=>by cases h;exact e rfl),fun hb=>keepT b _ hb (fun V h=>by cases h;exact e rfl)⟩)
 ·have hb2:qbw g.tag S R rt vx' b=some (S',U):=hb;show∃c0,g.with S c' S'=some c0;unfold qbw at hb2;have hSS:g.with S c' S=some c':=by unfold Gh.with;rw [if_pos rfl]
  split at hb2
  ·cases hb2;exact⟨c',hSS⟩
  ·unfold qbv at hb2;cases e:rt b with
   |some V=>rw [e] at hb2;cases hb2;exact⟨c',hSS⟩
   |none=>
    rw [e]at hb2;obtain⟨c0,h0⟩:=hg.own b S' U hb2;by_cases e2:S'=S
    ·rw [e2];exact⟨c',hSS⟩
    ·exact⟨c0,by unfold Gh.with;rw [if_neg e2];exact h0⟩
 ·have hb2:qbw g.tag S R rt vx' b=some U:=hb;unfold qbw at hb2;split at hb2
  ·rename_i hx;exact(World.ownsRow.lt htab.own b hx).2
  ·unfold qbv at hb2;cases e:rt b with
   |some V=>exact hltY b V e
   |none=>rw [e] at hb2;exact Nat.lt_of_lt_of_le (hg.lt b U hb2) zK
 ·have ht:=hg.apart b o hb;refine hK.heap (hg.hold b o hb) ⟨fun e=>?_,fun e=>?_,fun e=>?_,fun e=>?_,fun e=>?_,?_⟩
  ·subst e;rw [hP.tagS] at ht;cases ht
  ·subst e;rw [hP.tagT] at ht;cases ht
  ·subst e;rw [hP.tagN] at ht;cases ht
  ·subst e;rw [hP.tagM] at ht;cases ht
  ·rw [hP.tagx b e]at ht;cases ht
  ·cases e:qa1 g.tag S R b with
   |none=>rfl
   |some V=>have:=qaa.1 e;rw [ht] at this;cases this
 ·have hb2:qbw g.tag S R rt vx' b=some (S',.rel R' U):=hb;unfold qbw at hb2;split at hb2
  ·cases hb2
  ·unfold qbv at hb2;cases e:rt b with
   |some V=>rw [e] at hb2;cases hb2;exact hltY _ _ hRo.tagB
   |none=>rw [e] at hb2;exact Nat.lt_of_lt_of_le (hg.reln b S' R' U hb2) zK
def qg1 (T M n:Nat):List Value:= [.int .i32 1,.int .u32 0,.bool true,qj T,.map (some M),.int .i64 (n:Int)]
theorem qwl {xs t:List ByteArray}:qdb t.length (qr xs t)=true:=by
 unfold qdb;rw [qdf,decide_eq_true rfl,Bool.true_and,all_eq_true];intro x hx;unfold qr at hx;obtain⟨s,_,rfl⟩:=mem_map.1 hx;exact decide_eq_true (by omega)
theorem qq4 {c:List ql}{pr:ByteArray}{tup xs:List ByteArray}(hin: ∀u s,u∈qo c pr tup.length->s∈u->s∈xs)(ht: ∀s,s∈tup->s∈xs):
  (qhh tup.length ((qo c pr tup.length).map (qr xs)) (qr xs tup)).2.1=decide ((⟨pr,tup⟩:ql)∉c)/\(qhh tup.length ((qo c pr tup.length).map (qr xs)) (qr xs tup)).2.2=0:=by
 unfold qhh;rw [if_pos qwl,qqi hin ht];by_cases h:(⟨pr,tup⟩:ql)∈c
 ·have hm:tup∈qo c pr tup.length:=qay.2 ⟨h,rfl⟩;cases e:qdl (qo c pr tup.length) tup with
  |none=>
   exfalso;unfold qdl at e;obtain⟨i,hi⟩:=mem_iff_getElem?.1 hm;exact find?_eq_none.1 e i (mem_range.2 (List.getElem?_eq_some_iff.1 hi).1) (decide_eq_true hi)
  |some i=>exact⟨by simp [h],rfl⟩
 ·have hm:tup∉qo c pr tup.length:=fun h2=>h (qay.1 h2).1;rw [qoa hm];exact⟨by simp [h],rfl⟩
theorem qxg {n0:Nat}{g:Gh}{w Wq W5 W6:World}{S:Nat}{c:List ql}{T M MX:Nat}{vx vx':Value}{xs:List ByteArray}{rl:List ((ByteArray×Nat)×Nat)}(hg:GInv g w)(hS:g.st S=some c)(hP:StParts g.tag w S c T M MX vx xs rl)
  (pr:ByteArray) (tup:List ByteArray) (hfew:c.length<67108864) (hl16:tup.length<=16) {R:Nat} (hR:((pr,tup.length),R)∈rl∨(w.heap.size<=R/\ ∀R',((pr,tup.length),R')∉rl))
  (kq:Keep (fun b=>b≠S/\b≠M) w Wq) (boxq:Wq.heap[S]?=some (.cells (qg1 T M c.length).toArray 120 (0,0))) (relsq:qh7 Wq M (qdq rl (pr,tup.length) R))
  {rt0 rt:qb2} {vD vD':Value} {P K:Nat} {lm:List (List Bool×Nat)} (hRq:qb6 rt0 Wq R tup.length ((qo c pr tup.length).map (qr xs)) vD P K lm) (hle0:TagLe (qa1 g.tag S R) rt0) (hnew0:TagNew (qa1 g.tag S R) rt0 w)
  (k5:Keep (fun b=>b≠T/\b≠MX/\vx.ownBlock≠some b) Wq W5) (tab5:TabAt W5 T MX vx' (tup.foldl qq xs)) (hvx5: ∀b,vx'.ownBlock=some b->vx.ownBlock=some b∨Wq.heap.size<=b)
  (k6:Keep (fun b=>rt0 b=none) W5 W6) (hR6:qb6 rt W6 R tup.length (qku tup.length ((qo c pr tup.length).map (qr (tup.foldl qq xs))) (qr (tup.foldl qq xs) tup)) vD' P K lm) (hle6:TagLe rt0 rt) (hnew6:TagNew rt0 rt W5):
  W6.heap[S]?=some (.cells (qg1 T M c.length).toArray 120 (0,0))/\
  ((⟨pr,tup⟩:ql)∈c->GStep n0 g w {g with st:=g.with S c,tag:=qbw g.tag S R rt vx'} (W6.setCell ⟨S,0,none⟩ (.int .i32 0)))/\
  ((⟨pr,tup⟩:ql)∉c->GStep n0 g w {g with st:=g.with S (c++ [⟨pr,tup⟩]),tag:=qbw g.tag S R rt vx'} ((W6.setCell ⟨S,5,none⟩ (.int .i64 ((c.length:Int)+1))).setCell ⟨S,0,none⟩ (.int .i32 0))):=by
 have hin: ∀u s,u∈qo c pr tup.length->s∈u->s∈xs:=fun u s hu hs=>hP.texts _ s (qay.1 hu).1 hs;have z1:=kq.size;have z2:=k5.size;have z3:=k6.size;have hr0: ∀b,b<w.heap.size->qa1 g.tag S R b=none->rt0 b=none:=fun b hb h=>by
  cases e:rt0 b with
  |none=>rfl
  |some U=>
   rcases hnew0 b U e with ⟨U',h1⟩ |h1
   ·rw [h]at h1;cases h1
   ·omega
 have hro: ∀b U,g.tag b=some (S,U)->(∀V,U≠.rel R V)->rt0 b=none:=fun b U hb hU=>hr0 b (hg.lt b _ hb) (by
  cases e:qa1 g.tag S R b with
  |none=>rfl
  |some V=>have:=qaa.1 e;rw [hb] at this;cases this;exact absurd rfl (hU V))
 have rS:=hro S _ hP.tagS (fun V e=>by cases e);have rT:=hro T _ hP.tagT (fun V e=>by cases e);have rX:=hro MX _ hP.tagN (fun V e=>by cases e);have rM:=hro M _ hP.tagM (fun V e=>by cases e);have rv: ∀b,vx.ownBlock=some b->rt0 b=none:=fun b hb=>hro b _ (hP.tagx b hb) (fun V e=>by cases e);have dST:S≠T:=fun e=>by have:=hP.tagT;rw [←e,hP.tagS] at this;cases this
 have dSX:S≠MX:=fun e=>by have:=hP.tagN;rw [←e,hP.tagS] at this;cases this
 have dSM:S≠M:=fun e=>by have:=hP.tagM;rw [←e,hP.tagS] at this;cases this
 have dMT:M≠T:=fun e=>by have:=hP.tagT;rw [←e,hP.tagM] at this;cases this
 have dMX:M≠MX:=fun e=>by have:=hP.tagN;rw [←e,hP.tagM] at this;cases this
 have dvS:vx.ownBlock≠some S:=fun e=>by have:=hP.tagx S e;rw [hP.tagS] at this;cases this
 have dvM:vx.ownBlock≠some M:=fun e=>by have:=hP.tagx M e;rw [hP.tagM] at this;cases this
 have box6:W6.heap[S]?=some (.cells (qg1 T M c.length).toArray 120 (0,0)):=k6.heap (k5.heap boxq ⟨dST,dSX,dvS⟩) rS;have rels6:qh7 W6 M (qdq rl (pr,tup.length) R):=(relsq.keep k5 ⟨dMT,dMX,dvM⟩).keep k6 rM;have v5: ∀b,vx'.ownBlock=some b->rt0 b=none:=fun b hb=>by
  rcases hvx5 b hb with h |h
  ·exact rv b h
  ·cases e:rt0 b with
   |none=>rfl
   |some U=>have:=hRq.lt b U e;omega
 have tab6:TabAt W6 T MX vx' (tup.foldl qq xs):=tab5.keep k6 rT rX v5;have dvS':vx'.ownBlock≠some S:=fun e=>by
  rcases hvx5 S e with h |h
  ·exact dvS h
  ·have:=qe boxq;omega
 have hrt: ∀b,rt0 b=none->b<W5.heap.size->rt b=none:=fun b h hb=>by
  cases e:rt b with
  |none=>rfl
  |some U=>
   rcases hnew6 b U e with ⟨U',h1⟩ |h1
   ·rw [h]at h1;cases h1
   ·omega
 have rS':rt S=none:=hrt S rS (by have:=qe boxq;omega);have hns:=qkl (ts:=tup) hin;have haT:qku tup.length ((qo c pr tup.length).map (qr (tup.foldl qq xs))) (qr (tup.foldl qq xs) tup)=if (⟨pr,tup⟩:ql)∈c then (qo c pr tup.length).map (qr (tup.foldl qq xs)) else (qo c pr tup.length).map (qr (tup.foldl qq xs))++ [qr (tup.foldl qq xs) tup]:=by
  unfold qku;rw [(qq4 (fun u s hu hs=>qc9.2 (.inl (hin u s hu hs))) (fun s hs=>qc9.2 (.inr hs))).1];by_cases h:(⟨pr,tup⟩:ql)∈c
  ·rw [if_pos h,if_neg (by simp [h])]
  ·rw [if_neg h,if_pos (by simp [h])]
 have kC:Keep (fun b=>b≠S/\b≠T/\b≠MX/\b≠M/\vx.ownBlock≠some b/\qa1 g.tag S R b=none) w W6:=by
  have a:Keep (fun b=>(b≠S/\b≠T/\b≠MX/\b≠M/\vx.ownBlock≠some b/\qa1 g.tag S R b=none)/\b<w.heap.size) w Wq:=kq.mono fun b _ h=>⟨h.1.1,h.1.2.2.2.1⟩;have b:Keep (fun b=>(b≠S/\b≠T/\b≠MX/\b≠M/\vx.ownBlock≠some b/\qa1 g.tag S R b=none)/\b<w.heap.size) Wq W5:=k5.mono fun b _ h=>⟨h.1.2.1,h.1.2.2.1,h.1.2.2.2.2.1⟩;have c:Keep (fun b=>(b≠S/\b≠T/\b≠MX/\b≠M/\vx.ownBlock≠some b/\qa1 g.tag S R b=none)/\b<w.heap.size) W5 W6:=k6.mono fun b _ h=>hr0 b h.2 h.1.2.2.2.2.2;exact((a.trans b).trans c).mono fun b hb h=>⟨h,hb⟩
 have hle:=hle0.trans hle6;have hnew:=R4.TagNew.trans hnew0 hnew6 (show w.heap.size<=W5.heap.size by omega);have hvx: ∀b,vx'.ownBlock=some b->vx.ownBlock=some b∨(w.heap.size<=b/\rt b=none):=fun b hb=>(hvx5 b hb).imp id (fun h=>⟨by omega,hrt b (v5 b hb) (World.ownsRow.lt tab5.own b hb).2⟩);refine⟨box6,fun hf=>?_,fun hf=>?_⟩
 ·have kS:Keep (fun b=>b≠S) W6 (W6.setCell ⟨S,0,none⟩ (.int .i32 0)):=kSc;rw [haT,if_pos hf]at hR6;refine qsa hg hS hP ⟨pr,tup⟩ c (.inl ⟨rfl,hf⟩) hfew hl16 hR ?_ (tab6.keep kS (fun e=>dST e.symm) (fun e=>dSX e.symm) (fun b hb e=>dvS' (by rw [←e];exact hb))) (rels6.keep kS (fun e=>dSM e.symm)) (hR6.keep kS (fun b U hb _ e=>by subst e;rw [rS'] at hb;cases hb)) hle hnew (fun b U hb=>by have:=hR6.lt b U hb;simpa using this) (kC.trans (kS.mono fun b _ h=>h.1)) hvx;have:=q8 0 (.int .i32 0) box6
  simpa [qg1,qex]using this
 ·have kS:Keep (fun b=>b≠S) W6 ((W6.setCell ⟨S,5,none⟩ (.int .i64 ((c.length:Int)+1))).setCell ⟨S,0,none⟩ (.int .i32 0)):=(kSc).trans (kSc);rw [haT,if_neg hf]at hR6;have hks:=q2n c ⟨pr,tup⟩;simp only at hks;refine qsa hg hS hP ⟨pr,tup⟩ (c++ [⟨pr,tup⟩]) (.inr ⟨rfl,hf⟩) hfew hl16 hR ?_ (tab6.keep kS (fun e=>dST e.symm) (fun e=>dSX e.symm) (fun b hb e=>dvS' (by rw [←e];exact hb))) (rels6.keep kS (fun e=>dSM e.symm)) (vD:=vD') (P:=P) (K:=K) (lm:=lm) (by
   rw [hks,map_append];exact hR6.keep kS (fun b U hb _ e=>by subst e;rw [rS'] at hb;cases hb)) hle hnew (fun b U hb=>by have:=hR6.lt b U hb;simpa using this) (kC.trans (kS.mono fun b _ h=>h.1)) hvx
  have:=q8 0 (.int .i32 0) (q8 5 (.int .i64 ((c.length:Int)+1)) box6)
  simpa [qg1,qex]using this
end Go.Proofs
