/- Parts of the proof. -/
import Derived.Test.YtnponcjnahicnaaGreatDoorStJToTxC
set_option linter.unusedSimpArgs false
set_option linter.unusedVariables false
open List(foldl_cons length_singleton mem_append_right)
namespace Go.Proofs
open Go.RowKit Go.Ink R4
def qbz (tag:qcv)(S R:Nat)(rt:qbu)(vx:Value):qcv:=fun b=>if vx.ownBlock=some b then some (S,.texts) else qbp tag S R rt b
def qdh (rl:List ((ByteArray×Nat)×Nat))(k:ByteArray×Nat)(R:Nat):List ((ByteArray×Nat)×Nat):=if (k,R)∈rl then rl else rl++ [(k,R)]
theorem qxz (c:List qy)(f:qy){k:ByteArray×Nat}(h:k≠(f.pred,f.tuple.length)):qo (c++ [f]) k.1 k.2=qo c k.1 k.2:=by
 rw [qi5,qsm,zF (fun e=>h (by obtain⟨a,b⟩:=k;simp only at e;rw [←e.1,←e.2])),yO]
theorem q0r (c:List qy)(f:qy):qo (c++ [f]) f.pred f.tuple.length=qo c f.pred f.tuple.length++ [f.tuple]:=by
 rw [qi5,qsm,zI ⟨rfl,rfl⟩]
theorem qmp {xs:List ByteArray}{ts:List ByteArray}{l:List (List ByteArray)}(h: ∀u s,u∈l->s∈u->s∈xs):l.map (qr (ts.foldl q8 xs))=l.map (qr xs):=yz fun u c=>qy8 fun s b=>h u s c b
theorem qq2 {n0:Nat}{g:Gh}{w Wf:World}{S:Nat}{c:List qy}{T M MX:Nat}{vx r:Value}{xs:List ByteArray}{rl:List ((ByteArray×Nat)×Nat)}(hg:GInv g w)(hS:g.st S=some c)(v:StParts g.tag w S c T M MX vx xs rl)
  (f:qy) (c':List qy) (hc:(c'=c/\f∈c)∨(c'=c++ [f]/\f∉c)) (a4:c.length<67108864) (a5:f.tuple.length<=16) {R:Nat} (hR:((f.pred,f.tuple.length),R)∈rl∨(w.heap.size<=R/\ ∀R',((f.pred,f.tuple.length),R')∉rl))
  (aS:Wf.heap[S]?=some (.cells (qea T M c'.length).toArray 116 (0,0))) (ag:TabAt Wf T MX r (f.tuple.foldl q8 xs)) (hrel:qh0 Wf M (qdh rl (f.pred,f.tuple.length) R))
  {X:qbu} {vD:Value} {P K:Nat} {lm:List (List Bool×Nat)} (aH:qb5 X Wf R f.tuple.length ((qo c' f.pred f.tuple.length).map (qr (f.tuple.foldl q8 xs))) vD P K lm)
  (aY:TagLe (qaw g.tag S R) X) (af:TagNew (qaw g.tag S R) X w) (aq: ∀b U,X b=some U->b<Wf.heap.size)
  (hK:Keep (fun b=>b≠S/\b≠T/\b≠MX/\b≠M/\vx.ownBlock≠some b/\qaw g.tag S R b=none) w Wf) (aA: ∀b,r.ownBlock=some b->vx.ownBlock=some b∨(w.heap.size<=b/\X b=none)):
  GStep n0 g w {g with st:=g.with S c',tag:=qbz g.tag S R X r} Wf:=by
 have aX: ∀k:ByteArray×Nat,∀u s,u∈qo c k.1 k.2->s∈u->s∈xs:=fun k u s hu hs=>v.texts _ s (qc2.1 hu).1 hs;have aZ: ∀b,vx.ownBlock=some b->X b=none:=fun b m=>by
  cases e:X b with
  |none=>rfl
  |some U=>
   rcases af b U e with ⟨U',h1⟩ |h1
   ·have:=qae.1 h1;rw [v.tagx b m] at this;cases this
   ·have:=hg.lt b _ (v.tagx b m);omega
 have aP: ∀b,r.ownBlock=some b->X b=none:=fun b m=>(aA b m).elim (aZ b) (fun h=>h.2);have aK: ∀b,r.ownBlock=some b->g.tag b=some (S,.texts)∨g.tag b=none:=fun b m=>by
  rcases aA b m with h |h
  ·exact .inl (v.tagx b h)
  ·cases e:g.tag b with
   |none=>exact .inr rfl
   |some U=>have:=hg.lt b U e;omega
 have Y: ∀b U,g.tag b=some U->(∀V,U≠(S,.rel R V))->qbz g.tag S R X r b=some U:=fun b U m hU=>by
  unfold qbz;split
  ·rename_i hx;rcases aK b hx with h |h
   ·rw [m]at h;exact h.symm
   ·rw [m]at h;cases h
  ·exact(qe3 hg.lt af hU).2 m
 have ak: ∀b U,qbz g.tag S R X r b=some U->(∀V,U≠(S,.rel R V))->U≠(S,.texts)->g.tag b=some U:=fun b U m hU z=>by
  unfold qbz at m;split at m
  ·exact absurd (yH m).symm z
  ·exact(qe3 hg.lt af hU).1 m
 have aB:qaw (qbz g.tag S R X r) S R=X:=by
  refine Eq.trans (xy fun b=>?_) (qpg aY);have e1: ∀V,qbz g.tag S R X r b=some (S,.rel R V)↔qbp g.tag S R X b=some (S,.rel R V):=fun V=>by
   unfold qbz;split
   ·rename_i hx;constructor
    ·intro h;cases h
    ·intro h;unfold qbp at h;rw [aP b hx]at h;rcases aK b hx with h2 |h2
     ·rw [h2]at h;cases h
     ·rw [h2]at h;cases h
   ·exact Iff.rfl
  cases e:qaw (qbp g.tag S R X) S R b with
  |some V=>exact qae.2 ((e1 V).2 (qae.1 e))
  |none=>
   cases e':qaw (qbz g.tag S R X r) S R b with
   |none=>rfl
   |some V=>
    have:=qae.2 ((e1 V).1 (qae.1 e'));rw [e]at this;cases this
 have aC: ∀R',R'≠R->qaw (qbz g.tag S R X r) S R'=qaw g.tag S R':=fun R' aO=>xy fun b=>by
  have e1: ∀V,qbz g.tag S R X r b=some (S,.rel R' V)↔g.tag b=some (S,.rel R' V):=fun V=>
   ⟨fun h=>ak b _ h (fun V' e=>by cases e;exact aO rfl) (fun e=>by cases e),fun h=>Y b _ h (fun V' e=>by cases e;exact aO rfl)⟩
  cases e:qaw g.tag S R' b with
  |some V=>exact qae.2 ((e1 V).2 (qae.1 e))
  |none=>
   cases e':qaw (qbz g.tag S R X r) S R' b with
   |none=>rfl
   |some V=>
    have:=qae.2 ((e1 V).1 (qae.1 e'));rw [e]at this;cases this
 have al: ∀b,b<w.heap.size->g.tag b=none->qbz g.tag S R X r b=none:=fun b m z=>by
  unfold qbz;split
  ·rename_i hx;rcases aA b hx with h |h
   ·have:=v.tagx b h;rw [z] at this;cases this
   ·omega
  ·unfold qbp;cases e:X b with
   |none=>exact z
   |some U=>
    rcases af b U e with ⟨U',h1⟩ |h1
    ·have:=qae.1 h1;rw [z] at this;cases this
    ·omega
 have aQ: ∀b U,g.tag b=some U->(∀V,U≠(S,.rel R V))->qaw g.tag S R b=none:=fun b U m hU=>by
  cases e:qaw g.tag S R b with
  |none=>rfl
  |some V=>have:=qae.1 e;rw [m] at this;exact absurd (yH this) (hU V)
 have aF: ∀b U,g.tag b=some U->U≠(S,.box)->U≠(S,.tab)->U≠(S,.nums)->U≠(S,.rels)->U≠(S,.texts)->(∀V,U≠(S,.rel R V))->b≠S/\b≠T/\b≠MX/\b≠M/\vx.ownBlock≠some b/\qaw g.tag S R b=none:=fun b U m u1 u2 u3 u4 u5 u6=>by
  refine⟨fun e=>?_,fun e=>?_,fun e=>?_,fun e=>?_,fun e=>?_,aQ b U m u6⟩
  ·subst e;rw [v.tagS] at m;exact u1 (yH m).symm
  ·subst e;rw [v.tagT] at m;exact u2 (yH m).symm
  ·subst e;rw [v.tagN] at m;exact u3 (yH m).symm
  ·subst e;rw [v.tagM] at m;exact u4 (yH m).symm
  ·rw [v.tagx b e]at m;exact u5 (yH m).symm
 have az:(rl.map (·.1)).Nodup:=by
  obtain⟨_,_,_,_,hn,_⟩:=v.rels;exact hn
 have ay: ∀y R',(y,R')∈rl->(R'=R↔y=(f.pred,f.tuple.length)):=fun y R' hm=>by
  obtain⟨i,hi⟩:=zw.1 hm;have aL:=(zA.1 hi).1;rcases hR with hR |⟨hR1,hR2⟩
  ·obtain⟨j,hj⟩:=zw.1 hR;constructor
   ·intro e;have ax:i=j:=(xv (l:=rl.map (·.2)) (by rw [zL];exact aL) v.inj).1 (by rw [zP,zP,hi,hj,e];rfl);subst ax;rw [hi]at hj;cases hj
    rfl
   ·intro e;have ax:i=j:=(xv (l:=rl.map (·.1)) (by rw [zL];exact aL) az).1 (by rw [zP,zP,hi,hj,e];rfl);subst ax;rw [hi]at hj;cases hj
    rfl
  ·constructor
   ·intro e;have:=hg.lt _ _ (v.rel_at hm);omega
   ·intro e;subst e;exact absurd hm (hR2 R')
 have ar: ∀y R',(y,R')∈qdh rl (f.pred,f.tuple.length) R->(y,R')∈rl∨(y=(f.pred,f.tuple.length)/\R'=R):=fun y R' hm=>by
  unfold qdh at hm;split at hm
  ·exact .inl hm
  ·rcases zn.1 hm with h |h
   ·exact .inl h
   ·rw [zl]at h;cases h;exact .inr ⟨rfl,rfl⟩
 have aM:((f.pred,f.tuple.length),R)∈qdh rl (f.pred,f.tuple.length) R:=by
  unfold qdh;split
  ·assumption
  ·exact mem_append_right _ (zl.2 rfl)
 have hold: ∀y R',(y,R')∈rl->(y,R')∈qdh rl (f.pred,f.tuple.length) R:=fun y R' hm=>by
  unfold qdh;split
  ·exact hm
  ·exact xd _ hm
 have aW: ∀y:ByteArray×Nat,y≠(f.pred,f.tuple.length)->qo c' y.1 y.2=qo c y.1 y.2:=fun y hk=>by
  rcases hc with ⟨h,_⟩ |⟨h,_⟩
  ·rw [h]
  ·rw [h];exact qxz c f hk
 have aJ: ∀x,x∈c'->x∈c∨x=f:=fun x hx=>by
  rcases hc with ⟨h,_⟩ |⟨h,_⟩
  ·rw [h]at hx;exact .inl hx
  ·rw [h,zn,zl]at hx;exact hx
 have bg:=(qkz f.tuple xs).2;have a0:f∈c->f.tuple.foldl q8 xs=xs:=fun hf=>by
  have: ∀(ts:List ByteArray),(∀s,s∈ts->s∈xs)->ts.foldl q8 xs=xs:=by
   intro ts
   induction ts with
   |nil=>intro _;rfl
   |cons t ts ih=>
    intro h;rw [foldl_cons,show q8 xs t=xs from zI (h t (yI ..))];exact ih fun s hs=>h s (yC _ hs)
  exact this _ fun s hs=>v.texts f s hf hs
 have an:StParts (qbz g.tag S R X r) Wf S c' T M MX r (f.tuple.foldl q8 xs) (qdh rl (f.pred,f.tuple.length) R):=by
  refine⟨Y _ _ v.tagS (fun V e=>by cases e),aS,Y _ _ v.tagT (fun V e=>by cases e),ag.tab,ag.own,fun b m=>by unfold qbz;rw [zI m],Y _ _ v.tagN (fun V e=>by cases e),ag.nums,Y _ _ v.tagM (fun V e=>by cases e),hrel,fun y R' hm=>?_,?_,fun x hx=>?_,fun x s hx hs=>?_,?_,?_,?_⟩
  ·by_cases e:R'=R
   ·subst e;have hk:y=(f.pred,f.tuple.length):=by
     rcases ar y R' hm with h |h
     ·exact(ay y R' h).1 rfl
     ·exact h.1
    subst hk;rw [aB];exact⟨vD,P,K,lm,aH⟩
   ·have hm:(y,R')∈rl:=(ar y R' hm).elim id (fun h=>absurd h.2 e);have hk:y≠(f.pred,f.tuple.length):=fun h=>e ((ay y R' hm).2 h);obtain⟨a2,P',K',a1,av⟩:=v.rel y R' hm;rw [aC R' e,aW y hk,qmp (aX y)];exact⟨a2,P',K',a1,av.keep hK (fun b U m _=>aF b _ (qae.1 m) (fun h=>by cases h) (fun h=>by cases h) (fun h=>by cases h) (fun h=>by cases h) (fun h=>by cases h) (fun V h=>by cases h;exact e rfl))⟩
  ·unfold qdh;split
   ·exact v.inj
   ·rename_i hno;rw [zm,xV];refine⟨v.inj,wB,fun a ha b m h=>?_⟩;obtain⟨q,hq,rfl⟩:=yK.1 ha;simp only [yW,xi,zl]at m;rw [m]at h;obtain⟨y,R'⟩:=q;simp only at h;have:=(ay y R' hq).1 h;subst h this;exact hno hq
  ·rcases aJ x hx with h |h
   ·obtain⟨R',av⟩:=v.all x h;exact⟨R',hold _ _ av⟩
   ·subst h;exact⟨R,aM⟩
  ·rcases aJ x hx with h |h
   ·exact qf6.2 (.inl (v.texts x s h hs))
   ·subst h;exact qf6.2 (.inr hs)
  ·rcases hc with ⟨h,_⟩ |⟨h,hf⟩
   ·rw [h];exact v.nodup
   ·rw [h,xV];refine⟨v.nodup,wB,fun a ha b m e=>?_⟩;rw [zl]at m;subst e m;exact hf ha
  ·rcases hc with ⟨h,_⟩ |⟨h,_⟩
   ·rw [h];exact v.few
   ·rw [h,zR,length_singleton];omega
  ·have:=v.xfew;rcases hc with ⟨h,hf⟩ |⟨h,_⟩
   ·rw [h,a0 hf];exact v.xfew
   ·rw [h,zR,length_singleton];omega
 have zK:=hK.size;refine⟨hK.mono fun b m hf=>?_,fun S' c0 ah=>?_,fun b m hf=>⟨al b m hf.1,hf.2⟩,fun _ _=>rfl,?_⟩
 ·have z:=hf.1;refine⟨fun e=>?_,fun e=>?_,fun e=>?_,fun e=>?_,fun e=>?_,?_⟩
  ·subst e;rw [v.tagS] at z;cases z
  ·subst e;rw [v.tagT] at z;cases z
  ·subst e;rw [v.tagN] at z;cases z
  ·subst e;rw [v.tagM] at z;cases z
  ·rw [v.tagx b e]at z;cases z
  ·cases e:qaw g.tag S R b with
   |none=>rfl
   |some V=>have:=qae.1 e;rw [z] at this;cases this
 ·show∃d,g.with S c' S'=some (c0++d);unfold Gh.with;split
  ·rename_i e;subst e;rw [hS]at ah;cases ah;rcases hc with ⟨h,_⟩ |⟨h,_⟩
   ·exact⟨[],by rw [h,yO]⟩
   ·exact⟨[f],by rw [h]⟩
  ·exact⟨[],by rw [yO];exact ah⟩
 refine⟨fun S' c0 ah=>?_,fun b S' U m=>?_,fun b U m=>?_,fun b o m=>?_,fun b o m=>al b (qe (hg.hold b o m)) (hg.apart b o m),fun b S' R' U m=>?_⟩
 ·have ai:g.with S c' S'=some c0:=ah;clear ah;unfold Gh.with at ai;split at ai
  ·rename_i e;subst e;injection ai with ai
   subst ai;exact⟨T,M,MX,r,_,_,an⟩
  ·rename_i e;refine(hg.store S' c0 ai).keep hK (fun b U m=>aF b _ m (fun h=>by cases h;exact e rfl) (fun h=>by cases h;exact e rfl) (fun h=>by cases h;exact e rfl) (fun h=>by cases h;exact e rfl) (fun h=>by cases h;exact e rfl) (fun V h=>by cases h;exact e rfl)) (fun b U=>⟨fun m=>ak b _ m (fun V h=>by cases h;exact e rfl) (fun h=>by cases h;exact e rfl),fun m=>Y b _ m (fun V h=>by cases h;exact e rfl)⟩)
 ·have p:qbz g.tag S R X r b=some (S',U):=m;show∃c0,g.with S c' S'=some c0;unfold qbz at p;have aw:g.with S c' S=some c':=by unfold Gh.with;rw [zI rfl]
  split at p
  ·cases p;exact⟨c',aw⟩
  ·unfold qbp at p;cases e:X b with
   |some V=>rw [e] at p;cases p;exact⟨c',aw⟩
   |none=>
    rw [e]at p;obtain⟨c0,h0⟩:=hg.own b S' U p;by_cases e2:S'=S
    ·rw [e2];exact⟨c',aw⟩
    ·exact⟨c0,by unfold Gh.with;rw [zF e2];exact h0⟩
 ·have p:qbz g.tag S R X r b=some U:=m;unfold qbz at p;split at p
  ·rename_i hx;exact(zE ag.own b hx).2
  ·unfold qbp at p;cases e:X b with
   |some V=>exact aq b V e
   |none=>rw [e] at p;exact zk (hg.lt b U p) zK
 ·have z:=hg.apart b o m;refine hK.heap (hg.hold b o m) ⟨fun e=>?_,fun e=>?_,fun e=>?_,fun e=>?_,fun e=>?_,?_⟩
  ·subst e;rw [v.tagS] at z;cases z
  ·subst e;rw [v.tagT] at z;cases z
  ·subst e;rw [v.tagN] at z;cases z
  ·subst e;rw [v.tagM] at z;cases z
  ·rw [v.tagx b e]at z;cases z
  ·cases e:qaw g.tag S R b with
   |none=>rfl
   |some V=>have:=qae.1 e;rw [z] at this;cases this
 ·have p:qbz g.tag S R X r b=some (S',.rel R' U):=m;unfold qbz at p;split at p
  ·cases p
  ·unfold qbp at p;cases e:X b with
   |some V=>rw [e] at p;cases p;exact aq _ _ aH.tagB
   |none=>rw [e] at p;exact zk (hg.reln b S' R' U p) zK
def qgs (T M n:Nat):List Value:= [.int .i32 1,.int .u32 0,.bool true,qj T,.map (some M),.int .i64 (n:Int)]
theorem qvd {xs t:List ByteArray}:qc1 t.length (qr xs t)=true:=by
 unfold qc1;rw [qdw,zS rfl,yT,yL];intro x b;unfold qr at b;obtain⟨s,_,rfl⟩:=yK.1 b;exact zS xz
theorem qv1 {c:List qy}{pr:ByteArray}{tup xs:List ByteArray}(b: ∀u s,u∈qo c pr tup.length->s∈u->s∈xs)(g: ∀s,s∈tup->s∈xs):
  (qhq tup.length ((qo c pr tup.length).map (qr xs)) (qr xs tup)).2.1=decide ((⟨pr,tup⟩:qy)∉c)/\(qhq tup.length ((qo c pr tup.length).map (qr xs)) (qr xs tup)).2.2=0:=by
 unfold qhq;rw [zI qvd,qpe b g];by_cases h:(⟨pr,tup⟩:qy)∈c
 ·have d:tup∈qo c pr tup.length:=qc2.2 ⟨h,rfl⟩;cases e:qen (qo c pr tup.length) tup with
  |none=>
   exfalso;unfold qen at e;obtain⟨i,hi⟩:=zw.1 d;exact ym.1 e i (yh.2 (zA.1 hi).1) (zS hi)
  |some i=>exact⟨by simp [h],rfl⟩
 ·have d:tup∉qo c pr tup.length:=fun f=>h (qc2.1 f).1;rw [qni d];exact⟨by simp [h],rfl⟩
theorem q4r {n0:Nat}{g:Gh}{w Wq Y k:World}{S:Nat}{c:List qy}{T M MX:Nat}{y j:Value}{xs:List ByteArray}{rl:List ((ByteArray×Nat)×Nat)}(hg:GInv g w)(hS:g.st S=some c)(i:StParts g.tag w S c T M MX y xs rl)
  (pr:ByteArray) (tup:List ByteArray) (ad:c.length<67108864) (ae:tup.length<=16) {R:Nat} (hR:((pr,tup.length),R)∈rl∨(w.heap.size<=R/\ ∀R',((pr,tup.length),R')∉rl))
  (kq:Keep (fun b=>b≠S/\b≠M) w Wq) (p:Wq.heap[S]?=some (.cells (qgs T M c.length).toArray 116 (0,0))) (ak:qh0 Wq M (qdh rl (pr,tup.length) R))
  {f X:qbu} {vD aD:Value} {P K:Nat} {lm:List (List Bool×Nat)} (aI:qb5 f Wq R tup.length ((qo c pr tup.length).map (qr xs)) vD P K lm) (au:TagLe (qaw g.tag S R) f) (q:TagNew (qaw g.tag S R) f w)
  (k5:Keep (fun b=>b≠T/\b≠MX/\y.ownBlock≠some b) Wq Y) (ag:TabAt Y T MX j (tup.foldl q8 xs)) (v: ∀b,j.ownBlock=some b->y.ownBlock=some b∨Wq.heap.size<=b)
  (k6:Keep (fun b=>f b=none) Y k) (l:qb5 X k R tup.length (qj3 tup.length ((qo c pr tup.length).map (qr (tup.foldl q8 xs))) (qr (tup.foldl q8 xs) tup)) aD P K lm) (av:TagLe f X) (r:TagNew f X Y):
  k.heap[S]?=some (.cells (qgs T M c.length).toArray 116 (0,0))/\
  ((⟨pr,tup⟩:qy)∈c->GStep n0 g w {g with st:=g.with S c,tag:=qbz g.tag S R X j} (k.setCell ⟨S,0,none⟩ (.int .i32 0)))/\
  ((⟨pr,tup⟩:qy)∉c->GStep n0 g w {g with st:=g.with S (c++ [⟨pr,tup⟩]),tag:=qbz g.tag S R X j} ((k.setCell ⟨S,5,none⟩ (.int .i64 ((c.length:Int)+1))).setCell ⟨S,0,none⟩ (.int .i32 0))):=by
 have ap: ∀u s,u∈qo c pr tup.length->s∈u->s∈xs:=fun u s hu hs=>i.texts _ s (qc2.1 hu).1 hs;have z1:=kq.size;have z2:=k5.size;have z3:=k6.size;have aw: ∀b,b<w.heap.size->qaw g.tag S R b=none->f b=none:=fun b d h=>by
  cases e:f b with
  |none=>rfl
  |some U=>
   rcases q b U e with ⟨U',h1⟩ |h1
   ·rw [h]at h1;cases h1
   ·omega
 have t: ∀b U,g.tag b=some (S,U)->(∀V,U≠.rel R V)->f b=none:=fun b U d hU=>aw b (hg.lt b _ d) (by
  cases e:qaw g.tag S R b with
  |none=>rfl
  |some V=>have:=qae.1 e;rw [d] at this;cases this;exact absurd rfl (hU V))
 have rS:=t S _ i.tagS (fun V e=>by cases e);have rT:=t T _ i.tagT (fun V e=>by cases e);have rX:=t MX _ i.tagN (fun V e=>by cases e);have rM:=t M _ i.tagM (fun V e=>by cases e);have rv: ∀b,y.ownBlock=some b->f b=none:=fun b d=>t b _ (i.tagx b d) (fun V e=>by cases e);have ai:S≠T:=fun e=>by have:=i.tagT;rw [←e,i.tagS] at this;cases this
 have aj:S≠MX:=fun e=>by have:=i.tagN;rw [←e,i.tagS] at this;cases this
 have al:S≠M:=fun e=>by have:=i.tagM;rw [←e,i.tagS] at this;cases this
 have aF:M≠T:=fun e=>by have:=i.tagT;rw [←e,i.tagM] at this;cases this
 have aG:M≠MX:=fun e=>by have:=i.tagN;rw [←e,i.tagM] at this;cases this
 have am:y.ownBlock≠some S:=fun e=>by have:=i.tagx S e;rw [i.tagS] at this;cases this
 have aH:y.ownBlock≠some M:=fun e=>by have:=i.tagx M e;rw [i.tagM] at this;cases this
 have m:k.heap[S]?=some (.cells (qgs T M c.length).toArray 116 (0,0)):=k6.heap (k5.heap p ⟨ai,aj,am⟩) rS;have x:qh0 k M (qdh rl (pr,tup.length) R):=(ak.keep k5 ⟨aF,aG,aH⟩).keep k6 rM;have v5: ∀b,j.ownBlock=some b->f b=none:=fun b d=>by
  rcases v b d with h |h
  ·exact rv b h
  ·cases e:f b with
   |none=>rfl
   |some U=>have:=aI.lt b U e;omega
 have ah:TabAt k T MX j (tup.foldl q8 xs):=ag.keep k6 rT rX v5;have ab:j.ownBlock≠some S:=fun e=>by
  rcases v S e with h |h
  ·exact am h
  ·have:=qe p;omega
 have ax: ∀b,f b=none->b<Y.heap.size->X b=none:=fun b h d=>by
  cases e:X b with
  |none=>rfl
  |some U=>
   rcases r b U e with ⟨U',h1⟩ |h1
   ·rw [h]at h1;cases h1
   ·omega
 have aB:X S=none:=ax S rS (by have:=qe p;omega);have aR:=qmp (ts:=tup) ap;have an:qj3 tup.length ((qo c pr tup.length).map (qr (tup.foldl q8 xs))) (qr (tup.foldl q8 xs) tup)=if (⟨pr,tup⟩:qy)∈c then (qo c pr tup.length).map (qr (tup.foldl q8 xs)) else (qo c pr tup.length).map (qr (tup.foldl q8 xs))++ [qr (tup.foldl q8 xs) tup]:=by
  unfold qj3;rw [(qv1 (fun u s hu hs=>qf6.2 (.inl (ap u s hu hs))) (fun s hs=>qf6.2 (.inr hs))).1];by_cases h:(⟨pr,tup⟩:qy)∈c
  ·rw [zI h,zF (by simp [h])]
  ·rw [zF h,zI (by simp [h])]
 have kC:Keep (fun b=>b≠S/\b≠T/\b≠MX/\b≠M/\y.ownBlock≠some b/\qaw g.tag S R b=none) w k:=by
  have a:Keep (fun b=>(b≠S/\b≠T/\b≠MX/\b≠M/\y.ownBlock≠some b/\qaw g.tag S R b=none)/\b<w.heap.size) w Wq:=kq.mono fun b _ h=>⟨h.1.1,h.1.2.2.2.1⟩;have b:Keep (fun b=>(b≠S/\b≠T/\b≠MX/\b≠M/\y.ownBlock≠some b/\qaw g.tag S R b=none)/\b<w.heap.size) Wq Y:=k5.mono fun b _ h=>⟨h.1.2.1,h.1.2.2.1,h.1.2.2.2.2.1⟩;have c:Keep (fun b=>(b≠S/\b≠T/\b≠MX/\b≠M/\y.ownBlock≠some b/\qaw g.tag S R b=none)/\b<w.heap.size) Y k:=k6.mono fun b _ h=>aw b h.2 h.1.2.2.2.2.2;exact((a.trans b).trans c).mono fun b d h=>⟨h,d⟩
 have ar:=au.trans av;have af:=R4.TagNew.trans q r (show w.heap.size<=Y.heap.size from xz);have az: ∀b,j.ownBlock=some b->y.ownBlock=some b∨(w.heap.size<=b/\X b=none):=fun b d=>(v b d).imp id (fun h=>⟨xz,ax b (v5 b d) (zE ag.own b d).2⟩);refine⟨m,fun hf=>?_,fun hf=>?_⟩
 ·have z:Keep (fun b=>b≠S) k (k.setCell ⟨S,0,none⟩ (.int .i32 0)):=kSc;rw [an,zI hf]at l;refine qq2 hg hS i ⟨pr,tup⟩ c (.inl ⟨rfl,hf⟩) ad ae hR ?_ (ah.keep z (fun e=>ai e.symm) (fun e=>aj e.symm) (fun b d e=>ab (by rw [←e];exact d))) (x.keep z (fun e=>al e.symm)) (l.keep z (fun b U d _ e=>by subst e;rw [aB] at d;cases d)) ar af (fun b U d=>by have:=l.lt b U d;simpa using this) (kC.trans (z.mono fun b _ h=>h.1)) az;have:=qz 0 (.int .i32 0) m
  simpa [qgs,qea]using this
 ·have z:Keep (fun b=>b≠S) k ((k.setCell ⟨S,5,none⟩ (.int .i64 ((c.length:Int)+1))).setCell ⟨S,0,none⟩ (.int .i32 0)):=(kSc).trans (kSc);rw [an,zF hf]at l;have aq:=q0r c ⟨pr,tup⟩;simp only at aq;refine qq2 hg hS i ⟨pr,tup⟩ (c++ [⟨pr,tup⟩]) (.inr ⟨rfl,hf⟩) ad ae hR ?_ (ah.keep z (fun e=>ai e.symm) (fun e=>aj e.symm) (fun b d e=>ab (by rw [←e];exact d))) (x.keep z (fun e=>al e.symm)) (vD:=aD) (P:=P) (K:=K) (lm:=lm) (by
   rw [aq,zm];exact l.keep z (fun b U d _ e=>by subst e;rw [aB] at d;cases d)) ar af (fun b U d=>by have:=l.lt b U d;simpa using this) (kC.trans (z.mono fun b _ h=>h.1)) az
  have:=qz 0 (.int .i32 0) (qz 5 (.int .i64 ((c.length:Int)+1)) m)
  simpa [qgs,qea]using this
end Go.Proofs
