/- Parts of the proof. -/
import Derived.Test.YtnponcjnahicnaaGreatStHToTxC
set_option linter.unusedSimpArgs false
set_option linter.unusedVariables false
open List(foldl_cons length_singleton mem_append_right)
namespace Go.Proofs
open Go.RowKit Go.Ink R4
def qb7 (tag:qdk)(S R:Nat)(rt:qcg)(vx:Value):qdk:=fun b=>if vx.ownBlock=some b then some (S,.texts) else qb8 tag S R rt b
def qd9 (rl:List ((ByteArray×Nat)×Nat))(k:ByteArray×Nat)(R:Nat):List ((ByteArray×Nat)×Nat):=if (k,R)∈rl then rl else rl++ [(k,R)]
theorem q0x (c:List qk)(f:qk){k:ByteArray×Nat}(h:k≠(f.pred,f.tuple.length)):qv (c++ [f]) k.1 k.2=qv c k.1 k.2:=by
 rw [qiy,qpg,zF (fun e=>h (by obtain⟨a,b⟩:=k;simp only at e;rw [←e.1,←e.2])),yQ]
theorem q33 (c:List qk)(f:qk):qv (c++ [f]) f.pred f.tuple.length=qv c f.pred f.tuple.length++ [f.tuple]:=by
 rw [qiy,qpg,zI ⟨rfl,rfl⟩]
theorem qkx {xs:List ByteArray}{ts:List ByteArray}{l:List (List ByteArray)}(h: ∀u s,u∈l->s∈u->s∈xs):l.map (qx (ts.foldl qr xs))=l.map (qx xs):=xC fun u b=>q35 fun s c=>h u s b c
theorem qs8 {n0:Nat}{g:Gh}{w Wf:World}{S:Nat}{c:List qk}{T M MX:Nat}{vx r:Value}{xs:List ByteArray}{rl:List ((ByteArray×Nat)×Nat)}(hg:GInv g w)(hS:g.st S=some c)(v:StParts g.tag w S c T M MX vx xs rl)
  (f:qk) (c':List qk) (hc:(c'=c/\f∈c)∨(c'=c++ [f]/\f∉c)) (a5:c.length<67108864) (a7:f.tuple.length<=16) {R:Nat} (hR:((f.pred,f.tuple.length),R)∈rl∨(w.heap.size<=R/\ ∀R',((f.pred,f.tuple.length),R')∉rl))
  (aT:Wf.heap[S]?=some (.cells (qe9 T M c'.length).toArray 120 (0,0))) (ag:TabAt Wf T MX r (f.tuple.foldl qr xs)) (hrel:qiu Wf M (qd9 rl (f.pred,f.tuple.length) R))
  {X:qcg} {vD:Value} {P K:Nat} {lm:List (List Bool×Nat)} (aR:qcl X Wf R f.tuple.length ((qv c' f.pred f.tuple.length).map (qx (f.tuple.foldl qr xs))) vD P K lm)
  (aV:TagLe (qa6 g.tag S R) X) (af:TagNew (qa6 g.tag S R) X w) (aq: ∀b U,X b=some U->b<Wf.heap.size)
  (hK:Keep (fun b=>b≠S/\b≠T/\b≠MX/\b≠M/\vx.ownBlock≠some b/\qa6 g.tag S R b=none) w Wf) (az: ∀b,r.ownBlock=some b->vx.ownBlock=some b∨(w.heap.size<=b/\X b=none)):
  GStep n0 g w {g with st:=g.with S c',tag:=qb7 g.tag S R X r} Wf:=by
 have aY: ∀k:ByteArray×Nat,∀u s,u∈qv c k.1 k.2->s∈u->s∈xs:=fun k u s hu hs=>v.texts _ s (qco.1 hu).1 hs;have aZ: ∀b,vx.ownBlock=some b->X b=none:=fun b m=>by
  cases e:X b with
  |none=>rfl
  |some U=>
   rcases af b U e with ⟨U',h1⟩ |h1
   ·have:=qah.1 h1;rw [v.tagx b m] at this;cases this
   ·have:=hg.lt b _ (v.tagx b m);omega
 have aJ: ∀b,r.ownBlock=some b->X b=none:=fun b m=>(az b m).elim (aZ b) (fun h=>h.2);have aQ: ∀b,r.ownBlock=some b->g.tag b=some (S,.texts)∨g.tag b=none:=fun b m=>by
  rcases az b m with h |h
  ·exact .inl (v.tagx b h)
  ·cases e:g.tag b with
   |none=>exact .inr rfl
   |some U=>have:=hg.lt b U e;omega
 have Y: ∀b U,g.tag b=some U->(∀V,U≠(S,.rel R V))->qb7 g.tag S R X r b=some U:=fun b U m hU=>by
  unfold qb7;split
  ·rename_i hx;rcases aQ b hx with h |h
   ·rw [m]at h;exact h.symm
   ·rw [m]at h;cases h
  ·exact(qf1 hg.lt af hU).2 m
 have al: ∀b U,qb7 g.tag S R X r b=some U->(∀V,U≠(S,.rel R V))->U≠(S,.texts)->g.tag b=some U:=fun b U m hU z=>by
  unfold qb7 at m;split at m
  ·exact absurd (yI m).symm z
  ·exact(qf1 hg.lt af hU).1 m
 have aw:qa6 (qb7 g.tag S R X r) S R=X:=by
  refine Eq.trans (wB fun b=>?_) (qri aV);have e1: ∀V,qb7 g.tag S R X r b=some (S,.rel R V)↔qb8 g.tag S R X b=some (S,.rel R V):=fun V=>by
   unfold qb7;split
   ·rename_i hx;constructor
    ·intro h;cases h
    ·intro h;unfold qb8 at h;rw [aJ b hx]at h;rcases aQ b hx with h2 |h2
     ·rw [h2]at h;cases h
     ·rw [h2]at h;cases h
   ·exact Iff.rfl
  cases e:qa6 (qb8 g.tag S R X) S R b with
  |some V=>exact qah.2 ((e1 V).2 (qah.1 e))
  |none=>
   cases e':qa6 (qb7 g.tag S R X r) S R b with
   |none=>rfl
   |some V=>
    have:=qah.2 ((e1 V).1 (qah.1 e'));rw [e]at this;cases this
 have aA: ∀R',R'≠R->qa6 (qb7 g.tag S R X r) S R'=qa6 g.tag S R':=fun R' aG=>wB fun b=>by
  have e1: ∀V,qb7 g.tag S R X r b=some (S,.rel R' V)↔g.tag b=some (S,.rel R' V):=fun V=>
   ⟨fun h=>al b _ h (fun V' e=>by cases e;exact aG rfl) (fun e=>by cases e),fun h=>Y b _ h (fun V' e=>by cases e;exact aG rfl)⟩
  cases e:qa6 g.tag S R' b with
  |some V=>exact qah.2 ((e1 V).2 (qah.1 e))
  |none=>
   cases e':qa6 (qb7 g.tag S R X r) S R' b with
   |none=>rfl
   |some V=>
    have:=qah.2 ((e1 V).1 (qah.1 e'));rw [e]at this;cases this
 have ak: ∀b,b<w.heap.size->g.tag b=none->qb7 g.tag S R X r b=none:=fun b m z=>by
  unfold qb7;split
  ·rename_i hx;rcases az b hx with h |h
   ·have:=v.tagx b h;rw [z] at this;cases this
   ·omega
  ·unfold qb8;cases e:X b with
   |none=>exact z
   |some U=>
    rcases af b U e with ⟨U',h1⟩ |h1
    ·have:=qah.1 h1;rw [z] at this;cases this
    ·omega
 have aF: ∀b U,g.tag b=some U->(∀V,U≠(S,.rel R V))->qa6 g.tag S R b=none:=fun b U m hU=>by
  cases e:qa6 g.tag S R b with
  |none=>rfl
  |some V=>have:=qah.1 e;rw [m] at this;exact absurd (yI this) (hU V)
 have aN: ∀b U,g.tag b=some U->U≠(S,.box)->U≠(S,.tab)->U≠(S,.nums)->U≠(S,.rels)->U≠(S,.texts)->(∀V,U≠(S,.rel R V))->b≠S/\b≠T/\b≠MX/\b≠M/\vx.ownBlock≠some b/\qa6 g.tag S R b=none:=fun b U m u1 u2 u3 u4 u5 u6=>by
  refine⟨fun e=>?_,fun e=>?_,fun e=>?_,fun e=>?_,fun e=>?_,aF b U m u6⟩
  ·subst e;rw [v.tagS] at m;exact u1 (yI m).symm
  ·subst e;rw [v.tagT] at m;exact u2 (yI m).symm
  ·subst e;rw [v.tagN] at m;exact u3 (yI m).symm
  ·subst e;rw [v.tagM] at m;exact u4 (yI m).symm
  ·rw [v.tagx b e]at m;exact u5 (yI m).symm
 have aC:(rl.map (·.1)).Nodup:=by
  obtain⟨_,_,_,_,hn,_⟩:=v.rels;exact hn
 have aB: ∀y R',(y,R')∈rl->(R'=R↔y=(f.pred,f.tuple.length)):=fun y R' hm=>by
  obtain⟨i,hi⟩:=zy.1 hm;have aH:=(zA.1 hi).1;rcases hR with hR |⟨hR1,hR2⟩
  ·obtain⟨j,hj⟩:=zy.1 hR;constructor
   ·intro e;have ax:i=j:=(xy (l:=rl.map (·.2)) (by rw [zL];exact aH) v.inj).1 (by rw [zP,zP,hi,hj,e];rfl);subst ax;rw [hi]at hj;cases hj
    rfl
   ·intro e;have ax:i=j:=(xy (l:=rl.map (·.1)) (by rw [zL];exact aH) aC).1 (by rw [zP,zP,hi,hj,e];rfl);subst ax;rw [hi]at hj;cases hj
    rfl
  ·constructor
   ·intro e;have:=hg.lt _ _ (v.rel_at hm);omega
   ·intro e;subst e;exact absurd hm (hR2 R')
 have ao: ∀y R',(y,R')∈qd9 rl (f.pred,f.tuple.length) R->(y,R')∈rl∨(y=(f.pred,f.tuple.length)/\R'=R):=fun y R' hm=>by
  unfold qd9 at hm;split at hm
  ·exact .inl hm
  ·rcases zr.1 hm with h |h
   ·exact .inl h
   ·rw [zm]at h;cases h;exact .inr ⟨rfl,rfl⟩
 have aK:((f.pred,f.tuple.length),R)∈qd9 rl (f.pred,f.tuple.length) R:=by
  unfold qd9;split
  ·assumption
  ·exact mem_append_right _ (zm.2 rfl)
 have hold: ∀y R',(y,R')∈rl->(y,R')∈qd9 rl (f.pred,f.tuple.length) R:=fun y R' hm=>by
  unfold qd9;split
  ·exact hm
  ·exact xf _ hm
 have a2: ∀y:ByteArray×Nat,y≠(f.pred,f.tuple.length)->qv c' y.1 y.2=qv c y.1 y.2:=fun y hk=>by
  rcases hc with ⟨h,_⟩ |⟨h,_⟩
  ·rw [h]
  ·rw [h];exact q0x c f hk
 have aL: ∀x,x∈c'->x∈c∨x=f:=fun x hx=>by
  rcases hc with ⟨h,_⟩ |⟨h,_⟩
  ·rw [h]at hx;exact .inl hx
  ·rw [h,zr,zm]at hx;exact hx
 have bc:=(qe2 f.tuple xs).2;have aS:f∈c->f.tuple.foldl qr xs=xs:=fun hf=>by
  have: ∀(ts:List ByteArray),(∀s,s∈ts->s∈xs)->ts.foldl qr xs=xs:=by
   intro ts
   induction ts with
   |nil=>intro _;rfl
   |cons t ts ih=>
    intro h;rw [foldl_cons,show qr xs t=xs from zI (h t (yJ ..))];exact ih fun s hs=>h s (yD _ hs)
  exact this _ fun s hs=>v.texts f s hf hs
 have an:StParts (qb7 g.tag S R X r) Wf S c' T M MX r (f.tuple.foldl qr xs) (qd9 rl (f.pred,f.tuple.length) R):=by
  refine⟨Y _ _ v.tagS (fun V e=>by cases e),aT,Y _ _ v.tagT (fun V e=>by cases e),ag.tab,ag.own,fun b m=>by unfold qb7;rw [zI m],Y _ _ v.tagN (fun V e=>by cases e),ag.nums,Y _ _ v.tagM (fun V e=>by cases e),hrel,fun y R' hm=>?_,?_,fun x hx=>?_,fun x s hx hs=>?_,?_,?_,?_⟩
  ·by_cases e:R'=R
   ·subst e;have hk:y=(f.pred,f.tuple.length):=by
     rcases ao y R' hm with h |h
     ·exact(aB y R' h).1 rfl
     ·exact h.1
    subst hk;rw [aw];exact⟨vD,P,K,lm,aR⟩
   ·have hm:(y,R')∈rl:=(ao y R' hm).elim id (fun h=>absurd h.2 e);have hk:y≠(f.pred,f.tuple.length):=fun h=>e ((aB y R' hm).2 h);obtain⟨aX,P',K',a0,av⟩:=v.rel y R' hm;rw [aA R' e,a2 y hk,qkx (aY y)];exact⟨aX,P',K',a0,av.keep hK (fun b U m _=>aN b _ (qah.1 m) (fun h=>by cases h) (fun h=>by cases h) (fun h=>by cases h) (fun h=>by cases h) (fun h=>by cases h) (fun V h=>by cases h;exact e rfl))⟩
  ·unfold qd9;split
   ·exact v.inj
   ·rename_i hno;rw [zn,xY];refine⟨v.inj,wE,fun a ha b m h=>?_⟩;obtain⟨q,hq,rfl⟩:=yL.1 ha;simp only [yZ,xk,zm]at m;rw [m]at h;obtain⟨y,R'⟩:=q;simp only at h;have:=(aB y R' hq).1 h;subst h this;exact hno hq
  ·rcases aL x hx with h |h
   ·obtain⟨R',av⟩:=v.all x h;exact⟨R',hold _ _ av⟩
   ·subst h;exact⟨R,aK⟩
  ·rcases aL x hx with h |h
   ·exact qdn.2 (.inl (v.texts x s h hs))
   ·subst h;exact qdn.2 (.inr hs)
  ·rcases hc with ⟨h,_⟩ |⟨h,hf⟩
   ·rw [h];exact v.nodup
   ·rw [h,xY];refine⟨v.nodup,wE,fun a ha b m e=>?_⟩;rw [zm]at m;subst e m;exact hf ha
  ·rcases hc with ⟨h,_⟩ |⟨h,_⟩
   ·rw [h];exact v.few
   ·rw [h,zR,length_singleton];omega
  ·have:=v.xfew;rcases hc with ⟨h,hf⟩ |⟨h,_⟩
   ·rw [h,aS hf];exact v.xfew
   ·rw [h,zR,length_singleton];omega
 have zK:=hK.size;refine⟨hK.mono fun b m hf=>?_,fun S' c0 ai=>?_,fun b m hf=>⟨ak b m hf.1,hf.2⟩,fun _ _=>rfl,?_⟩
 ·have z:=hf.1;refine⟨fun e=>?_,fun e=>?_,fun e=>?_,fun e=>?_,fun e=>?_,?_⟩
  ·subst e;rw [v.tagS] at z;cases z
  ·subst e;rw [v.tagT] at z;cases z
  ·subst e;rw [v.tagN] at z;cases z
  ·subst e;rw [v.tagM] at z;cases z
  ·rw [v.tagx b e]at z;cases z
  ·cases e:qa6 g.tag S R b with
   |none=>rfl
   |some V=>have:=qah.1 e;rw [z] at this;cases this
 ·show∃d,g.with S c' S'=some (c0++d);unfold Gh.with;split
  ·rename_i e;subst e;rw [hS]at ai;cases ai;rcases hc with ⟨h,_⟩ |⟨h,_⟩
   ·exact⟨[],by rw [h,yQ]⟩
   ·exact⟨[f],by rw [h]⟩
  ·exact⟨[],by rw [yQ];exact ai⟩
 refine⟨fun S' c0 ai=>?_,fun b S' U m=>?_,fun b U m=>?_,fun b o m=>?_,fun b o m=>ak b (qe (hg.hold b o m)) (hg.apart b o m),fun b S' R' U m=>?_⟩
 ·have aj:g.with S c' S'=some c0:=ai;clear ai;unfold Gh.with at aj;split at aj
  ·rename_i e;subst e;injection aj with aj
   subst aj;exact⟨T,M,MX,r,_,_,an⟩
  ·rename_i e;refine(hg.store S' c0 aj).keep hK (fun b U m=>aN b _ m (fun h=>by cases h;exact e rfl) (fun h=>by cases h;exact e rfl) (fun h=>by cases h;exact e rfl) (fun h=>by cases h;exact e rfl) (fun h=>by cases h;exact e rfl) (fun V h=>by cases h;exact e rfl)) (fun b U=>⟨fun m=>al b _ m (fun V h=>by cases h;exact e rfl) (fun h=>by cases h;exact e rfl),fun m=>Y b _ m (fun V h=>by cases h;exact e rfl)⟩)
 ·have p:qb7 g.tag S R X r b=some (S',U):=m;show∃c0,g.with S c' S'=some c0;unfold qb7 at p;have ay:g.with S c' S=some c':=by unfold Gh.with;rw [zI rfl]
  split at p
  ·cases p;exact⟨c',ay⟩
  ·unfold qb8 at p;cases e:X b with
   |some V=>rw [e] at p;cases p;exact⟨c',ay⟩
   |none=>
    rw [e]at p;obtain⟨c0,h0⟩:=hg.own b S' U p;by_cases e2:S'=S
    ·rw [e2];exact⟨c',ay⟩
    ·exact⟨c0,by unfold Gh.with;rw [zF e2];exact h0⟩
 ·have p:qb7 g.tag S R X r b=some U:=m;unfold qb7 at p;split at p
  ·rename_i hx;exact(zE ag.own b hx).2
  ·unfold qb8 at p;cases e:X b with
   |some V=>exact aq b V e
   |none=>rw [e] at p;exact zk (hg.lt b U p) zK
 ·have z:=hg.apart b o m;refine hK.heap (hg.hold b o m) ⟨fun e=>?_,fun e=>?_,fun e=>?_,fun e=>?_,fun e=>?_,?_⟩
  ·subst e;rw [v.tagS] at z;cases z
  ·subst e;rw [v.tagT] at z;cases z
  ·subst e;rw [v.tagN] at z;cases z
  ·subst e;rw [v.tagM] at z;cases z
  ·rw [v.tagx b e]at z;cases z
  ·cases e:qa6 g.tag S R b with
   |none=>rfl
   |some V=>have:=qah.1 e;rw [z] at this;cases this
 ·have p:qb7 g.tag S R X r b=some (S',.rel R' U):=m;unfold qb7 at p;split at p
  ·cases p
  ·unfold qb8 at p;cases e:X b with
   |some V=>rw [e] at p;cases p;exact aq _ _ aR.tagB
   |none=>rw [e] at p;exact zk (hg.reln b S' R' U p) zK
def qhi (T M n:Nat):List Value:= [.int .i32 1,.int .u32 0,.bool true,qi T,.map (some M),.int .i64 (n:Int)]
theorem qxv {xs t:List ByteArray}:qdp t.length (qx xs t)=true:=by
 unfold qdp;rw [qdu,zS rfl,yW,yM];intro x b;unfold qx at b;obtain⟨s,_,rfl⟩:=yL.1 b;exact zS wC
theorem qrz {c:List qk}{pr:ByteArray}{tup xs:List ByteArray}(d: ∀u s,u∈qv c pr tup.length->s∈u->s∈xs)(g: ∀s,s∈tup->s∈xs):
  (qhy tup.length ((qv c pr tup.length).map (qx xs)) (qx xs tup)).2.1=decide ((⟨pr,tup⟩:qk)∉c)/\(qhy tup.length ((qv c pr tup.length).map (qx xs)) (qx xs tup)).2.2=0:=by
 unfold qhy;rw [zI qxv,qrg d g];by_cases h:(⟨pr,tup⟩:qk)∈c
 ·have b:tup∈qv c pr tup.length:=qco.2 ⟨h,rfl⟩;cases e:qfl (qv c pr tup.length) tup with
  |none=>
   exfalso;unfold qfl at e;obtain⟨i,hi⟩:=zy.1 b;exact yp.1 e i (yk.2 (zA.1 hi).1) (zS hi)
  |some i=>exact⟨by simp [h],rfl⟩
 ·have b:tup∉qv c pr tup.length:=fun l=>h (qco.1 l).1;rw [qo6 b];exact⟨by simp [h],rfl⟩
theorem qyt {n0:Nat}{g:Gh}{w Wq W5 q:World}{S:Nat}{c:List qk}{T M MX:Nat}{v p:Value}{xs:List ByteArray}{rl:List ((ByteArray×Nat)×Nat)}(hg:GInv g w)(hS:g.st S=some c)(m:StParts g.tag w S c T M MX v xs rl)
  (pr:ByteArray) (tup:List ByteArray) (aj:c.length<67108864) (al:tup.length<=16) {R:Nat} (hR:((pr,tup.length),R)∈rl∨(w.heap.size<=R/\ ∀R',((pr,tup.length),R')∉rl))
  (kq:Keep (fun b=>b≠S/\b≠M) w Wq) (y:Wq.heap[S]?=some (.cells (qhi T M c.length).toArray 120 (0,0))) (am:qiu Wq M (qd9 rl (pr,tup.length) R))
  {l rt:qcg} {vD aC:Value} {P K:Nat} {lm:List (List Bool×Nat)} (aN:qcl l Wq R tup.length ((qv c pr tup.length).map (qx xs)) vD P K lm) (aw:TagLe (qa6 g.tag S R) l) (z:TagNew (qa6 g.tag S R) l w)
  (k5:Keep (fun b=>b≠T/\b≠MX/\v.ownBlock≠some b) Wq W5) (ah:TabAt W5 T MX p (tup.foldl qr xs)) (aa: ∀b,p.ownBlock=some b->v.ownBlock=some b∨Wq.heap.size<=b)
  (k6:Keep (fun b=>l b=none) W5 q) (r:qcl rt q R tup.length (qk6 tup.length ((qv c pr tup.length).map (qx (tup.foldl qr xs))) (qx (tup.foldl qr xs) tup)) aC P K lm) (aG:TagLe l rt) (X:TagNew l rt W5):
  q.heap[S]?=some (.cells (qhi T M c.length).toArray 120 (0,0))/\
  ((⟨pr,tup⟩:qk)∈c->GStep n0 g w {g with st:=g.with S c,tag:=qb7 g.tag S R rt p} (q.setCell ⟨S,0,none⟩ (.int .i32 0)))/\
  ((⟨pr,tup⟩:qk)∉c->GStep n0 g w {g with st:=g.with S (c++ [⟨pr,tup⟩]),tag:=qb7 g.tag S R rt p} ((q.setCell ⟨S,5,none⟩ (.int .i64 ((c.length:Int)+1))).setCell ⟨S,0,none⟩ (.int .i32 0))):=by
 have aE: ∀u s,u∈qv c pr tup.length->s∈u->s∈xs:=fun u s hu hs=>m.texts _ s (qco.1 hu).1 hs;have z1:=kq.size;have z2:=k5.size;have z3:=k6.size;have aD: ∀b,b<w.heap.size->qa6 g.tag S R b=none->l b=none:=fun b d h=>by
  cases e:l b with
  |none=>rfl
  |some U=>
   rcases z b U e with ⟨U',h1⟩ |h1
   ·rw [h]at h1;cases h1
   ·omega
 have Y: ∀b U,g.tag b=some (S,U)->(∀V,U≠.rel R V)->l b=none:=fun b U d hU=>aD b (hg.lt b _ d) (by
  cases e:qa6 g.tag S R b with
  |none=>rfl
  |some V=>have:=qah.1 e;rw [d] at this;cases this;exact absurd rfl (hU V))
 have rS:=Y S _ m.tagS (fun V e=>by cases e);have rT:=Y T _ m.tagT (fun V e=>by cases e);have rX:=Y MX _ m.tagN (fun V e=>by cases e);have rM:=Y M _ m.tagM (fun V e=>by cases e);have rv: ∀b,v.ownBlock=some b->l b=none:=fun b d=>Y b _ (m.tagx b d) (fun V e=>by cases e);have an:S≠T:=fun e=>by have:=m.tagT;rw [←e,m.tagS] at this;cases this
 have ao:S≠MX:=fun e=>by have:=m.tagN;rw [←e,m.tagS] at this;cases this
 have aB:S≠M:=fun e=>by have:=m.tagM;rw [←e,m.tagS] at this;cases this
 have aO:M≠T:=fun e=>by have:=m.tagT;rw [←e,m.tagM] at this;cases this
 have aM:M≠MX:=fun e=>by have:=m.tagN;rw [←e,m.tagM] at this;cases this
 have av:v.ownBlock≠some S:=fun e=>by have:=m.tagx S e;rw [m.tagS] at this;cases this
 have aL:v.ownBlock≠some M:=fun e=>by have:=m.tagx M e;rw [m.tagM] at this;cases this
 have t:q.heap[S]?=some (.cells (qhi T M c.length).toArray 120 (0,0)):=k6.heap (k5.heap y ⟨an,ao,av⟩) rS;have x:qiu q M (qd9 rl (pr,tup.length) R):=(am.keep k5 ⟨aO,aM,aL⟩).keep k6 rM;have v5: ∀b,p.ownBlock=some b->l b=none:=fun b d=>by
  rcases aa b d with h |h
  ·exact rv b h
  ·cases e:l b with
   |none=>rfl
   |some U=>have:=aN.lt b U e;omega
 have ag:TabAt q T MX p (tup.foldl qr xs):=ah.keep k6 rT rX v5;have af:p.ownBlock≠some S:=fun e=>by
  rcases aa S e with h |h
  ·exact av h
  ·have:=qe y;omega
 have ay: ∀b,l b=none->b<W5.heap.size->rt b=none:=fun b h d=>by
  cases e:rt b with
  |none=>rfl
  |some U=>
   rcases X b U e with ⟨U',h1⟩ |h1
   ·rw [h]at h1;cases h1
   ·omega
 have ax:rt S=none:=ay S rS (by have:=qe y;omega);have aV:=qkx (ts:=tup) aE;have ar:qk6 tup.length ((qv c pr tup.length).map (qx (tup.foldl qr xs))) (qx (tup.foldl qr xs) tup)=if (⟨pr,tup⟩:qk)∈c then (qv c pr tup.length).map (qx (tup.foldl qr xs)) else (qv c pr tup.length).map (qx (tup.foldl qr xs))++ [qx (tup.foldl qr xs) tup]:=by
  unfold qk6;rw [(qrz (fun u s hu hs=>qdn.2 (.inl (aE u s hu hs))) (fun s hs=>qdn.2 (.inr hs))).1];by_cases h:(⟨pr,tup⟩:qk)∈c
  ·rw [zI h,zF (by simp [h])]
  ·rw [zF h,zI (by simp [h])]
 have kC:Keep (fun b=>b≠S/\b≠T/\b≠MX/\b≠M/\v.ownBlock≠some b/\qa6 g.tag S R b=none) w q:=by
  have a:Keep (fun b=>(b≠S/\b≠T/\b≠MX/\b≠M/\v.ownBlock≠some b/\qa6 g.tag S R b=none)/\b<w.heap.size) w Wq:=kq.mono fun b _ h=>⟨h.1.1,h.1.2.2.2.1⟩;have b:Keep (fun b=>(b≠S/\b≠T/\b≠MX/\b≠M/\v.ownBlock≠some b/\qa6 g.tag S R b=none)/\b<w.heap.size) Wq W5:=k5.mono fun b _ h=>⟨h.1.2.1,h.1.2.2.1,h.1.2.2.2.2.1⟩;have c:Keep (fun b=>(b≠S/\b≠T/\b≠MX/\b≠M/\v.ownBlock≠some b/\qa6 g.tag S R b=none)/\b<w.heap.size) W5 q:=k6.mono fun b _ h=>aD b h.2 h.1.2.2.2.2.2;exact((a.trans b).trans c).mono fun b d h=>⟨h,d⟩
 have az:=aw.trans aG;have ai:=R4.TagNew.trans z X (show w.heap.size<=W5.heap.size from wC);have au: ∀b,p.ownBlock=some b->v.ownBlock=some b∨(w.heap.size<=b/\rt b=none):=fun b d=>(aa b d).imp id (fun h=>⟨wC,ay b (v5 b d) (zE ah.own b d).2⟩);refine⟨t,fun hf=>?_,fun hf=>?_⟩
 ·have kS:Keep (fun b=>b≠S) q (q.setCell ⟨S,0,none⟩ (.int .i32 0)):=kSc;rw [ar,zI hf]at r;refine qs8 hg hS m ⟨pr,tup⟩ c (.inl ⟨rfl,hf⟩) aj al hR ?_ (ag.keep kS (fun e=>an e.symm) (fun e=>ao e.symm) (fun b d e=>af (by rw [←e];exact d))) (x.keep kS (fun e=>aB e.symm)) (r.keep kS (fun b U d _ e=>by subst e;rw [ax] at d;cases d)) az ai (fun b U d=>by have:=r.lt b U d;simpa using this) (kC.trans (kS.mono fun b _ h=>h.1)) au;have:=qag 0 (.int .i32 0) t
  simpa [qhi,qe9]using this
 ·have kS:Keep (fun b=>b≠S) q ((q.setCell ⟨S,5,none⟩ (.int .i64 ((c.length:Int)+1))).setCell ⟨S,0,none⟩ (.int .i32 0)):=(kSc).trans (kSc);rw [ar,zF hf]at r;have aH:=q33 c ⟨pr,tup⟩;simp only at aH;refine qs8 hg hS m ⟨pr,tup⟩ (c++ [⟨pr,tup⟩]) (.inr ⟨rfl,hf⟩) aj al hR ?_ (ag.keep kS (fun e=>an e.symm) (fun e=>ao e.symm) (fun b d e=>af (by rw [←e];exact d))) (x.keep kS (fun e=>aB e.symm)) (vD:=aC) (P:=P) (K:=K) (lm:=lm) (by
   rw [aH,zn];exact r.keep kS (fun b U d _ e=>by subst e;rw [ax] at d;cases d)) az ai (fun b U d=>by have:=r.lt b U d;simpa using this) (kC.trans (kS.mono fun b _ h=>h.1)) au
  have:=qag 0 (.int .i32 0) (qag 5 (.int .i64 ((c.length:Int)+1)) t)
  simpa [qhi,qe9]using this
end Go.Proofs
