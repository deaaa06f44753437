/- Parts of the proof. -/
import Derived.Test.YtnponcjnahicnaaGreatDoorStGToTxC
set_option linter.unusedSimpArgs false
set_option linter.unusedVariables false
set_option maxRecDepth 100000
set_option maxHeartbeats 4000000
open Go.Proofs.Tryz(prog)
open List(foldl_cons length_singleton mem_append_right)
namespace Go.Proofs
open Go.RowKit Go.Ink R4
def qce (tag:qde)(S R:Nat)(rt:qb9)(vx:Value):qde:=fun b=>if vx.ownBlock=some b then some (S,.texts) else qb3 tag S R rt b
def qd2 (rl:List ((ByteArray×Nat)×Nat))(k:ByteArray×Nat)(R:Nat):List ((ByteArray×Nat)×Nat):=if (k,R)∈rl then rl else rl++ [(k,R)]
theorem q02 (c:List qj)(f:qj){k:ByteArray×Nat}(h:k≠(f.pred,f.tuple.length)):qv (c++ [f]) k.1 k.2=qv c k.1 k.2:=by
 rw [qiv,qpa,zF (fun e=>h (by obtain⟨a,b⟩:=k;simp only at e;rw [←e.1,←e.2])),yP]
theorem q4g (c:List qj)(f:qj):qv (c++ [f]) f.pred f.tuple.length=qv c f.pred f.tuple.length++ [f.tuple]:=by
 rw [qiv,qpa,zI ⟨rfl,rfl⟩]
theorem qn6 {xs:List ByteArray}{ts:List ByteArray}{l:List (List ByteArray)}(h: ∀u s,u∈l->s∈u->s∈xs):l.map (qaa (ts.foldl qo xs))=l.map (qaa xs):=xA fun u c=>q4k fun s b=>h u s c b
theorem qs0 {n0:Nat}{g:Gh}{w Wf:World}{S:Nat}{c:List qj}{T M MX:Nat}{vx v:Value}{xs:List ByteArray}{rl:List ((ByteArray×Nat)×Nat)}(hg:GInv g w)(hS:g.st S=some c)(y:StParts g.tag w S c T M MX vx xs rl)
  (f:qj) (c':List qj) (hc:(c'=c/\f∈c)∨(c'=c++ [f]/\f∉c)) (a4:c.length<67108864) (a5:f.tuple.length<=16) {R:Nat} (hR:((f.pred,f.tuple.length),R)∈rl∨(w.heap.size<=R/\ ∀R',((f.pred,f.tuple.length),R')∉rl))
  (aS:Wf.heap[S]?=some (.cells (qe3 T M c'.length).toArray 116 (0,0))) (ah:TabAt Wf T MX v (f.tuple.foldl qo xs)) (hrel:qio Wf M (qd2 rl (f.pred,f.tuple.length) R))
  {rt:qb9} {vD:Value} {P K:Nat} {lm:List (List Bool×Nat)} (aI:qci rt Wf R f.tuple.length ((qv c' f.pred f.tuple.length).map (qaa (f.tuple.foldl qo xs))) vD P K lm)
  (aY:TagLe (qa5 g.tag S R) rt) (ag:TagNew (qa5 g.tag S R) rt w) (ar: ∀b U,rt b=some U->b<Wf.heap.size)
  (hK:Keep (fun b=>b≠S/\b≠T/\b≠MX/\b≠M/\vx.ownBlock≠some b/\qa5 g.tag S R b=none) w Wf) (aB: ∀b,v.ownBlock=some b->vx.ownBlock=some b∨(w.heap.size<=b/\rt b=none)):
  GStep n0 g w {g with st:=g.with S c',tag:=qce g.tag S R rt v} Wf:=by
 have aX: ∀k:ByteArray×Nat,∀u s,u∈qv c k.1 k.2->s∈u->s∈xs:=fun k u s hu hs=>y.texts _ s (qcr.1 hu).1 hs;have aZ: ∀b,vx.ownBlock=some b->rt b=none:=fun b m=>by
  cases e:rt b with
  |none=>rfl
  |some U=>
   rcases ag b U e with ⟨U',h1⟩ |h1
   ·have:=qai.1 h1;rw [y.tagx b m] at this;cases this
   ·have:=hg.lt b _ (y.tagx b m);omega
 have aQ: ∀b,v.ownBlock=some b->rt b=none:=fun b m=>(aB b m).elim (aZ b) (fun h=>h.2);have aL: ∀b,v.ownBlock=some b->g.tag b=some (S,.texts)∨g.tag b=none:=fun b m=>by
  rcases aB b m with h |h
  ·exact .inl (y.tagx b h)
  ·cases e:g.tag b with
   |none=>exact .inr rfl
   |some U=>have:=hg.lt b U e;omega
 have keepT: ∀b U,g.tag b=some U->(∀V,U≠(S,.rel R V))->qce g.tag S R rt v b=some U:=fun b U m hU=>by
  unfold qce;split
  ·rename_i hx;rcases aL b hx with h |h
   ·rw [m]at h;exact h.symm
   ·rw [m]at h;cases h
  ·exact(qfy hg.lt ag hU).2 m
 have al: ∀b U,qce g.tag S R rt v b=some U->(∀V,U≠(S,.rel R V))->U≠(S,.texts)->g.tag b=some U:=fun b U m hU Y=>by
  unfold qce at m;split at m
  ·exact absurd (yI m).symm Y
  ·exact(qfy hg.lt ag hU).1 m
 have aC:qa5 (qce g.tag S R rt v) S R=rt:=by
  refine Eq.trans (xz fun b=>?_) (qre aY);have e1: ∀V,qce g.tag S R rt v b=some (S,.rel R V)↔qb3 g.tag S R rt b=some (S,.rel R V):=fun V=>by
   unfold qce;split
   ·rename_i hx;constructor
    ·intro h;cases h
    ·intro h;unfold qb3 at h;rw [aQ b hx]at h;rcases aL b hx with h2 |h2
     ·rw [h2]at h;cases h
     ·rw [h2]at h;cases h
   ·exact Iff.rfl
  cases e:qa5 (qb3 g.tag S R rt) S R b with
  |some V=>exact qai.2 ((e1 V).2 (qai.1 e))
  |none=>
   cases e':qa5 (qce g.tag S R rt v) S R b with
   |none=>rfl
   |some V=>
    have:=qai.2 ((e1 V).1 (qai.1 e'));rw [e]at this;cases this
 have aD: ∀R',R'≠R->qa5 (qce g.tag S R rt v) S R'=qa5 g.tag S R':=fun R' aP=>xz fun b=>by
  have e1: ∀V,qce g.tag S R rt v b=some (S,.rel R' V)↔g.tag b=some (S,.rel R' V):=fun V=>
   ⟨fun h=>al b _ h (fun V' e=>by cases e;exact aP rfl) (fun e=>by cases e),fun h=>keepT b _ h (fun V' e=>by cases e;exact aP rfl)⟩
  cases e:qa5 g.tag S R' b with
  |some V=>exact qai.2 ((e1 V).2 (qai.1 e))
  |none=>
   cases e':qa5 (qce g.tag S R rt v) S R' b with
   |none=>rfl
   |some V=>
    have:=qai.2 ((e1 V).1 (qai.1 e'));rw [e]at this;cases this
 have am: ∀b,b<w.heap.size->g.tag b=none->qce g.tag S R rt v b=none:=fun b m Y=>by
  unfold qce;split
  ·rename_i hx;rcases aB b hx with h |h
   ·have:=y.tagx b h;rw [Y] at this;cases this
   ·omega
  ·unfold qb3;cases e:rt b with
   |none=>exact Y
   |some U=>
    rcases ag b U e with ⟨U',h1⟩ |h1
    ·have:=qai.1 h1;rw [Y] at this;cases this
    ·omega
 have aR: ∀b U,g.tag b=some U->(∀V,U≠(S,.rel R V))->qa5 g.tag S R b=none:=fun b U m hU=>by
  cases e:qa5 g.tag S R b with
  |none=>rfl
  |some V=>have:=qai.1 e;rw [m] at this;exact absurd (yI this) (hU V)
 have aG: ∀b U,g.tag b=some U->U≠(S,.box)->U≠(S,.tab)->U≠(S,.nums)->U≠(S,.rels)->U≠(S,.texts)->(∀V,U≠(S,.rel R V))->b≠S/\b≠T/\b≠MX/\b≠M/\vx.ownBlock≠some b/\qa5 g.tag S R b=none:=fun b U m u1 u2 u3 u4 u5 u6=>by
  refine⟨fun e=>?_,fun e=>?_,fun e=>?_,fun e=>?_,fun e=>?_,aR b U m u6⟩
  ·subst e;rw [y.tagS] at m;exact u1 (yI m).symm
  ·subst e;rw [y.tagT] at m;exact u2 (yI m).symm
  ·subst e;rw [y.tagN] at m;exact u3 (yI m).symm
  ·subst e;rw [y.tagM] at m;exact u4 (yI m).symm
  ·rw [y.tagx b e]at m;exact u5 (yI m).symm
 have aA:(rl.map (·.1)).Nodup:=by
  obtain⟨_,_,_,_,hn,_⟩:=y.rels;exact hn
 have az: ∀z R',(z,R')∈rl->(R'=R↔z=(f.pred,f.tuple.length)):=fun z R' hm=>by
  obtain⟨i,hi⟩:=zy.1 hm;have aM:=(zA.1 hi).1;rcases hR with hR |⟨hR1,hR2⟩
  ·obtain⟨j,hj⟩:=zy.1 hR;constructor
   ·intro e;have ay:i=j:=(xw (l:=rl.map (·.2)) (by rw [zL];exact aM) y.inj).1 (by rw [zP,zP,hi,hj,e];rfl);subst ay;rw [hi]at hj;cases hj
    rfl
   ·intro e;have ay:i=j:=(xw (l:=rl.map (·.1)) (by rw [zL];exact aM) aA).1 (by rw [zP,zP,hi,hj,e];rfl);subst ay;rw [hi]at hj;cases hj
    rfl
  ·constructor
   ·intro e;have:=hg.lt _ _ (y.rel_at hm);omega
   ·intro e;subst e;exact absurd hm (hR2 R')
 have au: ∀z R',(z,R')∈qd2 rl (f.pred,f.tuple.length) R->(z,R')∈rl∨(z=(f.pred,f.tuple.length)/\R'=R):=fun z R' hm=>by
  unfold qd2 at hm;split at hm
  ·exact .inl hm
  ·rcases zr.1 hm with h |h
   ·exact .inl h
   ·rw [zm]at h;cases h;exact .inr ⟨rfl,rfl⟩
 have aN:((f.pred,f.tuple.length),R)∈qd2 rl (f.pred,f.tuple.length) R:=by
  unfold qd2;split
  ·assumption
  ·exact mem_append_right _ (zm.2 rfl)
 have hold: ∀z R',(z,R')∈rl->(z,R')∈qd2 rl (f.pred,f.tuple.length) R:=fun z R' hm=>by
  unfold qd2;split
  ·exact hm
  ·exact xd _ hm
 have aW: ∀z:ByteArray×Nat,z≠(f.pred,f.tuple.length)->qv c' z.1 z.2=qv c z.1 z.2:=fun z hk=>by
  rcases hc with ⟨h,_⟩ |⟨h,_⟩
  ·rw [h]
  ·rw [h];exact q02 c f hk
 have aK: ∀x,x∈c'->x∈c∨x=f:=fun x hx=>by
  rcases hc with ⟨h,_⟩ |⟨h,_⟩
  ·rw [h]at hx;exact .inl hx
  ·rw [h,zr,zm]at hx;exact hx
 have bf:=(qfo f.tuple xs).2;have a0:f∈c->f.tuple.foldl qo xs=xs:=fun hf=>by
  have: ∀(ts:List ByteArray),(∀s,s∈ts->s∈xs)->ts.foldl qo xs=xs:=by
   intro ts
   induction ts with
   |nil=>intro _;rfl
   |cons t ts ih=>
    intro h;rw [foldl_cons,show qo xs t=xs from zI (h t (yJ ..))];exact ih fun s hs=>h s (yD _ hs)
  exact this _ fun s hs=>y.texts f s hf hs
 have ao:StParts (qce g.tag S R rt v) Wf S c' T M MX v (f.tuple.foldl qo xs) (qd2 rl (f.pred,f.tuple.length) R):=by
  refine⟨keepT _ _ y.tagS (fun V e=>by cases e),aS,keepT _ _ y.tagT (fun V e=>by cases e),ah.tab,ah.own,fun b m=>by unfold qce;rw [zI m],keepT _ _ y.tagN (fun V e=>by cases e),ah.nums,keepT _ _ y.tagM (fun V e=>by cases e),hrel,fun z R' hm=>?_,?_,fun x hx=>?_,fun x s hx hs=>?_,?_,?_,?_⟩
  ·by_cases e:R'=R
   ·subst e;have hk:z=(f.pred,f.tuple.length):=by
     rcases au z R' hm with h |h
     ·exact(az z R' h).1 rfl
     ·exact h.1
    subst hk;rw [aC];exact⟨vD,P,K,lm,aI⟩
   ·have hm:(z,R')∈rl:=(au z R' hm).elim id (fun h=>absurd h.2 e);have hk:z≠(f.pred,f.tuple.length):=fun h=>e ((az z R' hm).2 h);obtain⟨a2,P',K',a1,aw⟩:=y.rel z R' hm;rw [aD R' e,aW z hk,qn6 (aX z)];exact⟨a2,P',K',a1,aw.keep hK (fun b U m _=>aG b _ (qai.1 m) (fun h=>by cases h) (fun h=>by cases h) (fun h=>by cases h) (fun h=>by cases h) (fun h=>by cases h) (fun V h=>by cases h;exact e rfl))⟩
  ·unfold qd2;split
   ·exact y.inj
   ·rename_i hno;rw [zn,xW];refine⟨y.inj,wC,fun a ha b m h=>?_⟩;obtain⟨q,hq,rfl⟩:=yL.1 ha;simp only [yX,xi,zm]at m;rw [m]at h;obtain⟨z,R'⟩:=q;simp only at h;have:=(az z R' hq).1 h;subst h this;exact hno hq
  ·rcases aK x hx with h |h
   ·obtain⟨R',aw⟩:=y.all x h;exact⟨R',hold _ _ aw⟩
   ·subst h;exact⟨R,aN⟩
  ·rcases aK x hx with h |h
   ·exact qev.2 (.inl (y.texts x s h hs))
   ·subst h;exact qev.2 (.inr hs)
  ·rcases hc with ⟨h,_⟩ |⟨h,hf⟩
   ·rw [h];exact y.nodup
   ·rw [h,xW];refine⟨y.nodup,wC,fun a ha b m e=>?_⟩;rw [zm]at m;subst e m;exact hf ha
  ·rcases hc with ⟨h,_⟩ |⟨h,_⟩
   ·rw [h];exact y.few
   ·rw [h,zR,length_singleton];omega
  ·have:=y.xfew;rcases hc with ⟨h,hf⟩ |⟨h,_⟩
   ·rw [h,a0 hf];exact y.xfew
   ·rw [h,zR,length_singleton];omega
 have zK:=hK.size;refine⟨hK.mono fun b m hf=>?_,fun S' c0 ai=>?_,fun b m hf=>⟨am b m hf.1,hf.2⟩,fun _ _=>rfl,?_⟩
 ·have Y:=hf.1;refine⟨fun e=>?_,fun e=>?_,fun e=>?_,fun e=>?_,fun e=>?_,?_⟩
  ·subst e;rw [y.tagS] at Y;cases Y
  ·subst e;rw [y.tagT] at Y;cases Y
  ·subst e;rw [y.tagN] at Y;cases Y
  ·subst e;rw [y.tagM] at Y;cases Y
  ·rw [y.tagx b e]at Y;cases Y
  ·cases e:qa5 g.tag S R b with
   |none=>rfl
   |some V=>have:=qai.1 e;rw [Y] at this;cases this
 ·show∃d,g.with S c' S'=some (c0++d);unfold Gh.with;split
  ·rename_i e;subst e;rw [hS]at ai;cases ai;rcases hc with ⟨h,_⟩ |⟨h,_⟩
   ·exact⟨[],by rw [h,yP]⟩
   ·exact⟨[f],by rw [h]⟩
  ·exact⟨[],by rw [yP];exact ai⟩
 refine⟨fun S' c0 ai=>?_,fun b S' U m=>?_,fun b U m=>?_,fun b o m=>?_,fun b o m=>am b (qe (hg.hold b o m)) (hg.apart b o m),fun b S' R' U m=>?_⟩
 ·have aj:g.with S c' S'=some c0:=ai;clear ai;unfold Gh.with at aj;split at aj
  ·rename_i e;subst e;injection aj with aj
   subst aj;exact⟨T,M,MX,v,_,_,ao⟩
  ·rename_i e;refine(hg.store S' c0 aj).keep hK (fun b U m=>aG b _ m (fun h=>by cases h;exact e rfl) (fun h=>by cases h;exact e rfl) (fun h=>by cases h;exact e rfl) (fun h=>by cases h;exact e rfl) (fun h=>by cases h;exact e rfl) (fun V h=>by cases h;exact e rfl)) (fun b U=>⟨fun m=>al b _ m (fun V h=>by cases h;exact e rfl) (fun h=>by cases h;exact e rfl),fun m=>keepT b _ m (fun V h=>by cases h;exact e rfl)⟩)
 ·have p:qce g.tag S R rt v b=some (S',U):=m;show∃c0,g.with S c' S'=some c0;unfold qce at p;have ax:g.with S c' S=some c':=by unfold Gh.with;rw [zI rfl]
  split at p
  ·cases p;exact⟨c',ax⟩
  ·unfold qb3 at p;cases e:rt b with
   |some V=>rw [e] at p;cases p;exact⟨c',ax⟩
   |none=>
    rw [e]at p;obtain⟨c0,h0⟩:=hg.own b S' U p;by_cases e2:S'=S
    ·rw [e2];exact⟨c',ax⟩
    ·exact⟨c0,by unfold Gh.with;rw [zF e2];exact h0⟩
 ·have p:qce g.tag S R rt v b=some U:=m;unfold qce at p;split at p
  ·rename_i hx;exact(zE ah.own b hx).2
  ·unfold qb3 at p;cases e:rt b with
   |some V=>exact ar b V e
   |none=>rw [e] at p;exact zk (hg.lt b U p) zK
 ·have Y:=hg.apart b o m;refine hK.heap (hg.hold b o m) ⟨fun e=>?_,fun e=>?_,fun e=>?_,fun e=>?_,fun e=>?_,?_⟩
  ·subst e;rw [y.tagS] at Y;cases Y
  ·subst e;rw [y.tagT] at Y;cases Y
  ·subst e;rw [y.tagN] at Y;cases Y
  ·subst e;rw [y.tagM] at Y;cases Y
  ·rw [y.tagx b e]at Y;cases Y
  ·cases e:qa5 g.tag S R b with
   |none=>rfl
   |some V=>have:=qai.1 e;rw [Y] at this;cases this
 ·have p:qce g.tag S R rt v b=some (S',.rel R' U):=m;unfold qce at p;split at p
  ·cases p
  ·unfold qb3 at p;cases e:rt b with
   |some V=>rw [e] at p;cases p;exact ar _ _ aI.tagB
   |none=>rw [e] at p;exact zk (hg.reln b S' R' U p) zK
def qhk (T M n:Nat):List Value:= [.int .i32 1,.int .u32 0,.bool true,qk T,.map (some M),.int .i64 (n:Int)]
theorem qxv {xs t:List ByteArray}:qdi t.length (qaa xs t)=true:=by
 unfold qdi;rw [qek,zS rfl,yU,yM];intro x b;unfold qaa at b;obtain⟨s,_,rfl⟩:=yL.1 b;exact zS wA
theorem qyv {c:List qj}{pr:ByteArray}{tup xs:List ByteArray}(b: ∀u s,u∈qv c pr tup.length->s∈u->s∈xs)(l: ∀s,s∈tup->s∈xs):
  (qie tup.length ((qv c pr tup.length).map (qaa xs)) (qaa xs tup)).2.1=decide ((⟨pr,tup⟩:qj)∉c)/\(qie tup.length ((qv c pr tup.length).map (qaa xs)) (qaa xs tup)).2.2=0:=by
 unfold qie;rw [zI qxv,qra b l];by_cases h:(⟨pr,tup⟩:qj)∈c
 ·have d:tup∈qv c pr tup.length:=qcr.2 ⟨h,rfl⟩;cases e:qfg (qv c pr tup.length) tup with
  |none=>
   exfalso;unfold qfg at e;obtain⟨i,hi⟩:=zy.1 d;exact yn.1 e i (yi.2 (zA.1 hi).1) (zS hi)
  |some i=>exact⟨by simp [h],rfl⟩
 ·have d:tup∉qv c pr tup.length:=fun g=>h (qcr.1 g).1;rw [qo2 d];exact⟨by simp [h],rfl⟩
theorem q8v {n0:Nat}{g:Gh}{w Wq W5 q:World}{S:Nat}{c:List qj}{T M MX:Nat}{vx p:Value}{xs:List ByteArray}{rl:List ((ByteArray×Nat)×Nat)}(hg:GInv g w)(hS:g.st S=some c)(m:StParts g.tag w S c T M MX vx xs rl)
  (pr:ByteArray) (tup:List ByteArray) (ai:c.length<67108864) (aj:tup.length<=16) {R:Nat} (hR:((pr,tup.length),R)∈rl∨(w.heap.size<=R/\ ∀R',((pr,tup.length),R')∉rl))
  (kq:Keep (fun b=>b≠S/\b≠M) w Wq) (x:Wq.heap[S]?=some (.cells (qhk T M c.length).toArray 116 (0,0))) (ap:qio Wq M (qd2 rl (pr,tup.length) R))
  {l rt:qb9} {vD aI:Value} {P K:Nat} {lm:List (List Bool×Nat)} (aN:qci l Wq R tup.length ((qv c pr tup.length).map (qaa xs)) vD P K lm) (az:TagLe (qa5 g.tag S R) l) (y:TagNew (qa5 g.tag S R) l w)
  (k5:Keep (fun b=>b≠T/\b≠MX/\vx.ownBlock≠some b) Wq W5) (al:TabAt W5 T MX p (tup.foldl qo xs)) (aa: ∀b,p.ownBlock=some b->vx.ownBlock=some b∨Wq.heap.size<=b)
  (k6:Keep (fun b=>l b=none) W5 q) (t:qci rt q R tup.length (qk6 tup.length ((qv c pr tup.length).map (qaa (tup.foldl qo xs))) (qaa (tup.foldl qo xs) tup)) aI P K lm) (aA:TagLe l rt) (z:TagNew l rt W5):
  q.heap[S]?=some (.cells (qhk T M c.length).toArray 116 (0,0))/\
  ((⟨pr,tup⟩:qj)∈c->GStep n0 g w {g with st:=g.with S c,tag:=qce g.tag S R rt p} (q.setCell ⟨S,0,none⟩ (.int .i32 0)))/\
  ((⟨pr,tup⟩:qj)∉c->GStep n0 g w {g with st:=g.with S (c++ [⟨pr,tup⟩]),tag:=qce g.tag S R rt p} ((q.setCell ⟨S,5,none⟩ (.int .i64 ((c.length:Int)+1))).setCell ⟨S,0,none⟩ (.int .i32 0))):=by
 have aw: ∀u s,u∈qv c pr tup.length->s∈u->s∈xs:=fun u s hu hs=>m.texts _ s (qcr.1 hu).1 hs;have z1:=kq.size;have z2:=k5.size;have z3:=k6.size;have aB: ∀b,b<w.heap.size->qa5 g.tag S R b=none->l b=none:=fun b d h=>by
  cases e:l b with
  |none=>rfl
  |some U=>
   rcases y b U e with ⟨U',h1⟩ |h1
   ·rw [h]at h1;cases h1
   ·omega
 have Y: ∀b U,g.tag b=some (S,U)->(∀V,U≠.rel R V)->l b=none:=fun b U d hU=>aB b (hg.lt b _ d) (by
  cases e:qa5 g.tag S R b with
  |none=>rfl
  |some V=>have:=qai.1 e;rw [d] at this;cases this;exact absurd rfl (hU V))
 have rS:=Y S _ m.tagS (fun V e=>by cases e);have rT:=Y T _ m.tagT (fun V e=>by cases e);have rX:=Y MX _ m.tagN (fun V e=>by cases e);have rM:=Y M _ m.tagM (fun V e=>by cases e);have rv: ∀b,vx.ownBlock=some b->l b=none:=fun b d=>Y b _ (m.tagx b d) (fun V e=>by cases e);have an:S≠T:=fun e=>by have:=m.tagT;rw [←e,m.tagS] at this;cases this
 have ao:S≠MX:=fun e=>by have:=m.tagN;rw [←e,m.tagS] at this;cases this
 have aq:S≠M:=fun e=>by have:=m.tagM;rw [←e,m.tagS] at this;cases this
 have aK:M≠T:=fun e=>by have:=m.tagT;rw [←e,m.tagM] at this;cases this
 have aL:M≠MX:=fun e=>by have:=m.tagN;rw [←e,m.tagM] at this;cases this
 have ar:vx.ownBlock≠some S:=fun e=>by have:=m.tagx S e;rw [m.tagS] at this;cases this
 have aM:vx.ownBlock≠some M:=fun e=>by have:=m.tagx M e;rw [m.tagM] at this;cases this
 have v:q.heap[S]?=some (.cells (qhk T M c.length).toArray 116 (0,0)):=k6.heap (k5.heap x ⟨an,ao,ar⟩) rS;have ab:qio q M (qd2 rl (pr,tup.length) R):=(ap.keep k5 ⟨aK,aL,aM⟩).keep k6 rM;have v5: ∀b,p.ownBlock=some b->l b=none:=fun b d=>by
  rcases aa b d with h |h
  ·exact rv b h
  ·cases e:l b with
   |none=>rfl
   |some U=>have:=aN.lt b U e;omega
 have am:TabAt q T MX p (tup.foldl qo xs):=al.keep k6 rT rX v5;have ah:p.ownBlock≠some S:=fun e=>by
  rcases aa S e with h |h
  ·exact ar h
  ·have:=qe x;omega
 have aC: ∀b,l b=none->b<W5.heap.size->rt b=none:=fun b h d=>by
  cases e:rt b with
  |none=>rfl
  |some U=>
   rcases z b U e with ⟨U',h1⟩ |h1
   ·rw [h]at h1;cases h1
   ·omega
 have aG:rt S=none:=aC S rS (by have:=qe x;omega);have aW:=qn6 (ts:=tup) aw;have au:qk6 tup.length ((qv c pr tup.length).map (qaa (tup.foldl qo xs))) (qaa (tup.foldl qo xs) tup)=if (⟨pr,tup⟩:qj)∈c then (qv c pr tup.length).map (qaa (tup.foldl qo xs)) else (qv c pr tup.length).map (qaa (tup.foldl qo xs))++ [qaa (tup.foldl qo xs) tup]:=by
  unfold qk6;rw [(qyv (fun u s hu hs=>qev.2 (.inl (aw u s hu hs))) (fun s hs=>qev.2 (.inr hs))).1];by_cases h:(⟨pr,tup⟩:qj)∈c
  ·rw [zI h,zF (by simp [h])]
  ·rw [zF h,zI (by simp [h])]
 have kC:Keep (fun b=>b≠S/\b≠T/\b≠MX/\b≠M/\vx.ownBlock≠some b/\qa5 g.tag S R b=none) w q:=by
  have a:Keep (fun b=>(b≠S/\b≠T/\b≠MX/\b≠M/\vx.ownBlock≠some b/\qa5 g.tag S R b=none)/\b<w.heap.size) w Wq:=kq.mono fun b _ h=>⟨h.1.1,h.1.2.2.2.1⟩;have b:Keep (fun b=>(b≠S/\b≠T/\b≠MX/\b≠M/\vx.ownBlock≠some b/\qa5 g.tag S R b=none)/\b<w.heap.size) Wq W5:=k5.mono fun b _ h=>⟨h.1.2.1,h.1.2.2.1,h.1.2.2.2.2.1⟩;have c:Keep (fun b=>(b≠S/\b≠T/\b≠MX/\b≠M/\vx.ownBlock≠some b/\qa5 g.tag S R b=none)/\b<w.heap.size) W5 q:=k6.mono fun b _ h=>aB b h.2 h.1.2.2.2.2.2;exact((a.trans b).trans c).mono fun b d h=>⟨h,d⟩
 have ay:=az.trans aA;have ak:=R4.TagNew.trans y z (show w.heap.size<=W5.heap.size from wA);have aE: ∀b,p.ownBlock=some b->vx.ownBlock=some b∨(w.heap.size<=b/\rt b=none):=fun b d=>(aa b d).imp id (fun h=>⟨wA,aC b (v5 b d) (zE al.own b d).2⟩);refine⟨v,fun hf=>?_,fun hf=>?_⟩
 ·have kS:Keep (fun b=>b≠S) q (q.setCell ⟨S,0,none⟩ (.int .i32 0)):=kSc;rw [au,zI hf]at t;refine qs0 hg hS m ⟨pr,tup⟩ c (.inl ⟨rfl,hf⟩) ai aj hR ?_ (am.keep kS (fun e=>an e.symm) (fun e=>ao e.symm) (fun b d e=>ah (by rw [←e];exact d))) (ab.keep kS (fun e=>aq e.symm)) (t.keep kS (fun b U d _ e=>by subst e;rw [aG] at d;cases d)) ay ak (fun b U d=>by have:=t.lt b U d;simpa using this) (kC.trans (kS.mono fun b _ h=>h.1)) aE;have:=qaj 0 (.int .i32 0) v
  simpa [qhk,qe3]using this
 ·have kS:Keep (fun b=>b≠S) q ((q.setCell ⟨S,5,none⟩ (.int .i64 ((c.length:Int)+1))).setCell ⟨S,0,none⟩ (.int .i32 0)):=(kSc).trans (kSc);rw [au,zF hf]at t;have ax:=q4g c ⟨pr,tup⟩;simp only at ax;refine qs0 hg hS m ⟨pr,tup⟩ (c++ [⟨pr,tup⟩]) (.inr ⟨rfl,hf⟩) ai aj hR ?_ (am.keep kS (fun e=>an e.symm) (fun e=>ao e.symm) (fun b d e=>ah (by rw [←e];exact d))) (ab.keep kS (fun e=>aq e.symm)) (vD:=aI) (P:=P) (K:=K) (lm:=lm) (by
   rw [ax,zn];exact t.keep kS (fun b U d _ e=>by subst e;rw [aG] at d;cases d)) ay ak (fun b U d=>by have:=t.lt b U d;simpa using this) (kC.trans (kS.mono fun b _ h=>h.1)) aE
  have:=qaj 0 (.int .i32 0) (qaj 5 (.int .i64 ((c.length:Int)+1)) v)
  simpa [qhk,qe3]using this
end Go.Proofs
namespace Go.Proofs
open Go.RowKit Go.Ink R4 P16 Go.MuLone
attribute [local go_sem] Oper.semAt_some
def okF (f:qj):Bool:=qdk f.pred&&decide (f.tuple.length<=16)&&!(f.tuple.any fun s=>decide (1024<s.size))
theorem q4h {n0:Nat}{g:Gh}{w:World}(hg:GInv g w){S:Nat}{c:List qj}(hS:g.st S=some c)(f:qj)(m:Nat)(v:Value)(hv:qaf m w v f.tuple)(hm:m<=w.heap.size)(cx:f.pred.size<=1073741824)(dr:c.length<67108864)(bb: ∀a n c,v=.slice (some a) n c->g.tag a.block=none):
  Calls prog 39 #[qk S,.agg #[.string f.pred,v]] w fun e w'=> ∃g',e=.returned (.tuple #[.bool (decide (okF f=true/\f∉c)),.int .i64 (if okF f=true then 0 else 2)])/\GStep n0 g w g' w'/\g'.st=g.with S (qen okF c f)/\g'.held=g.held:=by
 obtain⟨T,M,MX,vx,xs,rl,hP⟩:=hg.store S c hS;obtain⟨pr,tup⟩:=f;simp only at hv cx⊢;obtain⟨a,cp,rfl,d8,d6,dq⟩:=id hv;obtain⟨N,hN⟩:=ex (w.heap.size);obtain⟨W0,a8⟩:=ex (w.alloc (.cells #[.string pr,.slice a tup.length cp] 86));have k0:wE w W0:=by rw [←a8];exact kAl
 have z0:W0.heap.size=w.heap.size+1:=by rw [←a8];simp
 have p0:W0.heap[N]?=some (.cells #[.string pr,.slice a tup.length cp] 86 (0,0)):=by rw [←a8,←hN];exact qh _ _
 have bJ:=hP.keep (tag':=g.tag) k0 (fun _ _ _=>wF) (fun _ _=>Iff.rfl);have c0:=qb p0 0 _ rfl;have c1:=qb p0 1 _ rfl;simp only [zD]at c0 c1;have dZ:=qe p0;have eH:=qe bJ.box;have bj:=qip bJ.box;have bg:=qoy pr W0;have bf:=qxu m _ tup W0 (qn5 hv k0) wA;have aF:okF ⟨pr,tup⟩=(qdk pr&&decide (tup.length<=16)&&!(tup.any fun s=>decide (1024<s.size))):=rfl;have b2:okF ⟨pr,tup⟩=false->g.with S (qen okF c ⟨pr,tup⟩)=g.st:=fun h=>by
  have e:qen okF c ⟨pr,tup⟩=c:=zF (by rw [h];simp);rw [e]
  funext b
  unfold Gh.with;by_cases q:b=S
  ·rw [zI q,q,hS]
  ·rw [zF q]
 refine qlx ?_ hg hP bJ k0 a8 p0 bj bg bf hv dq b2 bb;clear hg hP bJ k0 a8 p0 bj bg bf hv dq b2 bb;intro ao d ed bF aQ dO ad t ab eu cY an aR;by_cases au:qdk pr=false
 ·have aG:okF ⟨pr,tup⟩=false:=by rw [aF,au];rfl
  have aB:=an.o aG;rw [au]at t;clear aF au;refine hd1 ?_ aB;clear aB;intro ay;refine qf5 Tryz.func39 rfl ?_;simp only [Tryz.ntmps39,qdy,Nat.reduceAdd,Nat.reduceSub];gi_wp2;rw [aQ.o];refine⟨wF,rfl,(zU.2 ad.o).mono ?_⟩;rintro e w9 ⟨rfl,p⟩;have p:=p.symm;subst p;gi_wp2;refine⟨wF,rfl,(zU.2 t.o).mono ?_⟩;rintro e w9 ⟨rfl,p⟩;have p:=p.symm;subst p;gi_wp2;refine⟨wF,?_⟩;rename_i aK;refine aK _ _ ?_;clear aK;gi_wp2
  all_goals exact qcn (xa rfl _ _ _) ⟨rfl,g,GStep.own ao.o bF.o,ay.o.symm,rfl⟩
 rw [Bool.not_eq_false]at au;rw [au]at t;by_cases dU:16<tup.length
 ·have aG:okF ⟨pr,tup⟩=false:=by rw [aF,zM (show ¬tup.length<=16 from wA)];simp
  have aB:=an.o aG;have de:(16:Int)<tup.length:=wA
  clear aF au dU;refine hd1 ?_ aB;clear aB;intro ay;refine qf5 Tryz.func39 rfl ?_;simp only [Tryz.ntmps39,qdy,Nat.reduceAdd,Nat.reduceSub];gi_wp2;rw [aQ.o];refine⟨wF,rfl,(zU.2 ad.o).mono ?_⟩;rintro e w9 ⟨rfl,p⟩;have p:=p.symm;subst p;gi_wp2;refine⟨wF,rfl,(zU.2 t.o).mono ?_⟩;rintro e w9 ⟨rfl,p⟩;have p:=p.symm;subst p;gi_wp2;refine⟨wF,?_⟩;rename_i aK;refine aK _ _ ?_;clear aK;gi_wp2
  all_goals exact qcn (xa rfl _ _ _) ⟨rfl,g,GStep.own ao.o bF.o,ay.o.symm,rfl⟩
 have de: ¬(16:Int)<tup.length:=wA
 by_cases ar:(tup.any fun s=>decide (1024<s.size))=true
 ·have aG:okF ⟨pr,tup⟩=false:=by rw [aF,ar];simp
  have aB:=an.o aG;rw [ar]at ab;clear aF au ar;refine hd1 ?_ aB;clear aB;intro ay;refine qf5 Tryz.func39 rfl ?_;simp only [Tryz.ntmps39,qdy,Nat.reduceAdd,Nat.reduceSub];gi_wp2;rw [aQ.o];refine⟨wF,rfl,(zU.2 ad.o).mono ?_⟩;rintro e w9 ⟨rfl,p⟩;have p:=p.symm;subst p;gi_wp2;refine⟨wF,rfl,(zU.2 t.o).mono ?_⟩;rintro e w9 ⟨rfl,p⟩;have p:=p.symm;subst p;gi_wp2;refine⟨wF,rfl,(zU.2 ab.o).mono ?_⟩;rintro e W1 ⟨rfl,k1⟩;have kA:wE w W1:=bF.o.trans (k1.mono fun b q _=>q);clear k1;refine hd1 ?_ kA;clear kA;intro az;gi_wp2
  all_goals exact qcn (xa rfl _ _ _) ⟨rfl,g,GStep.own ao.o az.o,ay.o.symm,rfl⟩
 rw [xt]at ar;have b5:okF ⟨pr,tup⟩=true:=by rw [aF,au,ar,zS (show tup.length<=16 from wA)];rfl
 have dx: ∀s,s∈tup->s.size<=1073741824:=fun s hs=>by
  rw [xZ]at ar;have:=ar s hs;simp at this;omega
 rw [ar]at ab;clear aF au ar an;have du:tup.length<=16:=wA
 refine hd2 ?_ b5 dx;clear b5 dx;intro a4 c3;refine qf5 Tryz.func39 rfl ?_;simp only [Tryz.ntmps39,qdy,Nat.reduceAdd,Nat.reduceSub];gi_wp2;rw [aQ.o];refine⟨wF,rfl,(zU.2 ad.o).mono ?_⟩;rintro e w9 ⟨rfl,p⟩;have p:=p.symm;subst p;gi_wp2;refine⟨wF,rfl,(zU.2 t.o).mono ?_⟩;rintro e w9 ⟨rfl,p⟩;have p:=p.symm;subst p;gi_wp2;refine⟨wF,rfl,(zU.2 ab.o).mono ?_⟩;rintro e W1 ⟨rfl,k1⟩
 replace k1:wE W0 W1:=k1.mono fun b q _=>q
 have kA:wE w W1:=bF.o.trans k1;have ai:=d.o.keep (tag':=g.tag) kA (fun _ _ _=>wF) (fun _ _=>Iff.rfl);have a0:=qb ai.box 0 _ rfl;have f0:=qg ai.box 0;have p1:=k1.heap dO.o trivial;have z1:=k1.size;obtain⟨W2,aX⟩:=ex (W1.setCell ⟨S,0,none⟩ (.int .i32 1));have aM:=lock_free qhu ⟨S,0,none⟩ W1 (by simpa using a0) f0;rw [aX]at aM;have k2:Keep (fun b=>b≠S) W1 W2:=by rw [←aX];exact kSc
 have z2:=k2.size;have aA:=qaj 0 (.int .i32 1) ai.box;rw [aX]at aA;have dY:N≠S:=by have:=qe d.o.box;omega
 have p2:=k2.heap p1 dY;have b8: ∀W,wE W2 W->wE w (W.setCell ⟨S,0,none⟩ (.int .i32 0)):=fun W hK=>kA.trans (qje ai.box (by rw [aX];exact hK));have d0:=qb p2 0 _ rfl;have d1:=qb p2 1 _ rfl;simp only [zD]at d0 d1;have eB:=qe p2;have eD:=qe ai.box;obtain⟨W3,a9⟩:=ex (W2.alloc (.cells #[.string pr,.int .i64 (tup.length:Int)] 153));obtain⟨KB,dV⟩:=ex (W2.heap.size);have k3:wE W2 W3:=by rw [←a9];exact kAl
 have q3:W3.heap[KB]?=some (.cells #[.string pr,.int .i64 (tup.length:Int)] 153 (0,0)):=by rw [←a9,←dV];exact qh _ _
 have z3:W2.heap.size<W3.heap.size:=by rw [←a9];simp
 have dW:M≠S:=fun e=>by have:=ai.tagM;rw [e,ai.tagS] at this;cases this
 have aO:=(ai.rels.keep k2 dW).keep k3 trivial;have bd:=fun m=>qd7 (P:=prog) Tryz.underlying112 qkg qjd qmi (aO.keep (Keep.drewN' (fun _=>True) W3 m) wF) (pr,tup.length) (qkh cx wA) false;have e3:=qb (k3.heap aA wF) 4 _ rfl;have e1:=qb q3 0 _ rfl;have e2:=qb q3 1 _ rfl;simp only [zD]at e1 e2 e3;have eE:=qe (k3.heap aA wF);have ey:=qe q3;unfold qeg at bd;clear k1 dZ c0 c1;refine qhw ?_ kA ai aM k2 aA p2 b8 a9 k3 q3 aX aO;clear kA ai aM k2 aA p2 b8 a9 k3 q3 aX aO;intro az bS bx a5 am c7 dM cX c4 dP ee aS;gi_wp2;refine⟨wF,rfl,(zU.2 bx.o).mono ?_⟩;rintro e w9 ⟨rfl,p⟩;have p:=p.symm;subst p;gi_wp2;rw [cX.o];rcases hl:qdd rl (pr,tup.length) with _ |R
 focus
  simp only [hl,zz,yy]at bd;have dt:=qmj d.o hl;have dv:=qs6 hl;refine qag ?_;refine xc.2 ?_
  go_quiet (fail)
  refine qah ?_;gi_wp2;obtain⟨Wd,aY⟩:=ex (W3.drewN nq);have cy:wE W2 Wd:=by rw [←aY];exact c4.o.trans (Keep.drewN' _ _ _)
  have zd:=cy.size;have bk:qio Wd M rl:=by rw [←aY];exact aS.o.keep (Keep.drewN' (fun _=>True) _ _) trivial
  have qd:Wd.heap[KB]?=some (.cells #[.string pr,.int .i64 (tup.length:Int)] 153 (0,0)):=by rw [←aY];exact(Keep.drewN' (fun _=>True) _ _).heap dP.o trivial
  have bh:=q0n tup.length wA Wd;obtain⟨R,d4⟩:=ex (Wd.heap.size+2);rw [d4]at bh;rw [aY];clear bd e1 e2 e3 d0 d1;refine hd8 ?_ dt dv cy bk qd bh hl aY;clear dt dv cy bk qd bh hl aY;intro cZ a3 c5 bz cn cj et ef
  try (refine⟨wF,?_⟩;rename_i aK;refine aK _ _ ?_;clear aK;gi_wp2)
  refine⟨wF,rfl,(zU.2 cj.o).mono ?_⟩;rintro e W4 ⟨rfl,k4,ag,P0,K0,aq,bo⟩;have z4:=k4.size;have kD:wE W4 W4.drew:=kDr;have br:wE W2 W4.drew:=(c5.o.trans k4).trans kD;have e3:=qb (br.heap am.o wF) 4 _ rfl;have e1:=qb ((k4.trans kD).heap cn.o wF) 0 _ rfl;have e2:=qb ((k4.trans kD).heap cn.o wF) 1 _ rfl;simp only [zD]at e1 e2 e3;obtain⟨Wq,bp,aw,aP,ea⟩:=qiu (P:=prog) Tryz.underlying112 qkg qjd (bz.o.keep (k4.trans kD) wF) (pr,tup.length) (qkh cx wA) R;unfold qeg at bp;have bm:setK rl (pr,tup.length) R=rl++ [((pr,tup.length),R)]:=by
   unfold setK;rw [zF (fun h=>by obtain⟨⟨k',R'⟩,hm,rfl⟩:=yL.1 h;exact a3.o R' hm)]
  rw [bm]at aw;have dA:w.heap.size<=R:=by
   have h1:=az.o.size;omega
  have aT: ∀b,qa5 g.tag S R b=none:=fun b=>by
   cases e:qa5 g.tag S R b with
   |none=>rfl
   |some U=>have:=ao.o.reln _ _ _ _ (qai.1 e);omega
  have kq:Keep (fun b=>b≠S/\b≠M) w Wq:=((az.o.mt.trans (a5.o.mono fun b _ h=>h.1)).trans br.mt).trans (aP.mono fun b _ h=>h.2);have di:=aw.lt;have bK:S≠M:=fun e=>by have:=d.o.tagM;rw [←e,d.o.tagS] at this;cases this
  have bP:Keep (fun b=>b≠M) W2 Wq:=br.mt.trans aP;have z:Wq.heap[S]?=some (.cells (qhk T M c.length).toArray 116 (0,0)):=by have:=bP.heap am.o bK;simpa [qhk,qe3] using this
  have ct:N≠M:=fun e=>by have:=ao.o.lt _ _ d.o.tagM;omega
  have pq:=bP.heap c7.o ct;have a7:((pr,tup.length),R)∈rl∨(w.heap.size<=R/\ ∀R',((pr,tup.length),R')∉rl):=.inr ⟨dA,a3.o⟩;have aa:qio Wq M (qd2 rl (pr,tup.length) R):=by
   unfold qd2;rw [zF (a3.o R)];exact aw
  have tS: ∀b U,g.tag b=some U->U≠(S,.box)->b≠S:=fun b U q hU e=>by rw [e,d.o.tagS] at q;exact hU (yI q).symm
  have tM: ∀b U,g.tag b=some U->U≠(S,.rels)->b≠M:=fun b U q hU e=>by rw [e,d.o.tagM] at q;exact hU (yI q).symm
  have ah:TabAt Wq T MX vx xs:=(bS.o.table.keep a5.o (tS _ _ d.o.tagT (fun e=>by cases e)) (tS _ _ d.o.tagN (fun e=>by cases e)) (fun b q=>tS _ _ (d.o.tagx b q) (fun e=>by cases e))).keep bP (tM _ _ d.o.tagT (fun e=>by cases e)) (tM _ _ d.o.tagN (fun e=>by cases e)) (fun b q=>tM _ _ (d.o.tagx b q) (fun e=>by cases e));have dX:=ao.o.lt _ _ d.o.tagM;have aq:qci ag Wq R tup.length ((qv c pr tup.length).map (qaa xs)) (.slice none 0 0) P0 K0 []:=by
   rw [cZ.o];exact(aq.keep kD (fun _ _ _ _=>wF)).keep aP (fun b U q _ e=>by have:=bo b U q;have h1:=az.o.size;omega)
  have al:TagLe (qa5 g.tag S R) ag:=fun b U q=>by rw [aT b] at q;cases q
  have Y:TagNew (qa5 g.tag S R) ag w:=fun b U q=>.inr (by have:=bo b U q;have h1:=az.o.size;omega);have eF:=qe (br.heap am.o wF);have ez:=qe ((k4.trans kD).heap cn.o wF);have df:=And.intro e3 (And.intro e1 e2);have dh:KB≠M:=wA
  have dg:=And.intro (aP.cell e3 bK) (And.intro (aP.cell e1 dh) (aP.cell e2 dh));clear e1 e2 e3;clear aT br kD k4 aw aP ea bP tS tM di dX bm bo zd dA z4;refine qk2 ?_ a7 z pq kq ah aa aq al Y df dg bp bK ct;clear a7 z pq kq ah aa aq al Y df dg bp bK ct;intro bU aH cm bG aL ae ak ap y bQ bR bW cW cV;gi_wp2;refine qag ?_;refine xc.2 ?_;refine qau rfl (fun W=>W.cell? ⟨S,4,none⟩=some (.map (some M))/\W.cell? ⟨KB,0,none⟩=some (.string pr)/\W.cell? ⟨KB,1,none⟩=some (.int .i64 (tup.length:Int))) [] ?_;refine qq [0,1,2,3,4,5,6] ?_
  iterate 7
   refine tkA rfl bQ.o ?_
   try simp only [qr]
  refine ql ?_;refine ho 7 rfl fun K ax=>?_;have bp:=bW.o;go_wp2_with fail;clear bp;refine ax.o _ _ (fun _=>bR.o) ?_;refine qa0 wB (qah ?_);clear ax;have z:=aH.o;have pq:=cm.o;have kq:=bG.o;have ah:=aL.o;have aa:=ae.o;have aq:=ak.o;have al:=ap.o;have Y:=y.o;clear aH cm bG aL ae ak ap y bQ bR bW cW cV;obtain⟨cE,b9⟩: ∃v,(Value.slice none 0 0)=v:=⟨_,rfl⟩;obtain⟨cD,b4⟩: ∃l,([]:List (List Bool×Nat))=l:=⟨_,rfl⟩;rw [b9,b4]at aq;clear b9 b4;gi_wp2
 rotate_left
 focus
  simp only [hl,zz,yy]at bd;obtain⟨cE,P0,K0,cD,hR⟩:=d.o.rel _ _ (qfq hl);simp only at hR;refine qag ?_;refine xc.2 ?_
  go_quiet (fail)
  refine qah ?_;gi_wp2;obtain⟨Wq,bL⟩:=ex (W3.drewN nq);obtain⟨ag,aV⟩:=ex (qa5 g.tag S R);have aZ:wE W2 Wq:=by rw [←bL];exact c4.o.trans (Keep.drewN' _ _ _)
  have kq:Keep (fun b=>b≠S/\b≠M) w Wq:=(az.o.mt.trans (a5.o.mono fun b _ h=>h.1)).trans aZ.mt;have z:Wq.heap[S]?=some (.cells (qhk T M c.length).toArray 116 (0,0)):=by have:=aZ.heap am.o trivial;simpa [qhk,qe3] using this
  have pq:=aZ.heap c7.o trivial;have a7:((pr,tup.length),R)∈rl∨(w.heap.size<=R/\ ∀R',((pr,tup.length),R')∉rl):=.inl (qfq hl);have aa:qio Wq M (qd2 rl (pr,tup.length) R):=by
   unfold qd2;rw [zI (qfq hl),←bL];exact aS.o.keep (Keep.drewN' (fun _=>True) _ _) trivial
  have tS: ∀b U,g.tag b=some U->U≠(S,.box)->b≠S:=fun b U q hU e=>by rw [e,d.o.tagS] at q;exact hU (yI q).symm
  have ah:TabAt Wq T MX vx xs:=(bS.o.table.keep a5.o (tS _ _ d.o.tagT (fun e=>by cases e)) (tS _ _ d.o.tagN (fun e=>by cases e)) (fun b q=>tS _ _ (d.o.tagx b q) (fun e=>by cases e))).keep aZ trivial trivial (fun _ _=>wF);have aq:qci ag Wq R tup.length ((qv c pr tup.length).map (qaa xs)) cE P0 K0 cD:=by
   rw [←aV];exact((hR.keep az.o (fun _ _ _ _=>wF)).keep a5.o (fun b U q _=>tS _ _ (qai.1 q) (fun e=>by cases e))).keep aZ (fun _ _ _ _=>wF)
  have al:TagLe (qa5 g.tag S R) ag:=by rw [aV];exact TagLe.refl _
  have Y:TagNew (qa5 g.tag S R) ag w:=by rw [aV];exact TagNew.refl _ _
  rw [bL];clear hl bd hR aV bL aZ tS e1 e2 e3 d0 d1;refine hd1 ?_ a7;clear a7;intro bU
 rotate_left
 all_goals
  have dw:=z;have y3:=qb ((Keep.drew (fun _=>True) Wq).heap z wF) 3 _ rfl;have y1:=qb ((Keep.drew (fun _=>True) Wq).heap pq wF) 1 _ rfl;simp only [zD]at y3 y1;have eI:=qe z;have eC:=qe pq;have zq:=kq.size;have dB:=d.o.xl;have c8:N≠T:=by have:=qe d.o.tab;omega
  have c9:N≠MX:=by have:=d.o.nums.lt;omega
  have da:S≠T:=fun e=>by have:=d.o.tagT;rw [←e,d.o.tagS] at this;cases this
  have db:S≠MX:=fun e=>by have:=d.o.tagN;rw [←e,d.o.tagS] at this;cases this
  have dd:vx.ownBlock≠some S:=fun e=>by have:=d.o.tagx S e;rw [d.o.tagS] at this;cases this
  have dc:vx.ownBlock≠some N:=fun e=>by have:=ao.o.lt _ _ (d.o.tagx N e);omega
  have dz:qaf m Wq.drew (.slice a tup.length cp) tup:=⟨a,cp,rfl,d8,d6,fun k x hx=>by
   obtain⟨b,o,dn,q,hs⟩:=cY.o k x hx;have ht:=aR.o ⟨b,o,none⟩ tup.length cp (by rw [dn]);refine⟨b,o,dn,q,?_⟩;exact kq.cell hs ⟨fun e=>(by subst e;rw [d.o.tagS] at ht;cases ht),fun e=>(by subst e;rw [d.o.tagM] at ht;cases ht)⟩⟩
  have b6:=qti (ah.keep (Keep.drew (fun _=>True) Wq) trivial trivial (fun _ _=>wF)) m _ tup dz (by simp;omega) c3.o (by have:=d.o.xfew;omega) (fun a' n' c' h=>by
   have ht:=aR.o a' n' c' h;refine⟨fun e=>?_,fun e=>?_,fun e=>?_⟩
   ·rw [e,d.o.tagT]at ht;cases ht
   ·rw [e,d.o.tagN]at ht;cases ht
   ·rw [d.o.tagx _ e]at ht;cases ht)
  have dl:=And.intro y3 y1;clear y3 y1 dz;refine qby ?_ dl b6 z pq kq ah aa aq al Y c8 c9 da db dd dc;clear dl b6 z pq kq ah aa aq al Y c8 c9 da db dd dc;intro a2 ck aH cm bG aL ae ak ap y cN cO cP cQ cS cR;refine hd1 ?_ dw;clear dw;intro c2;refine qag ?_;refine xc.2 ?_;refine qau rfl (fun W=>W.cell? ⟨S,3,none⟩=some (qk T)/\W.cell? ⟨N,1,none⟩=some (.slice a tup.length cp)) [] ?_;refine qq [0,1,2,3,4,5,6] ?_
  iterate 7
   refine tkA rfl a2.o ?_
   try simp only [qr]
  refine ql ?_;refine ho 7 rfl fun K ax=>?_;go_wp2_with fail;refine ck.o.mono ?_;rintro e W5 ⟨vo,cF,rfl,cf,bs,k5,cc,ca⟩;have dm:W5.cell? ⟨S,3,none⟩=some (qk T)/\W5.cell? ⟨N,1,none⟩=some (.slice a tup.length cp):=⟨k5.cell a2.o.1 ⟨cP.o,cQ.o,cS.o⟩,k5.cell a2.o.2 ⟨cN.o,cO.o,cR.o⟩⟩
  replace k5:Keep (fun b=>b≠T/\b≠MX/\vx.ownBlock≠some b) Wq W5:=kDr.trans k5
  have bq: ∀b,cF.ownBlock=some b->vx.ownBlock=some b∨Wq.heap.size<=b:=fun b q=>(cc b q).imp id (fun h=>by simpa using h);have z5:=k5.size;have cb: ∀b,vo.ownBlock=some b->Wq.heap.size<=b:=fun b q=>by have:=(zE bs b q).1;simpa using this
  clear cc;refine hd7 ?_ dm cf bs k5 bq ca cb;clear dm cf bs k5 bq ca cb;intro bV co a6 c6 bD dN cl;go_wp2_with fail;refine ax.o _ _ (fun _=>bV.o) ?_;refine qq [8,9,10,11,12] ?_
  iterate 5
   refine tkA rfl bV.o ?_
   try simp only [qr]
  refine ql ?_;refine qa0 wB (qah ?_);clear ax;have cw:=qn6 (ts:=tup) (l:=qv c pr tup.length) (xs:=xs) (fun u s hu hs=>d.o.texts _ s (qcr.1 hu).1 hs);have bN: ∀b U,g.tag b=some (S,U)->(∀V,U≠.rel R V)->ag b=none:=fun b U q hU=>by
   cases e:ag b with
   |none=>rfl
   |some U'=>
    exfalso;rcases y.o b U' e with ⟨U2,h1⟩ |h1
    ·have:=qai.1 h1;rw [q] at this;cases this;exact hU U2 rfl
    ·have:=ao.o.lt b _ q;omega
  have dj:qci ag W5 R tup.length ((qv c pr tup.length).map (qaa (tup.foldl qo xs))) cE P0 K0 cD:=by
   rw [cw];refine ak.o.keep c6.o (fun b U q _=>⟨fun e=>?_,fun e=>?_,fun e=>?_⟩)
   ·subst e;rw [bN b _ d.o.tagT (fun V h=>by cases h)] at q;cases q
   ·subst e;rw [bN b _ d.o.tagN (fun V h=>by cases h)] at q;cases q
   ·rw [bN b _ (d.o.tagx b e) (fun V h=>by cases h)]at q;cases q
  have bM:=a6.o;rw [←qek (tup.foldl qo xs) tup]at bM;have aU:=q0o dj (by rw [zL];have:=ql4 c pr tup.length;omega) W5.heap.size vo (qaa (tup.foldl qo xs) tup) (qfk bM (by rw [qek];omega)) (zG _) (qrt (fun s hs=>qev.2 (.inr hs)) (by have:=(qfo tup xs).2;have:=d.o.xfew;omega)) (fun a' n' c' h=>by
   cases e:ag a'.block with
   |none=>rfl
   |some U=>
    exfalso;have h1:=ak.o.lt a'.block U e;have h2:=cl.o a'.block (by
     rcases bM.2 with ⟨e1,_⟩ |⟨g',cap,cur,e1,_⟩
     ·rw [e1]at h;cases h
     ·rw [e1]at h;injection h with h1 _ _
      injection h1 with h1
      rw [e1,←h1];simp [Value.ownBlock])
    omega)
  have ba:=qyv (c:=c) (pr:=pr) (tup:=tup) (xs:=tup.foldl qo xs) (fun u s hu hs=>qev.2 (.inl (d.o.texts _ s (qcr.1 hu).1 hs))) (fun s hs=>qev.2 (.inr hs));rw [ba.1,ba.2]at aU;obtain⟨i6,ds⟩: ∃i,(qie tup.length ((qv c pr tup.length).map (qaa (tup.foldl qo xs))) (qaa (tup.foldl qo xs) tup)).1=i:=⟨_,rfl⟩;rw [ds]at aU;clear ds;obtain⟨av,cv,rfl⟩:=qi a6.o;clear bM dj bN ba;refine hd2 ?_ aU cw;clear aU cw;intro ci eg;gi_wp2;refine⟨wF,rfl,(zU.2 ci.o).mono ?_⟩;rintro e W6 ⟨rfl,k6,rt,eK,dk,b3,bi⟩;obtain⟨af,bc,aN⟩:=q8v (n0:=n0) ao.o hS d.o pr tup dr du bU.o bG.o c2.o ae.o ak.o ap.o y.o c6.o co.o bD.o k6 dk b3 bi;have u5:=qb af 5 _ rfl;have dT:=qg af 5;have bH:=qb af 0 _ rfl;have cr:=qg af 0;have eG:=qe af;have b7:=qaj 5 (.int .i64 ((c.length:Int)+1)) af;have bI:=qb b7 0 _ rfl;have cs:=qg b7 0;simp only [zD]at u5 bH bI;have dp:(c.length:Int)+1<=67108864:=wA
  clear k6 dk b3 bi af b7;by_cases hf:(⟨pr,tup⟩:qj)∈c
  ·have aE:=bc hf;have hA:qen okF c ⟨pr,tup⟩=c:=zF (fun h=>h.2 hf);have hd:decide (okF ⟨pr,tup⟩=true/\(⟨pr,tup⟩:qj)∉c)=false:=zM (fun h=>h.2 hf);have aC:decide ((⟨pr,tup⟩:qj)∉c)=false:=zM (fun h=>h hf);rw [aC];have aD:decide ((⟨pr,tup⟩:qj)∈c)=true:=zS hf;clear hf bc aN aC bI cs dp u5 dT zq z5 dB;refine hd6 ?_ aE hA hd aD bH cr;clear aE hA hd aD bH cr;intro aJ ch dL aI cL cT;gi_wp2;exact qhj cL.o cT.o (qcn (xa rfl _ _ _) ⟨by rw [aI.o];rfl,{g with st:=g.with S c,tag:=qce g.tag S R rt cF},aJ.o,by rw [ch.o],rfl⟩)
  ·have aE:=aN hf;have hA:qen okF c ⟨pr,tup⟩=c++ [⟨pr,tup⟩]:=zI ⟨a4.o,hf⟩;have hd:decide (okF ⟨pr,tup⟩=true/\(⟨pr,tup⟩:qj)∉c)=true:=zS ⟨a4.o,hf⟩;have aC:decide ((⟨pr,tup⟩:qj)∉c)=true:=zS hf;rw [aC];have aD:decide ((⟨pr,tup⟩:qj)∈c)=false:=zM hf;clear hf bc aN aC zq z5 dB bH cr;clear dp;refine hd6 ?_ aE hA hd aD bI cs;clear aE hA hd aD bI cs;intro aJ ch dL aI cM cU;gi_wp2;exact qhj cM.o cU.o (qcn (xa rfl _ _ _) ⟨by rw [aI.o];rfl,{g with st:=g.with S (c++ [⟨pr,tup⟩]),tag:=qce g.tag S R rt cF},aJ.o,by rw [ch.o],rfl⟩)
end Go.Proofs
namespace Go.Proofs
open Go.RowKit Go.Ink R4
attribute [local go_sem] Oper.semAt_some
structure SlotD where
 place:Int
 text:ByteArray
def SlotD.val (s:SlotD):Value:=.agg #[.int .i64 s.place,.string s.text]
def qkv (w:World)(b o:Nat)(s:SlotD):Prop:=w.cell? ⟨b,o,none⟩=some (.int .i64 s.place)/\w.cell? ⟨b,o+1,none⟩=some (.string s.text)
abbrev q8w (n:Nat)(w:World)(v:Value)(ss:List SlotD):Prop:=SliceIn n w 2 qkv v ss
def qej (vals:List ByteArray)(s:SlotD):ByteArray:=if s.place<0 then s.text else vals.getD s.place.toNat ⟨#[]⟩
structure ValsAt (w:World)(Bv V:Nat)(vals:List ByteArray):Prop where
 box:w.heap[Bv]?=some (.cells #[.slice (some ⟨V,0,none⟩) vals.length vals.length] 60 (0,0))
 row:w.heap[V]?=some (.cells (vals.map Value.string).toArray 9 (0,0))
theorem ValsAt.keep {w w':World}{Bv V:Nat}{vals:List ByteArray}{C:Nat->Prop}(h:ValsAt w Bv V vals)(hK:Keep C w w')(b:C Bv)(c:C V):ValsAt w' Bv V vals:=⟨hK.heap h.box b,hK.heap h.row c⟩
theorem ValsAt.cell {w:World}{Bv V:Nat}{vals:List ByteArray}(h:ValsAt w Bv V vals){p:Nat}{s:ByteArray}(b:vals[p]?=some s):w.cell? ⟨V,p,none⟩=some (.string s):=by
 have:=qb h.row p (.string s) (by simp [zP,b])
 simpa using this
theorem qth (n:Nat)(h:n<=1073741824)(u:World):(Instr.makeSlice 60 (.int .i64 0) (.int .i64 (n:Int))).run prog u=
  .ok (.slice (some ⟨u.heap.size,0,none⟩) 0 n) (u.alloc (.cells (Array.replicate n (Value.string ⟨#[]⟩)) 9)):=by
 obtain⟨i0,hi,b,c,d⟩:=info_parts qwc;have h:=run_make (P:=prog) u 60 9 i0 (.string ⟨#[]⟩) Tryz.underlying60 hi b .i64 .i64 (0:Int) (n:Int) wA wA (by rw [d];omega) wA
 simpa [c,Value.cells,qs5]using h
theorem qrb {w:World}{Bv V:Nat}{vals:List ByteArray}(h:ValsAt w Bv V vals)(hl:vals.length<=1073741824)(s:SlotD)(hs:s.place<vals.length):
  Calls prog 120 #[s.val,qk Bv] w fun e w'=>e=.returned (.string (qej vals s))/\wE w w':=by
 obtain⟨p,t⟩:=s;simp only at hs;unfold SlotD.val qej;simp only;obtain⟨N,l⟩:=ex (w.heap.size);obtain⟨W0,b⟩:=ex (w.alloc (.cells #[.int .i64 p,.string t] 132));have m:wE w W0:=by rw [←b];exact kAl
 have q:W0.heap[N]?=some (.cells #[.int .i64 p,.string t] 132 (0,0)):=by rw [←b,←l];exact qh _ _
 have x:=qb q 0 _ rfl;have y:=qb q 1 _ rfl;have u:=qe q;simp only [zD]at x y;by_cases R:p<0
 ·rw [zI R];refine hd4 ?_ h m b l;clear h m b l;intro U g c d
  go_enter Tryz.func120,Tryz.ntmps120
  go_wp2_with fail;rw [c.o,d.o];go_wp2_with fail;go_ret;exact⟨rfl,g.o⟩
 ·rw [zF R];obtain⟨k,rfl⟩: ∃k:Nat,p=(k:Int):=⟨p.toNat,wA⟩;obtain⟨s,v⟩: ∃s,vals[k]?=some s:=⟨_,zB wA⟩;have z:vals.getD ((k:Int)).toNat ⟨#[]⟩=s:=by rw [zJ];simp [v]
  rw [z];have Y:=qb h.box 0 _ rfl;have d1:=h.cell v;have aa:=qe h.box;have ab:=qe h.row;have ad:(0:Int)<=k:=wA
  simp only [zD]at Y;clear z v q x y u;refine hd4 ?_ h m b l;clear h m b l;intro U g c d
  go_enter Tryz.func120,Tryz.ntmps120
  go_wp2_with fail;go_ret;exact⟨rfl,kAl⟩
theorem qo4 {w:World}{Bt Bv V:Nat}{vals:List ByteArray}(ht:w.heap[Bt]?=some (.cells #[.func (.func 120) #[] #[qk Bv]] 188 (0,0)))(h:ValsAt w Bv V vals)(hl:vals.length<=1073741824)(m:Nat)(v:Value)(ss:List SlotD)(ar:q8w m w v ss)(hm:m<=w.heap.size)(aq: ∀s,s∈ss->s.place<vals.length):
  Calls prog 121 #[v,qk Bt] w fun e w'=> ∃vo,e=.returned vo/\w'.ownsRow w.heap.size 9 1 vo ss.length ((ss.map (qej vals)).map .string)/\wE w w':=by
 obtain⟨a,c,rfl,aF,a4,ak⟩:=id ar;obtain⟨B,hB⟩:=ex (w.heap.size);obtain⟨W0,l⟩:=ex (w.alloc (.cells (Array.replicate ss.length (Value.string ⟨#[]⟩)) 9));have k0:wE w W0:=by rw [←l];exact kAl
 have z0:W0.heap.size=w.heap.size+1:=by rw [←l];simp
 have q0:W0.ownsRow w.heap.size 9 1 (.slice (some ⟨w.heap.size,0,none⟩) 0 ss.length) 0 []:=by
  rw [←l];exact xe w _ ss.length (zG _) (by simp only [maxLen];omega) wC
 have aG:=fun u=>qth ss.length aF u;rw [hB]at q0 z0;clear ar;refine hd8 ?_ ak k0 q0 l hB h ht aq;clear ak k0 q0 l hB h ht aq;intro ad aA aB aa d Xh t ah
 go_enter Tryz.func121,Tryz.ntmps121
 go_wp2_with fail;rw [aa.o,d.o];clear aG
 go_loopw [4,12] (fun x6 i' wr=> ∃k:Nat,k<=ss.length/\i'=.int .i64 (k:Int)/\wr.ownsRow B 9 1 x6 k (((ss.take k).map (qej vals)).map .string)/\Keep (fun b=>b<B) w wr) (fun _ i _=>ss.length-(intOf i).toNat)
 case atStart=>exact⟨0,wA,rfl,aB.o,aA.o.mt⟩
 case round=>
  obtain⟨k,hk,rfl,ho,hK⟩:=hrel;have a8:=hK.size;by_cases am:k<ss.length
  ·have aQ:(k:Int)<ss.length:=by omega
   have a5:(0:Int)<=k:=wA
   obtain⟨s,hs⟩: ∃s,ss[k]?=some s:=⟨_,zB am⟩;obtain⟨b,o,rfl,a0,y⟩:=ad.o k s hs;have a2:wr.cell? ⟨b,o+k*2,none⟩=some (.int .i64 s.place):=hK.cell y.1 (by have:=d.o;simp only;omega);have a3:wr.cell? ⟨b,o+k*2+1,none⟩=some (.string s.text):=hK.cell y.2 (by have:=d.o;simp only;omega);have a1:b<wr.heap.size:=by have:=d.o;omega
   have a9:=qe t.o;have an:((ss.take (k+1)).map (qej vals)).map Value.string=((ss.take k).map (qej vals)).map Value.string++ [.string (qej vals s)]:=by rw [zh,hs];simp
   obtain⟨W1,p⟩:=ex (wr.alloc (.cells #[.int .i64 s.place,.string s.text] 132));obtain⟨N,hN⟩:=ex (wr.heap.size);have k1:wE wr W1:=by rw [←p];exact kAl
   have q1:W1.heap[N]?=some (.cells #[.int .i64 s.place,.string s.text] 132 (0,0)):=by rw [←p,←hN];exact qh _ _
   have e0:=qb q1 0 _ rfl;have e1:=qb q1 1 _ rfl;have x:Keep (fun b=>b<B) w W1:=hK.trans k1.mt;have aH:=qb (hK.heap t.o (by have:=d.o;omega)) 0 _ rfl;have aP:=qe (hK.heap t.o (by have:=d.o;omega));simp only [zD]at aH;clear e0 e1;have au:ValsAt W1 Bv V vals:=Xh.o.keep x (by have:=qe Xh.o.box;have:=d.o;omega) (by have:=qe Xh.o.row;have:=d.o;omega);have R:=qrb au hl s (ah.o s (zH hs));have ao:=qf ho k1 (fun _ _=>wF);obtain⟨a6,c6,rfl⟩:=qi ho;unfold SlotD.val at R;clear y hs au k1 q1 ho;refine hd7 ?_ R hK x ao an p hN;clear R hK x ao an p hN;intro ai U q af ae ab aW;go_wp2_with fail;rw [ab.o];refine ai.o.mono ?_;rintro e W2 ⟨rfl,k2⟩;have z:=qf af.o k2 (fun _ _=>wF);obtain⟨v',W6,hr,ap,k6,g,cap,hv,aE,al⟩:=qc3 (P:=prog) qef 60 z [.string (qej vals s)] rfl (by simp [Value.oneCell']) wA (by have:=k2.size;have:=q.o.size;have:=d.o;omega);subst hv;have aj:Keep (fun b=>b<B) w W6:=(q.o.trans k2.mt).trans (k6.mono fun b _ (hb:b<B) e=>by have:=(zE z b e.symm).1;omega);clear k2 k6 z aE;refine hd4 ?_ hr ap aj al;clear hr ap aj al;intro az ag Y aM;go_wp2_with (at_builtin;refine qbo (v:=.slice a6 k c6) (u:=.slice (some ⟨W2.heap.size,0,none⟩) 1 1) (v':=.slice (some ⟨g,0,none⟩) (k+1) cap) (w':=W6) rfl (.tmp 16) (.tmp 20) 60 rfl rfl rfl az.o ?_);go_roundw
   case rel=>
    refine⟨k+1,wA,by go_num,?_,Y.o⟩;rw [ae.o];exact ag.o
   case measure=>simp [intOf];omega
  ·obtain rfl:k=ss.length:=by omega
   rw [zi]at ho;obtain⟨a6,c6,rfl⟩:=qi ho;clear am;refine hd2 ?_ ho hK;clear ho hK;intro ay U;go_wp2_with fail;go_ret;exact⟨_,rfl,ay.o.mono (by have:=d.o;omega),U.o.mono fun b hb _=>by have:=d.o;omega⟩
end Go.Proofs
