/- Parts of the proof. -/
import Derived.Test.YtnponcjnahicnaaGreatDoorRelJToRelL
set_option linter.unusedSimpArgs false
set_option linter.unusedVariables false
set_option maxRecDepth 100000
open Go.Proofs.Tryz(prog)
open List(find?_some flatten_cons getElem?_zipIdx length_cons length_singleton nodup_nil zipIdx_append)
namespace Go.Proofs.R4
open Go.RowKit Go.Ink
attribute [local go_sem] Oper.semAt_some
def qdt (ts:List (List Int)):List (List Int×Nat):=ts.zipIdx.map fun p=>(qay p.1,p.2)
abbrev qj (b:Nat):Value:=.pointer (some ⟨b,0,none⟩)
abbrev qta (w:World)(b:Nat)(m:List (List Int×Nat)):Prop:=MapIn prog 214 qgu qhy w b m
abbrev qvy (w:World)(b:Nat)(m:List (List Bool×Nat)):Prop:=MapIn prog 217 qhx qj w b m
structure RelG (tag:qbu)(w:World)(B n:Nat)(ts:List (List Int))(tsl:List Bool->List (List Int))(vD:Value)(P K:Nat)(lm:List (List Bool×Nat)):Prop where
 tagB:tag B=some .box
 box:w.heap[B]?=some (.cells (qet n vD ts.length P K).toArray 209 (0,0))
 n16:n<=16
 nodup:ts.Nodup
 right: ∀t∈ts,qc1 n t=true
 ok: ∀t∈ts,okT t
 own:w.ownsRow 0 3 1 vD ts.flatten.length (ts.flatten.map (.int .i64))
 tagD: ∀b,vD.ownBlock=some b->tag b=some .data
 tagP:tag P=some .pmap
 pmap:qta w P (qdt ts)
 tagK:tag K=some .kmap
 kmap:qvy w K lm
 looks: ∀c L,(c,L)∈lm-> ∃l vl M m,LookAt tag w n (tsl c) c L l vl M m
 ents: ∀b c,qbw (tag b)=some c-> ∃L,(c,L)∈lm
 lt: ∀b T,tag b=some T->b<w.heap.size
abbrev qb5 (tag:qbu)(w:World)(B n:Nat)(ts:List (List Int))(vD:Value)(P K:Nat)(lm:List (List Bool×Nat)):Prop:=RelG tag w B n ts (fun _=>ts) vD P K lm
theorem RelG.keep {tag:qbu}{w w':World}{B n:Nat}{ts:List (List Int)}{f:List Bool->List (List Int)}{vD:Value}{P K:Nat}{lm:List (List Bool×Nat)}{C:Nat->Prop}(h:RelG tag w B n ts f vD P K lm)(hK:Keep C w w')(i: ∀b T,tag b=some T->b<w.heap.size->C b):RelG tag w' B n ts f vD P K lm:=by
 have d: ∀b T,tag b=some T->C b:=fun b T e=>i b T e (h.lt b T e);refine⟨h.tagB,hK.heap h.box (d _ _ h.tagB),h.n16,h.nodup,h.right,h.ok,qf h.own hK (fun b e=>d _ _ (h.tagD b e)),h.tagD,h.tagP,h.pmap.keep hK (d _ _ h.tagP),h.tagK,h.kmap.keep hK (d _ _ h.tagK),fun c L g=>?_,h.ents,fun b T e=>zk (h.lt b T e) hK.size⟩;obtain⟨l,k,M,m,j⟩:=h.looks c L g;refine⟨l,k,M,m,j.keep hK (fun b e=>?_) (fun _ _=>rfl) (fun _ _=>rfl)⟩;cases hT:tag b with
 |none=>rw [hT] at e;cases e
 |some T=>exact d b T hT
theorem RelG.len {tag:qbu}{w:World}{B n:Nat}{ts:List (List Int)}{b:List Bool->List (List Int)}{vD:Value}{P K:Nat}{lm:List (List Bool×Nat)}(h:RelG tag w B n ts b vD P K lm): ∀t∈ts,t.length=n:=fun t c=>by
 have:=h.right t c;simp only [qc1,zV,zT]at this;exact this.1
theorem qxk (n:Nat)(i:n<=16)(w:World):Calls prog 91 #[.int .i64 n] w fun e w'=>e=.returned (.tuple #[.pointer (some ⟨w.heap.size+2,0,none⟩),.int .i64 0])/\wD w w'/\
  ∃tag P K,qb5 tag w' (w.heap.size+2) n [] (.slice none 0 0) P K []/\ ∀b T,tag b=some T->w.heap.size<=b:=by
 have j:(0:Int)<=n:=xz
 have k:(n:Int)<=16:=xz
 have l: ¬((n:Int)<0):=xz
 have m: ¬((16:Int)<n):=xz
 have g:= @run_makeMap prog
 go_enter Tryz.func91,Tryz.ntmps91
 go_wp2
 go_ret2
 refine⟨rfl,(kAl.trans kAl).trans kAl,fun b=>if b=w.heap.size then some .pmap else if b=w.heap.size+1 then some .kmap else if b=w.heap.size+2 then some .box else none,⟨w.heap.size,w.heap.size+1,?_⟩,?_⟩
 ·refine⟨wB,?_,i,nodup_nil,fun t f=>(by cases f),fun t f=>(by cases f),zj _ _ _ _,fun b d=>(by simp [Value.ownBlock] at d),wB,?_,wB,?_,fun c L h=>(by cases h),fun b c d=>?_,fun b T d=>?_⟩
  ·simp only [qah,zO];simp [qet]
  ·exact((qhf w).keep (Keep.alloc (fun _=>True) _ _) wE).keep (Keep.alloc (fun _=>True) _ _) trivial
  ·have:=(qhf (P:=prog) (K:=217) (ek:=qhx) (ev:=qj) (w.alloc (.map #[] 0))).keep (Keep.alloc (fun _=>True) _ (.cells (qet n (.slice none 0 0) 0 w.heap.size (w.heap.size+1)).toArray 209)) trivial
   simpa [qet]using this
  ·split at d
   ·cases d
   ·split at d
    ·cases d
    ·split at d<;>cases d
  ·simp only [zO];split at d
   ·omega
   ·split at d
    ·omega
    ·split at d
     ·omega
     ·cases d
 ·intro b T d
  replace d:(if b=w.heap.size then some Tag.pmap else if b=w.heap.size+1 then some Tag.kmap else if b=w.heap.size+2 then some Tag.box else none)=some T:=d
  split at d
  ·omega
  ·split at d
   ·omega
   ·split at d
    ·omega
    ·cases d
theorem qvz {n:Nat}: ∀{ts:List (List Int)} (h: ∀t∈ts,t.length=n) {i:Nat} {t:List Int} (hi:ts[i]?=some t) {k:Nat} {x:Int} (hk:t[k]?=some x),ts.flatten[i*n+k]?=some x
 | [],_,i,t,hi,_,_,_=>by simp at hi
 |s::ts,h,0,t,hi,k,x,hk=>by
  simp at hi;subst hi;rw [flatten_cons,Nat.zero_mul,zD,yQ (zA.1 hk).1];exact hk
 |s::ts,h,i+1,t,hi,k,x,hk=>by
  have hs:s.length=n:=h s wB;rw [flatten_cons,yG (by rw [hs,Nat.succ_mul];omega),hs];have:(i+1)*n+k-n=i*n+k:=by rw [Nat.succ_mul];omega
  rw [this];exact qvz (fun t b=>h t (by simp [b])) (by simpa using hi) hk
theorem qn2 {n:Nat}: ∀{ts:List (List Int)} (h: ∀t∈ts,t.length=n),ts.flatten.length=ts.length*n
 | [],_=>wB
 |s::ts,h=>by
  rw [flatten_cons,zR,qn2 (fun t ht=>h t (by simp [ht])),h s wB,length_cons,Nat.succ_mul];omega
theorem qqv {tag:qbu}{w:World}{B n:Nat}{ts:List (List Int)}{vD:Value}{P K:Nat}{lm:List (List Bool×Nat)}(h:qb5 tag w B n ts vD P K lm)(hl:ts.length<=536870912)(i:Nat)(t:List Int)(hi:ts[i]?=some t):
  Calls prog 180 #[.pointer (some ⟨B,0,none⟩),.int .i64 (i:Int)] w fun e w'=> ∃v,e=.returned v/\wD w w'/\w'.heap.size=w.heap.size/\qan w.heap.size w v t/\t.length=n:=by
 have m:t.length=n:=h.len t (zH hi);have z:=(zA.1 hi).1;have hn:=h.n16;have hB:=qe h.box;have X:=qn2 h.len;have U:(i+1)*n<=ts.length*n:=yV n z;have u:ts.length*n<=536870912*16:=Nat.mul_le_mul hl hn;have Y:(i+1)*n=i*n+n:=Nat.succ_mul i n;have c0:=qb h.box 0 _ rfl;have c1:=qb h.box 1 _ rfl;simp only [zD]at c0 c1;obtain⟨y,d,b,rfl,R,ar⟩: ∃y d b,vD=.slice y d b/\d=ts.flatten.length/\d<=b:=by
  rcases h.own.2 with ⟨e1,e2⟩ |⟨g,cap,cur,e1,e2,e3,e4,e5,_⟩
  ·exact⟨none,0,0,e1,e2.symm,zG _⟩
  ·exact⟨_,_,_,e1,rfl,e4⟩
 obtain⟨lo,s⟩:=ex (i*n);have b0:(0:Int)<=lo:=xz
 have b1:(lo:Int)<=lo+n:=xz
 have b2:(lo:Int)+n<=b:=xz
 have b3:(lo:Int)+n<=8589934592:=xz
 have b4:(lo:Int)<=8589934592:=xz
 have b5:(i:Int)*(n:Int)=lo:=by rw [←s];simp
 have b6:((i:Int)+1)*(n:Int)=lo+n:=by rw [Int.add_mul,b5];omega
 have b7:(i:Int)+1<=536870912:=xz
 have b8:(0:Int)<=i:=xz
 have b9:(lo:Int)+n-lo=n:=xz
 have c:qan w.heap.size w (.slice (if lo+n=lo then y else y.map (·.add (lo*1))) n n) t:=by
  refine⟨_,n,by rw [m],xz,⟨xz,by simp only [maxLen];omega⟩,fun k x hk=>?_⟩;have au:=(zA.1 hk).1;rw [zF xz];have hf:=qvz h.len hi hk;have p:=h.own;rw [←R]at p;rcases p.2 with ⟨e1,e2⟩ |⟨g,cap,cur,e1,e2,e3,e4,e5,_⟩
  ·have:=(zA.1 hf).1;omega
  ·injection e1 with q1 q2 q3
   subst q1;have:=qau p (lo+k) (.int .i64 x) (by rw [←s,zP,hf];rfl);refine⟨g,lo,by simp [Addr.add];exact fun e=>e.symm,qe e3,?_⟩
   simpa [qe8]using this
 have j:n=0->qan w.heap.size w (.slice y 0 0) t:=fun h0=>by subst h0;simpa using c
 have l: ¬n=0->qan w.heap.size w (.slice (y.map (·.add lo)) n n) t:=fun h0=>by
  rw [zF xz,yA]at c;exact c
 clear hi z X U u Y R c;refine hd4 ?_ h j l m;clear h j l m;intro Xh q r f
 go_enter Tryz.func180,Tryz.ntmps180
 go_wp2_with fail
 go_region
 clear b0 b1 b2 b3 b4 b5 b6 b7 b8 b9 s c0 c1;go_wp2_with fail
 all_goals go_ret
 ·exact⟨_,rfl,kDr,rfl,q.o xz,f.o⟩
 ·exact⟨_,rfl,kDr,rfl,r.o xz,f.o⟩
end Go.Proofs.R4
namespace Go.Proofs.R4
open Go.RowKit Go.Ink
theorem qu2 (ts:List (List Int))(t:List Int):qdt (ts++ [t])=qdt ts++ [(qay t,ts.length)]:=by
 simp [qdt,zipIdx_append]
theorem qk8 (ts:List (List Int))(i:Nat):(qdt ts)[i]?=(ts[i]?).map fun t=>(qay t,i):=by
 simp only [qdt,zP,getElem?_zipIdx,Option.map_map,zD];cases ts[i]?<;>rfl
theorem qu3 {ts:List (List Int)}{t:List Int}{i:Nat}(h:qeg ts t=some i):ts[i]?=some t:=by
 have:=find?_some h
 simpa using this
theorem qj7 {ts:List (List Int)}{t:List Int}(h:qeg ts t=none):t∉ts:=by
 intro b;obtain⟨i,hi⟩:=zw.1 b;have:=ym.1 h i (by rw [yh];exact(zA.1 hi).1);simp [hi]at this
theorem qo7 {n:Nat}{ts:List (List Int)}{t:List Int}(c: ∀s∈ts,s.length=n)(l:t.length=n)(f:((qdt ts).map (·.1)).Nodup):qct (qdt ts) (qay t)=qeg ts t:=by
 cases h:qeg ts t with
 |some i=>
  have d:=qu3 h;exact qns f (j:=i) (p:=(qay t,i)) (by rw [qk8,d];rfl)
 |none=>
  refine qkq fun g=>?_;obtain⟨p,k,e⟩:=yK.1 g;obtain⟨i,hi⟩:=zw.1 k;rw [qk8]at hi;cases b:ts[i]? with
  |none=>rw [b] at hi;cases hi
  |some s=>
   rw [b]at hi;simp only [Option.map_some,yb]at hi;subst hi;have:s=t:=qpm e ((c s (zH b)).trans l.symm);subst this;exact qj7 h (zH b)
theorem qk9 {n:Nat}{t:List Int}(h:qc1 n t=true):t.length=n:=by
 simp only [qc1,zV,zT]at h;exact h.1
def TagNew (tag tag':qbu)(w:World):Prop:= ∀b T,tag' b=some T->(∃T',tag b=some T')∨w.heap.size<=b
theorem TagNew.refl (tag:qbu)(w:World):TagNew tag tag w:=fun b T h=>.inl ⟨T,h⟩
theorem TagNew.trans {s t u:qbu}{w w':World}(h:TagNew s t w)(g:TagNew t u w')(d:w.heap.size<=w'.heap.size):TagNew s u w:=fun b T c=>by
 rcases g b T c with ⟨T',h1⟩ |h1
 ·exact h b T' h1
 ·exact .inr xz
theorem TagStep.newT {c:List Bool}{tag tag':qbu}{w w':World}(h:TagStep c tag tag' w w'):TagNew tag tag' w:=fun b T d=>by
 rcases yX b w.heap.size with hl |hl
 ·cases hT:tag b with
  |some T'=>exact .inl ⟨T',rfl⟩
  |none=>
   have:=h.old b hl (by rw [hT];exact fun e=>(by cases e));rw [d,hT]at this;cases this
 ·exact .inr hl
theorem q4i {tag:qbu}{w w1 w2 w3 w4:World}{B n:Nat}{ts:List (List Int)}{vD f:Value}{P K:Nat}{lm:List (List Bool×Nat)}(h:qb5 tag w B n ts vD P K lm){t:List Int}(hr:qc1 n t=true)(ak:okT t)(ad:qeg ts t=none)
  (aa:Keep (fun b=>b<w.heap.size) w w1) (hm:qta w2 P (setK (qdt ts) (qay t) ts.length)) (ab:Keep (fun b=>b≠P) w1 w2) (ho:w3.ownsRow 0 3 1 f (ts.flatten.length+t.length) (ts.flatten.map (.int .i64)++t.map (.int .i64)))
  (hg: ∀g,f.ownBlock=some g->vD.ownBlock=some g∨w2.heap.size<=g) (z:Keep (fun b=>f.ownBlock≠some b) w2 w3) (d:w4.heap[B]?=some (.cells (qet n f (ts.length+1) P K).toArray 209 (0,0))) (y:Keep (fun b=>b≠B) w3 w4):
  ∃tag',RelG tag' w4 B n (ts++ [t]) (fun _=>ts) f P K lm/\TagLe tag tag'/\TagNew tag tag' w/\Keep (fun b=>tag b=none) w w4/\(∀b,f.ownBlock≠some b->tag' b=tag b):=by
 have hw:w.heap.size<=w1.heap.size:=aa.size;have ax:=ab.size;have ay:=z.size;have az:=y.size;have u: ∀g,f.ownBlock=some g->(tag g=some .data∨(tag g=none/\w2.heap.size<=g))/\g<w3.heap.size:=fun g Y=>by
  refine⟨?_,(zE ho g Y).2⟩;rcases hg g Y with j |j
  ·exact .inl (h.tagD g j)
  ·refine .inr ⟨?_,j⟩;cases hT:tag g with
   |none=>rfl
   |some T=>have:=h.lt g T hT;omega
 have r:Keep (fun b=>b<w.heap.size/\b≠P/\f.ownBlock≠some b/\b≠B) w w4:=(aa.mono fun b _ h=>h.1).trans ((ab.mono fun b _ h=>h.2.1).trans ((z.mono fun b _ h=>h.2.2.1).trans (y.mono fun b _ h=>h.2.2.2)));have v: ∀b T,tag b=some T->T≠.data->f.ownBlock≠some b:=fun b T d hT e=>by
  rcases(u b e).1 with j |⟨j,_⟩
  ·rw [d]at j;cases j;exact hT rfl
  ·rw [d]at j;cases j
 have x: ∀b T,tag b=some T->T≠.data->T≠.pmap->T≠.box->b<w.heap.size/\b≠P/\f.ownBlock≠some b/\b≠B:=fun b T d j h2 h3=>
  ⟨h.lt b T d,fun e=>h2 (by rw [e,h.tagP] at d;cases d;rfl),v b T d j,fun e=>h3 (by rw [e,h.tagB] at d;cases d;rfl)⟩
 have q: ∀b,f.ownBlock≠some b->(fun b=>if f.ownBlock=some b then some Tag.data else tag b) b=tag b:=fun b d=>zF d;refine⟨fun b=>if f.ownBlock=some b then some .data else tag b,?_,?_,?_,?_,q⟩
 ·refine⟨(q B (v B _ h.tagB (fun e=>(by cases e)))).trans h.tagB,?_,h.n16,?_,?_,?_,?_,?_,(q P (v P _ h.tagP (fun e=>(by cases e)))).trans h.tagP,?_,(q K (v K _ h.tagK (fun e=>(by cases e)))).trans h.tagK,?_,?_,?_,?_⟩
  ·rw [zR,length_singleton];exact d
  ·rw [xV];exact⟨h.nodup,wB,fun a ha b d e=>qj7 ad (by simp at d;subst d;rw [←e];exact ha)⟩
  ·intro s k;rcases zn.1 k with k |k
   ·exact h.right s k
   ·simp at k;subst k;exact hr
  ·intro s k;rcases zn.1 k with k |k
   ·exact h.ok s k
   ·simp at k;subst k;exact ak
  ·have:=qf ho y (fun b X e=>by rw [e] at X;exact v B _ h.tagB (fun e=>(by cases e)) X)
   simpa using this
  ·intro b d;exact zI d
  ·have R:qay t∉(qdt ts).map (·.1):=fun aj=>by
    obtain⟨p,hp,he⟩:=yK.1 aj;obtain⟨i,hi⟩:=zw.1 hp;rw [qk8]at hi;cases k:ts[i]? with
    |none=>rw [k] at hi;cases hi
    |some s=>
     rw [k]at hi;simp only [Option.map_some,yb]at hi;subst hi;have:s=t:=qpm he ((h.len s (zH k)).trans (qk9 hr).symm);subst this;exact qj7 ad (zH k)
   have ae:setK (qdt ts) (qay t) ts.length=qdt (ts++ [t]):=by
    rw [qu2];unfold setK;rw [zF R]
   rw [←ae];exact(hm.keep z (v P _ h.tagP (fun e=>(by cases e)))).keep y (fun e=>by have:=h.tagP;rw [e,h.tagB] at this;cases this)
  ·exact h.kmap.keep r (x K _ h.tagK (fun e=>(by cases e)) (fun e=>(by cases e)) (fun e=>(by cases e)))
  ·intro c L ai;obtain⟨l,vl,M,m,hl⟩:=h.looks c L ai;refine⟨l,vl,M,m,hl.keep r (fun b d=>?_) (fun b d=>?_) (fun b d=>?_)⟩
   ·cases hT:tag b with
    |none=>rw [hT] at d;cases d
    |some T=>
     rw [hT]at d;exact x b T hT (fun e=>by subst e;cases d) (fun e=>by subst e;cases d) (fun e=>by subst e;cases d)
   ·refine q b fun e=>?_;rcases(u b e).1 with j |⟨j,_⟩<;>(rw [j] at d;cases d)
   ·by_cases e:f.ownBlock=some b
    ·simp only [zI e]at d;cases d
    ·exact zF e
  ·intro b c d;by_cases e:f.ownBlock=some b
   ·simp only [zI e]at d;cases d
   ·simp only [zF e]at d;exact h.ents b c d
  ·intro b T d;by_cases e:f.ownBlock=some b
   ·have:=(u b e).2;omega
   ·simp only [zF e]at d;have:=h.lt b T d;omega
 ·intro b T d;by_cases e:f.ownBlock=some b
  ·rcases(u b e).1 with j |⟨j,_⟩
   ·rw [d]at j;cases j;exact .inl (zI e)
   ·rw [d]at j;cases j
  ·exact .inl (by rw [←d];exact zF e)
 ·intro b T d;by_cases e:f.ownBlock=some b
  ·rcases(u b e).1 with j |⟨_,j⟩
   ·exact .inl ⟨_,j⟩
   ·exact .inr xz
  ·simp only [zF e]at d;exact .inl ⟨T,d⟩
 ·refine⟨r.os,r.tape,r.output,r.size,fun b d U=>r.block b d ⟨d,fun e=>?_,fun e=>?_,fun e=>?_⟩⟩
  ·rw [e,h.tagP]at U;cases U
  ·rcases(u b e).1 with j |⟨_,j⟩
   ·rw [j]at U;cases U
   ·omega
  ·rw [e,h.tagB]at U;cases U
theorem RelG.to {tag:qbu}{w:World}{B n:Nat}{ts:List (List Int)}{d tsl':List Bool->List (List Int)}{vD:Value}{P K:Nat}{lm:List (List Bool×Nat)}(h:RelG tag w B n ts d vD P K lm)(e: ∀c L,(c,L)∈lm->d c=tsl' c):RelG tag w B n ts tsl' vD P K lm:=
 {h with looks:=fun c L b=>by rw [←e c L b];exact h.looks c L b}
theorem qv0 {n:Nat}{l:List Int}(h:qdf n l=true): ∀i,i<l.length->(i:Int)<=l.getD i 0
 |0,hi=>by
  have:=yL.1 h 0 (by simpa using hi);simp only [qhp,zV,zT]at this;exact this.1.1
 |i+1,hi=>by
  have:=yL.1 h (i+1) (by simpa using hi);simp only [qhp,zV,zT,y8,xB]at this;have c:=qv0 h i xz;rcases this.2 with h2 |h2
  ·omega
  ·have b:i+1-1=i:=by omega
   rw [b]at h2
   push_cast
   omega
theorem qn3 {n:Nat}{l:List Int}(h:qdf n l=true):l.length<=n:=by
 rcases Nat.eq_zero_or_pos l.length with h0 |h0
 ·omega
 ·have b:=qv0 h (l.length-1) xz;have:=yL.1 h (l.length-1) (by simp;omega);simp only [qhp,zV,zT]at this;omega
theorem q2h {tag tag':qbu}{w w':World}{B n:Nat}{ts:List (List Int)}{v tsl':List Bool->List (List Int)}{vD:Value}{P K:Nat}{lm:List (List Bool×Nat)}(h:RelG tag w B n ts v vD P K lm){c:List Bool}{L:Nat}(hc:(c,L)∈lm)(X:tsl' c=ts)(Y: ∀c',c'≠c->tsl' c'=v c')
  {l:List Int} {vl:Value} {M:Nat} {m:List (List Int×Value)} (hl:LookAt tag' w' n ts c L l vl M m) (s:TagStep c tag tag' w w') (u:Keep (fun b=>qbw (tag b)≠some c) w w'):RelG tag' w' B n ts tsl' vD P K lm:=by
 have hold: ∀b T,tag b=some T->qbw (some T)≠some c->tag' b=some T:=fun b T d hT=>(s.old b (h.lt b T d) (by rw [d];exact hT)).trans d;have f: ∀b T,tag b=some T->qbw (some T)≠some c->qbw (tag b)≠some c:=fun b T d hT=>by rw [d];exact hT
 obtain⟨ae,c0,q1,q2,q3,q4,q5⟩:=id h.kmap;have q: ∀r,(c,r)∈lm->r=L:=fun r z=>by
  obtain⟨i,hi⟩:=zw.1 hc;obtain⟨j,R⟩:=zw.1 z;have x:(lm.map (·.1))[i]?=some c:=by rw [zP,hi];rfl
  have y:(lm.map (·.1))[j]?=some c:=by rw [zP,R];rfl
  have:=(xv (zA.1 x).1 q3).1 (x.trans y.symm);subst this;rw [hi]at R;cases R
  rfl
 refine⟨hold B _ h.tagB (fun e=>(by cases e)),u.heap h.box (f B _ h.tagB (fun e=>(by cases e))),h.n16,h.nodup,h.right,h.ok,qf h.own u (fun b d=>f b _ (h.tagD b d) (fun e=>(by cases e))),fun b d=>hold b _ (h.tagD b d) (fun e=>(by cases e)),hold P _ h.tagP (fun e=>(by cases e)),h.pmap.keep u (f P _ h.tagP (fun e=>(by cases e))),hold K _ h.tagK (fun e=>(by cases e)),h.kmap.keep u (f K _ h.tagK (fun e=>(by cases e))),?_,?_,fun b T d=>(s.new b T d).1⟩
 ·intro c' r t;by_cases p:c'=c
  ·subst p;rw [q r t,X];exact⟨_,_,_,_,hl⟩
  ·rw [Y c' p];obtain⟨l',aa,M',m',U⟩:=h.looks c' r t;refine⟨l',aa,M',m',U.keep u (fun b d=>by rw [d];exact fun e=>p (by injection e)) (fun b d=>?_) (fun b d=>?_)⟩
   ·cases hT:tag b with
    |none=>rw [hT] at d;cases d
    |some T=>exact hold b T hT (by rw [←hT,d];exact fun e=>p (by injection e))
   ·cases hT:tag b with
    |none=>
     cases g:tag' b with
     |none=>rfl
     |some T'=>
      rcases yX b w.heap.size with hlt |hge
      ·have:=s.old b hlt (by rw [hT];exact fun e=>(by cases e));rw [g,hT]at this;cases this
      ·have:=(s.new b T' g).2 hge;rw [←g,d]at this;exact absurd (by injection this) p
    |some T=>
     by_cases k:qbw (some T)=some c
     ·rcases s.le b T hT with h1 |⟨c2,k2,p2,p3,rfl,h1,_⟩
      ·rw [h1,k]at d;exact absurd (by injection d with d;exact d.symm) p
      ·rw [h1]at d;have x:c2=c:=by simpa [qbw] using k
       have y:c2=c':=by simpa [qbw] using d
       exact absurd (y.symm.trans x) p
     ·exact(hold b T hT k)
 ·intro b c' d;rcases s.ents b c' d with h1 |h1
  ·exact h.ents b c' h1
  ·subst h1;exact⟨L,hc⟩
end Go.Proofs.R4
