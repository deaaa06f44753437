/- Parts of the proof. -/
import Derived.Test.YtnponcjnahicnaaGreatDoorTbAToStF
set_option linter.unusedSimpArgs false
set_option linter.unusedVariables false
set_option maxRecDepth 100000
set_option maxHeartbeats 4000000
open Go.Proofs.Tryz(prog)
open List(all_eq_false append_toArray cons_append filter_congr filter_eq_nil_iff filter_nil find?_some getElem?_cons_zero getElem_idxOf length_cons length_nil length_singleton nil_append nodup_nil pairwise_iff_getElem push_toArray size_toArray take_append take_zero)
namespace Go.Proofs
open Go.RowKit Go.Ink R4 Go.MuLone
attribute [local go_sem] Oper.semAt_some
def qfg (l:List (List ByteArray))(t:List ByteArray):Option Nat:=(List.range l.length).find? fun i=>decide (l[i]?=some t)
theorem q60 {xs:List ByteArray}: ∀{a b:List ByteArray},(∀s,s∈a->s∈xs)->(∀s,s∈b->s∈xs)->qaa xs a=qaa xs b->a=b:=by
 intro a
 induction a with
 |nil=>
  intro b _ _ h;cases b with
  |nil=>rfl
  |cons y ys=>cases h
 |cons x a ih=>
  intro b e g h;cases b with
  |nil=>cases h
  |cons y ys=>
   unfold qaa at h;rw [yX,yX]at h;injection h with h1 h2
   have hi:xs.idxOf x=xs.idxOf y:=wA
   have m:=y9 (e x (yJ ..));have p:=y9 (g y (yJ ..));have:x=y:=by
    have d:xs[xs.idxOf x]?=some x:=by rw [zB m,getElem_idxOf]
    have l:xs[xs.idxOf y]?=some y:=by rw [zB p,getElem_idxOf]
    rw [hi,l]at d;cases d
    rfl
   rw [this,ih (fun s c=>e s (yD _ c)) (fun s c=>g s (yD _ c)) h2]
theorem qra {xs:List ByteArray}{l:List (List ByteArray)}{t:List ByteArray}(c: ∀u s,u∈l->s∈u->s∈xs)(e: ∀s,s∈t->s∈xs):qe7 (l.map (qaa xs)) (qaa xs t)=qfg l t:=by
 unfold qe7 qfg;rw [zL]
 congr 1
 funext i
 rw [zP];cases hi:l[i]? with
 |none=>simp
 |some u=>
  rw [Option.map_some];by_cases b:u=t
  ·subst b;simp
  ·rw [zM,zM]
   ·intro h;cases h;exact b rfl
   ·intro h;have h:=yI h;exact b (q60 (fun s d=>c u s (zH hi) d) e h)
theorem qo2 {l:List (List ByteArray)}{t:List ByteArray}(h:t∉l):qfg l t=none:=by
 unfold qfg;refine yn.2 fun i _ hi=>?_;exact h (zH (yE hi))
theorem qo3 {l:List (List ByteArray)}{t:List ByteArray}{i:Nat}(h:qfg l t=some i):l[i]?=some t:=by
 unfold qfg at h;have:=find?_some h;exact yE this
theorem qrt {xs t:List ByteArray}(d: ∀s,s∈t->s∈xs)(e:xs.length<=1073741824):okT (qaa xs t):=fun x b=>by
 unfold qaa at b;obtain⟨s,c,rfl⟩:=yL.1 b;have:=y9 (d s c);unfold okI;omega
theorem StParts.xl {tag:qde}{w:World}{S:Nat}{c:List qj}{T M MX:Nat}{vx:Value}{xs:List ByteArray}{b:List ((ByteArray×Nat)×Nat)}(h:StParts tag w S c T M MX vx xs b):xs.length<=1073741824:=by
 have:=h.xfew;have:=h.few;omega
theorem qv0 {w:World}{S T M n o t:Nat}{s:ByteArray}(h:w.heap[S]?=some (.cells (qe3 T M n).toArray t (0,0))):w.cell? ⟨S,o,none⟩≠some (.string s):=fun c=>by
 have:(qe3 T M n)[o]?=some (.string s):=by simpa [World.cell?,h] using c
 have b:=zH this;unfold qe3 at b;simp at b
theorem qn5 {m:Nat}{w w':World}{v:Value}{ss:List ByteArray}(h:qaf m w v ss)(hK:wE w w'):qaf m w' v ss:=h.mono fun b o s _ c=>hK.cell c trivial
theorem qxr (k:ByteArray×Nat)(v:Value)(w:World):Calls prog 95 #[.pointer none,qeg k,v] w fun e w'=>e=.returned (.tuple #[.int .i64 0,.bool false])/\wE w w':=by
 unfold qeg
 go_enter_defers Tryz.func95,Tryz.ntmps95
 go_wp2_with fail;refine(qrf _).mono ?_;rintro e c ⟨rfl,b⟩;have b:=b.symm;subst b;go_wp2_with fail;exact⟨_,xa rfl _ _ _,rfl,kAl⟩
theorem qxs {tag:qde}{w:World}{S:Nat}{c:List qj}(h:StoreAt tag w S c)(p:ByteArray)(n:Nat)(hp:p.size<=1073741824)(hn:n<=1073741824)(m:Nat)(v:Value)(t:List ByteArray)(ht:qaf m w v t)(hm:m<=w.heap.size)(a6: ∀s,s∈t->s.size<=1073741824):
  Calls prog 95 #[qk S,qeg (p,n),v] w fun e w'=>e=.returned (qld (qfg (qv c p n) t))/\wE w w':=by
 obtain⟨T,M,MX,vx,xs,rl,hP⟩:=h;obtain⟨W0,af⟩:=ex (w.alloc (.cells #[.string p,.int .i64 (n:Int)] 153));have k0:wE w W0:=by rw [←af];exact kAl
 have z0:W0.heap.size=w.heap.size+1:=by rw [←af];simp
 have q0:W0.heap[w.heap.size]?=some (.cells #[.string p,.int .i64 (n:Int)] 153 (0,0)):=by rw [←af];exact qh _ _
 have d:=hP.keep (tag':=tag) k0 (fun _ _ _=>wF) (fun _ _=>Iff.rfl);have a0:=qb d.box 0 _ rfl;have f0:=qg d.box 0;have bj:=qe d.box;have bk:=qe hP.box;obtain⟨W1,aj⟩:=ex (W0.setCell ⟨S,0,none⟩ (.int .i32 1));have k1:Keep (fun b=>b≠S) W0 W1:=by rw [←aj];exact kSc
 have y:=qaj 0 (.int .i32 1) d.box;rw [aj]at y;have a3:=qb y 4 _ rfl;have a2: ∀j,(W1.drewN j).cell? ⟨S,3,none⟩=some (qk T):=fun j=>by
  have:=qb ((Keep.drewN' (fun _=>True) W1 j).heap y wF) 3 _ rfl
  simpa using this
 have bi:=qe y;have q1:=k1.heap q0 wA;have b0:=qb q1 0 _ rfl;have b1:=qb q1 1 _ rfl;have bn:=qe q1;have aq:M≠S:=fun e=>by have:=d.tagM;rw [e,d.tagS] at this;cases this
 have hrel:=d.rels.keep k1 aq;have aD:=fun m=>qd7 (P:=prog) Tryz.underlying112 qkg qjd qmi (hrel.keep (Keep.drewN' (fun _=>True) W1 m) wF) (p,n) (qkh hp hn) false;have z:=qip d.box;have ae: ∀W,wE W1 W->wE w (W.setCell ⟨S,0,none⟩ (.int .i32 0))/\W.cell? ⟨S,0,none⟩=some (.int .i32 1)/\W.frozen? ⟨S,0,none⟩=false:=fun W hK=>
  ⟨k0.trans (qje d.box (by rw [aj];exact hK)),by have:=qb (hK.heap y wF) 0 _ rfl;simpa using this,qg (hK.heap y wF) 0⟩
 have l:=lock_free qhu ⟨S,0,none⟩ W0 (by simpa using a0) f0;rw [aj]at l;have al: ∀j,TabAt (W1.drewN j) T MX vx xs:=fun j=>d.table.keep (k1.trans (Keep.drewN' _ W1 j)) (fun e=>by have:=d.tagT;rw [e,d.tagS] at this;cases this) (fun e=>by have:=d.tagN;rw [e,d.tagS] at this;cases this) (fun b hb e=>by have:=d.tagx b hb;rw [e,d.tagS] at this;cases this);have ap: ∀j,qaf m (W1.drewN j) v t:=fun j=>(qn5 ht k0).mono (fun b o s _ hs=>(k1.trans (Keep.drewN' _ W1 j)).cell hs (fun e=>qv0 d.box (by rw [show b=S from e] at hs;exact hs)));have bq:=k1.size;have Y:=fun j=>qmv (a2 j) (al j) m v t (ap j) (by simp [World.drewN];omega) a6;simp only [zD]at a0 a3 b0 b1;have ao: ∀u s,u∈qv c p n->s∈u->s∈xs:=fun u s hu hs=>hP.texts _ s (qcr.1 hu).1 hs;unfold qeg at aD⊢;have ak: ∀(b:Bool),(t.all fun s=>decide (s∈xs))=b->(b=false->qfg (qv c p n) t=none):=fun b hb h=>by
  subst h;refine qo2 fun hm=>?_;rw [all_eq_false]at hb;obtain⟨s,hs,hx⟩:=hb;exact hx (by simpa using ao t s hm hs)
 cases hl:qdd rl (p,n) with
 |none=>
  simp only [hl,zz,yy]at aD;have hk:=qmj hP hl;rw [hk];clear hl hrel aq y aj q0 q1 k1 hP k0 ao ak ht ap al;refine hd8 ?_ d z l af hk ae Y a2;clear d z l af hk ae Y a2;intro ax x q ag a4 aa ab aL
  go_enter_defers Tryz.func95,Tryz.ntmps95
  go_wp2_with fail;rw [ag.o];refine x.o.mono ?_;rintro e w9 ⟨rfl,g⟩;have g:=g.symm;subst g;go_wp2_with fail;refine q.o.mono ?_;rintro e w9 ⟨rfl,g⟩;have g:=g.symm;subst g;go_wp2_with fail
  go_quiet (fail)
  go_wp2_with fail;refine(ab.o _).mono ?_;rintro e W2 ⟨vo,rfl,-,-,k2⟩;obtain⟨ai,am,an⟩:=aa.o W2 ((Keep.drewN' _ _ _).trans k2);clear k2;refine hd1 ?_ ai;clear ai;intro ah;go_wp2_with fail;refine leaves_cons (f:=73) (args:= #[.pointer (some ⟨S,0,none⟩)]) wC (by simp [go_sem]) ?_;refine(unlock_deferred qhu ⟨S,0,none⟩ .returning _ am an).mono ?_;rintro e u' aX ⟨rfl,rfl,rfl⟩;exact⟨_,xa rfl _ _ _,rfl,ah.o⟩
 |some R=>
  simp only [hl,zz,yy]at aD;obtain⟨vD,P,K,lm,hR⟩:=d.rel _ _ (qfq hl);have aT:R≠S:=fun e=>by have:=d.rel_at (qfq hl);rw [e,d.tagS] at this;cases this
  have ar:=hR.keep k1 (fun b U hb _ e=>by have:=qai.1 hb;rw [e,d.tagS] at this;cases this);simp only at ar;have a8:=hP.xl;cases ad:(t.all fun s=>decide (s∈xs)) with
  |false=>
   have hk:=ak _ ad rfl;rw [hk];simp only [ad]at Y;clear hl hrel aq y aj q0 q1 k1 hP k0 ao ak ht ap al hR aT ar ad;refine hd8 ?_ d z l af hk ae Y a2;clear d z l af hk ae Y a2;intro ax x q ag a4 aa ab aL
   go_enter_defers Tryz.func95,Tryz.ntmps95
   go_wp2_with fail;rw [ag.o];refine x.o.mono ?_;rintro e w9 ⟨rfl,g⟩;have g:=g.symm;subst g;go_wp2_with fail;refine q.o.mono ?_;rintro e w9 ⟨rfl,g⟩;have g:=g.symm;subst g;go_wp2_with fail
   go_quiet (fail)
   go_wp2_with fail;refine(ab.o _).mono ?_;rintro e W2 ⟨vo,rfl,-,-,k2⟩;obtain⟨ai,am,an⟩:=aa.o W2 ((Keep.drewN' _ _ _).trans k2);clear k2;refine hd1 ?_ ai;clear ai;intro ah;go_wp2_with fail;refine leaves_cons (f:=73) (args:= #[.pointer (some ⟨S,0,none⟩)]) wC (by simp [go_sem]) ?_;refine(unlock_deferred qhu ⟨S,0,none⟩ .returning _ am an).mono ?_;rintro e u' aX ⟨rfl,rfl,rfl⟩;exact⟨_,xa rfl _ _ _,rfl,ah.o⟩
  |true=>
   have aG: ∀s,s∈t->s∈xs:=fun s hs=>yE (yM.1 ad s hs);have aV:=qra ao aG;have aU:=qrt aG a8;simp only [ad]at Y;clear hl hrel aq y aj q0 q1 k1 hP k0 ao ak ht al hR aT ad aG;have a7:t.length<=1073741824:=by
    obtain⟨_,_,_,h,_⟩:=ap 0;exact h
   clear ap;refine qdx ?_ d z l af ae Y a2 ar aV aU;clear d z l af ae Y a2 ar aV aU;intro ax x q ag aa ab aL aM aP aN
   go_enter_defers Tryz.func95,Tryz.ntmps95
   go_wp2_with fail;rw [ag.o];refine x.o.mono ?_;rintro e w9 ⟨rfl,g⟩;have g:=g.symm;subst g;go_wp2_with fail;refine q.o.mono ?_;rintro e w9 ⟨rfl,g⟩;have g:=g.symm;subst g;go_wp2_with fail
   go_quiet (fail)
   go_wp2_with fail;refine(ab.o _).mono ?_;rintro e W2 ⟨vo,rfl,ho,-,k2⟩;have ho:=ho trivial;have aE:=ho;rw [←qek xs t]at aE;have aH:wE W1 W2:=(Keep.drewN' _ _ _).trans k2;have aS:=aM.o.keep aH (fun _ _ _ _=>wF);have aF:=qvh aS W2.heap.size vo (qaa xs t) (qfk aE (by rw [qek];exact a7)) (zG _) aN.o;rw [aP.o]at aF;obtain⟨av,cv,rfl⟩:=qi ho;clear aS ho aE k2;refine hd2 ?_ aH aF;clear aH aF;intro aR aO;go_wp2_with fail;refine aO.o.mono ?_;rintro e W3 ⟨rfl,k3⟩;obtain⟨ai,am,an⟩:=aa.o W3 (aR.o.trans (k3.mono fun b hb _=>hb));clear k3;refine hd1 ?_ ai;clear ai;intro ah;cases aW:qfg (qv c p n) t
   all_goals
    unfold qld;refine hd1 ?_ aW;clear aW;intro aQ;go_wp2_with fail;refine leaves_cons (f:=73) (args:= #[.pointer (some ⟨S,0,none⟩)]) wC (by simp [go_sem]) ?_;refine(unlock_deferred qhu ⟨S,0,none⟩ .returning _ am an).mono ?_;rintro e u' aX ⟨rfl,rfl,rfl⟩;exact⟨_,xa rfl _ _ _,by rw [aQ.o];rfl,ah.o⟩
end Go.Proofs
namespace Go.Proofs
open Go.RowKit Go.Ink R4
def qkc (cols:List Int)(key t:List ByteArray):Bool:=(List.range cols.length).all fun j=>decide (t[(cols.getD j 0).toNat]?=key[j]?)
def qjq (c:List qj)(p:ByteArray)(n:Nat)(cols:List Int)(key:List ByteArray)(upto:Nat):List (List ByteArray):=((qv c p n).take upto).filter (qkc cols key)
theorem q61 {xs a b:List ByteArray}(l: ∀s,s∈a->s∈xs)(m: ∀s,s∈b->s∈xs)(i j:Nat):((qaa xs a)[i]?=(qaa xs b)[j]?)↔(a[i]?=b[j]?):=by
 unfold qaa;rw [zP,zP];cases g:a[i]? with
 |none=>cases d:b[j]?<;>simp
 |some s=>
  cases d:b[j]? with
  |none=>simp
  |some t=>
   rw [Option.map_some,Option.map_some];constructor
   ·intro h;have h:=yI h;have hi:xs.idxOf s=xs.idxOf t:=by omega
    have p:=y9 (l s (zH g));have q:=y9 (m t (zH d));have c:xs[xs.idxOf s]?=some s:=by rw [zB p,getElem_idxOf]
    have e:xs[xs.idxOf t]?=some t:=by rw [zB q,getElem_idxOf]
    rw [hi,e]at c;exact c.symm
   ·intro h;cases h
    rfl
theorem q0y {xs t key:List ByteArray}(b:List Int)(d: ∀s,s∈t->s∈xs)(c: ∀s,s∈key->s∈xs):qle (qaa xs t) b (qaa xs key)=qkc b key t:=by
 unfold qle qkc
 congr 1
 funext j
 exact yj.2 (q61 d c _ _)
theorem q0z {α:Type}(p:α->Bool)(d:α)(l:List α)(upto:Nat):((List.range l.length).filter fun i=>decide (i<upto)&&p (l.getD i d)).map (fun i=>l.getD i d)=(l.take upto).filter p:=by
 have h: ∀k,k<=l.length->((List.range k).filter fun i=>decide (i<upto)&&p (l.getD i d)).map (fun i=>l.getD i d)=((l.take k).take upto).filter p:=by
  intro k
  induction k with
  |zero=>intro _;simp
  |succ k ih=>
   intro g;have b:=zB (show k<l.length from wA);have hd:l.getD k d=l[k]:=by rw [zJ,b];rfl
   have e:l.take (k+1)=l.take k++ [l[k]]:=by rw [zh,b];rfl
   rw [xx,yT,zn,ih wA,e,take_append,yT,yC,xQ (show k<=l.length from wA)]
   congr 1
   rw [ye,filter_nil,hd];by_cases c:k<upto
   ·rw [zS c,yU,yx (by simp;omega),ye,filter_nil];split<;>simp [b]
   ·rw [zM c,show upto-k=0 from wA]
    rfl
 have:=h l.length (zG _)
 rwa [zi] at this
theorem q00 {c:List qj}{p:ByteArray}{n:Nat}{xs:List ByteArray}{b:List Int}{key:List ByteArray}{upto:Nat}(e: ∀u s,u∈qv c p n->s∈u->s∈xs)(q: ∀s,s∈key->s∈xs)(d:qdz n b=true)(g:key.length=b.length):
  (qel n ((qv c p n).map (qaa xs)) b (qaa xs key) 0 (upto:Int)).map (fun i=>(qv c p n).getD i [])=qjq c p n b key upto:=by
 unfold qel qjq;rw [zI (by rw [d,zS (by rw [qek];exact g)];rfl),zL,←q0z (qkc b key) [] (qv c p n) upto]
 congr 1
 refine filter_congr fun i hi=>?_;rw [yi]at hi;have h:=zB hi;have l:((qv c p n).map (qaa xs)).getD i []=qaa xs (qv c p n)[i]:=by rw [zJ,zP,h];rfl
 have m:(qv c p n).getD i []=(qv c p n)[i]:=by rw [zJ,h];rfl
 unfold qzt;rw [l,m,q0y b (fun s t=>e _ s (xE hi) t) q,zS (show(0:Int)<=(i:Int) from wA),yU]
 congr 1
 exact yj.2 wA
theorem q4a {c:List qj}{p:ByteArray}{n:Nat}{xs:List ByteArray}{b:List Int}{key:List ByteArray}{upto:Nat}(e: ∀u s,u∈qv c p n->s∈u->s∈xs)(g:key.length=b.length)(l:(key.all fun s=>decide (s∈xs))=false):qjq c p n b key upto= []:=by
 unfold qjq;refine filter_eq_nil_iff.2 fun t q d=>?_;rw [all_eq_false]at l;obtain⟨s,m,v⟩:=l;obtain⟨j,h⟩:=zy.1 m;unfold qkc at d;have:=yM.1 d j (yi.2 (by rw [←g];exact(zA.1 h).1));have:=yE this;rw [h]at this;exact v (by simpa using e t s (xj q) (zH this))
theorem q4b {a:Asg}{ts:List TermD}{t:List ByteArray}(h:ts.length=t.length):qkc (qjm a ts) (qpb a ts) t=qj3 a ts t:=by
 rw [q2o (k:=0) h];unfold qkc qjm qpb;rw [yu,yM,yM];constructor
 ·intro c p g;obtain⟨j,b⟩:=zy.1 g;have e:=(zA.1 b).1;have:=yE (c j (yi.2 (by rw [zL];exact e)));rw [zJ,zP,zP,b]at this
  simpa using this
 ·intro c j b;rw [yi,zL]at b;have d:=zB b;have:=yE (c _ (xE b));rw [zJ,zP,zP,d]
  simpa using this
theorem q62 {c:List qj}{p:ByteArray}{a:Asg}{ts:List TermD}{upto:Nat}:qjq c p ts.length (qjm a ts) (qpb a ts) upto=((qv c p ts.length).take upto).filter (qj3 a ts):=by
 unfold qjq;refine filter_congr fun t b=>?_;exact q4b (qcr.1 (xj b)).2.symm
theorem q63 (a:Asg)(ts:List TermD):qdz ts.length (qjm a ts)=true:=by
 unfold qdz;rw [yM];intro i hi;rw [yi]at hi;unfold qjm at hi⊢;rw [zL]at hi;have g:=zB hi;have c:=qni (xE hi);have h:=qzz (a:=a) (ts:=ts) (k:=0);have d:((qav a ts 0).map fun p=>(p.1:Int)).getD i 0=((qav a ts 0)[i].1:Int):=by rw [zJ,zP,g];rfl
 unfold qid;rw [d,zS wA,zS wA,yU,yU,y8,xC];cases i with
 |zero=>exact .inl rfl
 |succ i=>
  right;have b:=zB (show i<(qav a ts 0).length from wA)
  have e:((qav a ts 0).map fun p=>(p.1:Int)).getD (i+1-1) 0=((qav a ts 0)[i].1:Int):=by rw [Nat.add_sub_cancel,zJ,zP,b];rfl
  rw [e];have:=pairwise_iff_getElem.1 h i (i+1) wA hi wA;exact zS wA
def RowsAt (P:Nat->Prop)(w:World)(v:Value)(tss:List (List ByteArray)):Prop:=
 ∃us:List Value,us.length=tss.length/\w.ownsRow 0 60 1 v us.length us/\(∀b,v.ownBlock=some b->P b)/\
  ∀(k:Nat) (u:Value) (t:List ByteArray),us[k]?=some u->tss[k]?=some t->w.ownsRow 0 9 1 u t.length (t.map .string)/\ ∀b,u.ownBlock=some b->P b
theorem RowsAt.keep {P P':Nat->Prop}{w w':World}{v:Value}{d:List (List ByteArray)}{C:Nat->Prop}(h:RowsAt P w v d)(hK:Keep C w w')(e: ∀b,b<w.heap.size->P b->C b/\P' b):RowsAt P' w' v d:=by
 obtain⟨z,q,g,m,s⟩:=h;refine⟨z,q,qf g hK (fun b c=>(e b (zE g b c).2 (m b c)).1),fun b c=>(e b (zE g b c).2 (m b c)).2,fun k u t y x=>?_⟩;obtain⟨l,p⟩:=s k u t y x;exact⟨qf l hK (fun b c=>(e b (zE l b c).2 (p b c)).1),fun b c=>(e b (zE l b c).2 (p b c)).2⟩
theorem qv1 {P:Nat->Prop}(w:World):RowsAt P w (.slice none 0 0) []:=⟨[],rfl,zj _ _ _ _,fun b c=>by simp [Value.ownBlock] at c,fun k u t d=>by simp at d⟩
end Go.Proofs
namespace Go.Proofs
open Go.RowKit Go.Ink R4 Go.MuLone
attribute [local go_sem] Oper.semAt_some
theorem q4c (a:Addr)(u:FrameMode)(w:World)(c:w.cell? a=some (.int .i32 1))(d:w.frozen? a=false):
  CallsDIn Fence.wide 0 prog 73 #[.pointer (some a)] u w fun e u' w'=>u'=u/\(e=.returned (.tuple #[])/\w'=w.setCell a (.int .i32 0)):=by
 have b:=iunlock_held qhu a;refine callsDIn_of_wp (F:=Fence.wide) (n:=0) Tryz.func73 rfl trivial (xc.2 ?_);simp only [Tryz.ntmps73,size_toArray,length_cons,length_nil,Nat.reduceAdd,Nat.reduceSub,Array.replicate_succ,Array.replicate_zero,push_toArray,append_toArray,nil_append,cons_append];go_wp2_with fail;refine(b _ c d).mono ?_;rintro e w' ⟨rfl,rfl⟩;go_wp2_with fail
 go_end0
 exact⟨rfl,rfl⟩
theorem qhj {fn:Func}{tmps:Array Value}{R:Ending->World->Prop}{d:List Deferred}{a:Addr}{w:World}(q:w.cell? a=some (.int .i32 1))(v:w.frozen? a=false)
  (h:LeavesInM Fence.wide 0 prog fn tmps R d .returning (w.setCell a (.int .i32 0))):
  LeavesInM Fence.wide 0 prog fn tmps R ({target:=.fn (.func 73) #[],args:= #[.pointer (some a)]}::d) .returning w:=by
 refine⟨wC,.inr ⟨fun h=>(by simp [Fence.wide] at h),_,_,73,#[.pointer (some a)],rfl,by simp [invoke,go_sem],fun _ _=>wF,?_⟩⟩;obtain⟨m,p⟩:=q4c a .returning w q v;refine⟨m,fun c g b s=>?_⟩;obtain⟨e,x,w',l,⟨rfl,rfl,rfl⟩,t,u⟩:=p c g b s;exact⟨_,_,_,l,h,t,u⟩
end Go.Proofs
namespace Go.Proofs
open Go.RowKit Go.Ink R4
theorem q8u:qb2 prog 69 60 1 24:=qcl (z:=.slice none 0 0) wB wB rfl wD wD
theorem qc4 {w:World}{base d:Nat}{e q:TypeId}{sz m n u:Nat}{v v':Value}{xs p:List Value}(h:w.ownsRow base e sz v n xs)(s:w.ownsRow d q m v' u p)(t:e≠q){b:Nat}(l:v.ownBlock=some b):v'.ownBlock≠some b:=fun c=>by
 rcases h.2 with ⟨e1,_⟩ |⟨g,cap,cur,e1,_,e3,_⟩
 ·rw [e1]at l;cases l
 ·rcases s.2 with ⟨f1,_⟩ |⟨g',cap',cur',f1,_,f3,_⟩
  ·rw [f1]at c;cases c
  ·rw [e1]at l;rw [f1]at c;have x:g=b:=by simpa [Value.ownBlock] using l
   have y:g'=b:=by simpa [Value.ownBlock] using c
   rw [x]at e3;rw [y,e3]at f3;injection f3 with f3
   injection f3 with _ f3
   exact t f3
theorem RowsAt.snoc {P:Nat->Prop}{w:World}{v:Value}{d:List (List ByteArray)}(h:RowsAt P w v d){base:Nat}{Y:Value}{u:List ByteArray}(R:w.ownsRow base 9 1 Y u.length (u.map .string))(ae: ∀b,Y.ownBlock=some b->P b)(hl:d.length<=1073741824)(ad: ∀b,w.heap.size<=b->P b):
  ∃a c g cap W',v=.slice a d.length c/\(Builtin.append_ #[69,69] 69 #[v,.slice (some ⟨w.heap.size,0,none⟩) 1 1]).run prog (w.alloc (.cells #[Y] 60))=.ok (.slice (some ⟨g,0,none⟩) (d.length+1) cap) W'/\
   RowsAt P W' (.slice (some ⟨g,0,none⟩) (d.length+1) cap) (d++ [u])/\Keep (fun b=>v.ownBlock≠some b) w W':=by
 obtain⟨us,m,l,aa,ab⟩:=h;obtain⟨v3,Y3,U,z,y,gb,cap,ai,ah,an⟩:=qc3 (P:=prog) q8u 69 l [Y] rfl (by obtain⟨a,c,rfl⟩:=qi R;simp [Value.oneCell']) wA (ya _);subst ai;obtain⟨a,c,hv⟩:=qi l;rw [m]at hv;rw [m]at U z;refine⟨a,c,gb,cap,Y3,hv,U,⟨us++ [Y],by simp [m],?_,fun b hb=>?_,fun j x t p q=>?_⟩,y.mono fun b _ h e=>h e.symm⟩
 ·rw [zR,length_singleton,m];exact z
 ·have ag:gb=b:=by simpa [Value.ownBlock] using hb
  subst ag;rcases ah with h |h
  ·exact aa _ h
  ·exact ad _ h
 ·have key: ∀{x:Value} {t:List ByteArray} {base:Nat},w.ownsRow base 9 1 x t.length (t.map .string)->Y3.ownsRow base 9 1 x t.length (t.map .string):=fun p=>qf p y (fun b hb e=>qc4 p l wD hb e.symm);by_cases hj:j<us.length
  ·rw [yR hj]at p;rw [yR wA]at q;obtain⟨q1,q2⟩:=ab j x t p q;exact⟨key q1,q2⟩
  ·rw [yH wA]at p;rw [yH wA]at q;have s:j-us.length=0:=by have:=(zA.1 p).1;simp at this;omega
   rw [s]at p;rw [←m,s]at q;simp only [getElem?_cons_zero,yb]at p q;subst p q;exact⟨(key R).mono (ya _),ae⟩
theorem q4d {n0:Nat}{g:Gh}{w:World}{S:Nat}{c:List qj}{T M MX:Nat}{vx:Value}{xs:List ByteArray}{rl:List ((ByteArray×Nat)×Nat)}{p:ByteArray}{n R Pp Km D:Nat}{vD:Value}{lm:List (List Bool×Nat)}{W1 v W t:World}{u s:qe0}(hg:GInv g w)(hS:g.st S=some c)(hP:StParts g.tag w S c T M MX vx xs rl)
  (hk:((p,n),R)∈rl) (m:u=⟨qa5 g.tag S R,(qv c p n).map (qaa xs),vD,lm⟩) (d:wE w (W1.setCell ⟨S,0,none⟩ (.int .i32 0))) (z:wE W1 v) (x:RelSame u v s W) (hinv:RelInv R n Pp Km s W) (kD:Keep (fun b=>b≠D) W t) (hD:s.tag D=none) (am:v.heap.size<=D):
  GStep n0 g w {g with tag:=qb3 g.tag S R s.tag} (t.setCell ⟨S,0,none⟩ (.int .i32 0))/\Keep (fun b=>u.tag b=none/\b<v.heap.size) W1 t/\u.tag S=none:=by
 have au:=z.size;have zu:w.heap.size<=W1.heap.size:=by simpa using d.size
 have tS:u.tag S=none:=by
  cases hT:u.tag S with
  |none=>rfl
  |some U=>rw [m] at hT;have:=qai.1 hT;rw [hP.tagS] at this;cases this
 have sS:s.tag S=none:=by
  cases hT:s.tag S with
  |none=>rfl
  |some U=>
   rcases x.new S U hT with ⟨U',Y⟩ |Y
   ·rw [tS]at Y;cases Y
   ·have:=qe hP.box;omega
 have k1:Keep (fun b=>u.tag b=none/\b<v.heap.size) W1 t:=(z.mt.trans x.keep).trans (kD.mono fun b _ h=>wA);refine⟨?_,k1,tS⟩;have ad:GInv g (W1.setCell ⟨S,0,none⟩ (.int .i32 0)):=hg.keep d.mt;have ab:=hP.keep (tag':=g.tag) d (fun _ _ _=>wF) (fun _ _=>Iff.rfl);have hK:Keep (fun b=>qa5 g.tag S R b=none) (W1.setCell ⟨S,0,none⟩ (.int .i32 0)) (t.setCell ⟨S,0,none⟩ (.int .i32 0)):=by
  have k2:Keep (fun b=>qa5 g.tag S R b=none) W1 t:=k1.mono fun b l h=>⟨by rw [m];exact h,wA⟩;exact Keep.set_both k2 S 0 (.int .i32 0)
 have hR:qci s.tag (t.setCell ⟨S,0,none⟩ (.int .i32 0)) R n ((qv c p n).map (qaa xs)) s.vD Pp Km s.lm:=by
  have h:=hinv.own;rw [x.same,m]at h;exact(h.keep kD (fun b U l _ e=>by subst e;rw [hD] at l;cases l)).keep (Keep.setCell (C:=fun b=>b≠S) _ _ _ wC) (fun b U l _ e=>by subst e;rw [sS] at l;cases l)
 have y:=x.le;have q:=x.new;rw [m]at y q;refine(GStep.own hg d).trans (q4n ad hS ab hk y (fun b U l=>(q b U l).imp id (fun h=>by simp;omega)) (fun b U l=>?_) hK hR);have Y:=hinv.own.lt b U l;have h2:=kD.size;simp;omega
end Go.Proofs
namespace Go.Proofs
open Go.RowKit Go.Ink R4 Go.MuLone
attribute [local go_sem] Oper.semAt_some
theorem qxt {n0:Nat}{g:Gh}{w:World}(hg:GInv g w){S:Nat}{c:List qj}(hS:g.st S=some c)(p:ByteArray)(n:Nat)(hp:p.size<=1073741824)(hn:n<=1073741824)(m:Nat)(vc vk:Value)(d:List Int)(key:List ByteArray)(upto:Nat)
  (aw:qay m w vc d) (a2:qaf m w vk key) (hm:m<=w.heap.size) (cf: ∀s,s∈key->s.size<=1073741824) (fd:0<upto) (de:upto<=(qv c p n).length) (bN:qdz n d=true) (c3:key.length=d.length):
  Calls prog 96 #[qk S,qeg (p,n),vc,vk,.int .i64 (upto:Int)] w fun e w'=> ∃g' v,e=.returned v/\GStep n0 g w g' w'/\g'.st=g.st/\g'.held=g.held/\RowsAt (fun b=>g'.free b/\w.heap.size<=b) w' v (qjq c p n d key upto):=by
 obtain⟨T,M,MX,vx,xs,rl,hP⟩:=hg.store S c hS;obtain⟨N,hN⟩:=ex (w.heap.size);obtain⟨W0,aJ⟩:=ex ((w.alloc (.cells #[qk S] 42)).alloc (.cells #[.string p,.int .i64 (n:Int)] 153));have k0:wE w W0:=by rw [←aJ];exact kAl.trans kAl
 have z0:W0.heap.size=w.heap.size+2:=by rw [←aJ];simp
 have p0:W0.heap[N]?=some (.cells #[qk S] 42 (0,0)):=by rw [←aJ,←hN];simp only [qar,zO];simp
 have q0:W0.heap[N+1]?=some (.cells #[.string p,.int .i64 (n:Int)] 153 (0,0)):=by rw [←aJ,←hN];simp only [qar,zO];simp
 have y:=hP.keep (tag':=g.tag) k0 (fun _ _ _=>wF) (fun _ _=>Iff.rfl);have a0:=qb y.box 0 _ rfl;have f0:=qg y.box 0;have eV:=qe y.box;have eW:=qe hP.box;obtain⟨W1,aK⟩:=ex (W0.setCell ⟨S,0,none⟩ (.int .i32 1));have k1:Keep (fun b=>b≠S) W0 W1:=by rw [←aK];exact kSc
 have z1:W1.heap.size=W0.heap.size:=by rw [←aK];simp
 have ad:=qaj 0 (.int .i32 1) y.box;rw [aK]at ad;have dM:N≠S:=wA
 have cN:N+1≠S:=wA
 have p1:=k1.heap p0 dM;have q1:=k1.heap q0 cN;have dL:M≠S:=fun e=>by have:=y.tagM;rw [e,y.tagS] at this;cases this
 have a9:=y.rels.keep k1 dL;have ba:TabAt W1 T MX vx xs:=y.table.keep k1 (fun e=>by have:=y.tagT;rw [e,y.tagS] at this;cases this) (fun e=>by have:=y.tagN;rw [e,y.tagS] at this;cases this) (fun b q e=>by have:=y.tagx b q;rw [e,y.tagS] at this;cases this);have a6:=qip y.box;have ay:=lock_free qhu ⟨S,0,none⟩ W0 (by simpa using a0) f0;rw [aK]at ay;have bG: ∀W,wE W1 W->W.cell? ⟨S,0,none⟩=some (.int .i32 1)/\W.frozen? ⟨S,0,none⟩=false:=fun W hK=>
  ⟨by have:=qb (hK.heap ad wF) 0 _ rfl;simpa using this,qg (hK.heap ad wF) 0⟩
 have c0:qaf m W1 vk key:=(qn5 a2 k0).mono (fun b o s _ hs=>k1.cell hs (fun e=>qv0 y.box (by rw [show b=S from e] at hs;exact hs)));have cW:qay m W1 vc d:=aw.mono fun b o x _ hx=>by
  have ci:W0.cell? ⟨b,o,none⟩=some (.int .i64 x):=k0.cell hx trivial;show W1.cell? ⟨b,o,none⟩=some (.int .i64 x);rw [←aK];refine(World.cell?_setCell_other _ _ _ _ (fun e=>?_)).trans ci;cases e;have h0:W0.cell? ⟨S,0,none⟩=some (.int .i32 0):=by simpa using a0
  rw [h0]at ci;cases ci
 have a3:=qb ad 3 _ rfl;have bJ:=qmv (by simpa using a3) ba m vk key c0 wA cf;have cZ: ∀u s,u∈qv c p n->s∈u->s∈xs:=fun u s hu hs=>hP.texts _ s (qcr.1 hu).1 hs;have b0:=qb p1 0 _ rfl;have dD:=qb p0 0 _ rfl;have eP:=qe p1;have b5:=qe p0;have eS:=qe ad;have et: ¬((upto:Int)=0):=wA
 simp only [zD]at a0 b0 dD;have bO: ∀W,wE W1 W->wE w (W.setCell ⟨S,0,none⟩ (.int .i32 0)):=fun W hK=>k0.trans (qje y.box (by rw [aK];exact hK));clear a3 ba c0;unfold qeg;refine qby ?_ cW hg hP y k0 aJ p0 q0 k1 ad p1 q1 a9 a6 ay bG;clear cW hg hP y k0 aJ p0 q0 k1 ad p1 q1 a9 a6 ay bG;intro cA aH al z eC cx eF eG cM ah bW b1 bk bj bi bQ;refine hd9 ?_ bJ cZ aw a2 cf bN c3 de bO;clear bJ cZ aw a2 cf bN c3 de bO;intro bU aQ dn bS d9 bV aR cL aU;refine qf5 Tryz.func96 rfl ?_;simp only [Tryz.ntmps96,qdy,Nat.reduceAdd,Nat.reduceSub];gi_wp2;rw [cx.o];refine⟨wF,rfl,(zU.2 bj.o).mono ?_⟩;rintro e w9 ⟨rfl,aA⟩;have aA:=aA.symm;subst aA;gi_wp2;refine⟨wF,rfl,(zU.2 bi.o).mono ?_⟩;rintro e w9 ⟨rfl,aA⟩;have aA:=aA.symm;subst aA;gi_wp2;refine⟨wF,rfl,(zU.2 bU.o).mono ?_⟩;rintro e W2 ⟨vo,rfl,a7,c7,k2⟩;cases am:(key.all fun s=>decide (s∈xs)) with
 |false=>
  have c9:=q4a (upto:=upto) aQ.o aR.o am;obtain⟨dR,dS⟩:=bQ.o W2 k2;have dd:=aU.o W2 k2;clear k2 a7 c7 am;refine hd2 ?_ c9 dd;clear c9 dd;intro cG cK;gi_wp2;refine qhj dR dS (qcn (xm rfl _ _ _) ⟨g,.slice none 0 0,rfl,GStep.own aH.o cK.o,rfl,rfl,?_⟩);rw [cG.o];exact qv1 _
 |true=>
  have c2: ∀s,s∈key->s∈xs:=fun s hs=>yE (yM.1 am s hs);have a7:=a7 am;obtain⟨R,a4⟩: ∃R,qdd rl (p,n)=some R:=by
   cases e:qdd rl (p,n) with
   |some R=>exact⟨R,rfl⟩
   |none=>
    have:=qmj al.o e;have h2:=cL.o;rw [this]at h2;simp at h2;omega
  obtain⟨vD,Pp,Km,lm,hR⟩:=z.o.rel _ _ (qfq a4);simp only at hR;have dO:R≠S:=fun e=>by have:=z.o.rel_at (qfq a4);rw [e,z.o.tagS] at this;cases this
  obtain⟨W3,bq⟩:=ex (W2.alloc (.cells #[.slice none 0 0] 69));obtain⟨nb,dW⟩:=ex (W2.heap.size);have k3:wE W2 W3:=by rw [←bq];exact kAl
  have b3:BoxAt W3 nb 69 (.slice none 0 0):=by rw [←bq,←dW];exact qh _ _
  have kd:wE W1 W3.drew:=(k2.trans k3).trans kDr;have bd:BoxAt W3.drew nb 69 (.slice none 0 0):=b3.keep (Keep.drew (fun _=>True) _) trivial;have ck:wE W2 W3.drew:=k3.trans kDr;have od:=qf a7 ck (fun _ _=>wF);have cO:qci (qa5 g.tag S R) W3.drew R n ((qv c p n).map (qaa xs)) vD Pp Km lm:=(hR.keep cM.o (fun b U q _ e=>by have:=qai.1 q;rw [e,z.o.tagS] at this;cases this)).keep kd (fun _ _ _ _=>wF);obtain⟨s0,ce⟩: ∃s0:qe0,s0=⟨qa5 g.tag S R,(qv c p n).map (qaa xs),vD,lm⟩:=⟨_,rfl⟩;have a1:RelInv R n Pp Km s0 W3.drew:=by
   rw [ce];exact⟨cO,by simp only [zL];have:=ql4 c p n;have:=al.o.few;omega⟩
  have bI:=qd7 (P:=prog) Tryz.underlying112 qkg qjd qmi (bk.o.keep kd wF) (p,n) (qkh hp hn) false;simp only [a4,zz,yy]at bI;unfold qeg at bI;have e1:=qb (kd.heap bW.o wF) 0 _ rfl;have e2:=qb (kd.heap b1.o wF) 0 _ rfl;have e3:=qb (kd.heap b1.o wF) 1 _ rfl;have e4:=qb (kd.heap ah.o wF) 4 _ rfl;simp only [zD]at e1 e2 e3 e4;have eR:=qe (kd.heap bW.o wF);have el:=qe (kd.heap b1.o wF);have eU:=qe (kd.heap ah.o wF);have b8:qay W3.drew.heap.size W3.drew vc d:=SliceIn.wider cA.o (by have:=kd.size;omega) (fun b o x _ hx=>kd.cell hx wF);have eo:=aR.o;have c4:key.length<=1073741824:=by
   obtain⟨_,_,_,h,_⟩:=bS.o;exact h
  have dQ:d.length<=1073741824:=wA
  have cb:qay W3.drew.heap.size W3.drew vo (qaa xs key):=by
   have di:=od;rw [←qek xs key]at di;exact qfk di (by rw [qek];exact c4)
  have c6:=qvg W3.drew R W3.drew.heap.size vc vo d (qaa xs key) 0 (upto:Int) b8 cb (zG _);clear am dO cO hR b3 k3 a7 c7;have cP:=And.intro e1 (And.intro e2 (And.intro e3 e4));clear e1 e2 e3 e4;refine qlx ?_ c2 a4 bq bd kd ck od a1 ce b8 cb c6 cP;clear c2 a4 bq bd kd ck od a1 ce b8 cb c6 cP;intro bx cC cy cp eD bD eE aE ab d7 d8 cD aP;gi_wp2;rw [cy.o];refine qag ?_;refine xc.2 ?_;refine qau rfl (fun W=>W.cell? ⟨N,0,none⟩=some (qk S)/\W.cell? ⟨N+1,0,none⟩=some (.string p)/\W.cell? ⟨N+1,1,none⟩=some (.int .i64 (n:Int))/\W.cell? ⟨S,4,none⟩=some (.map (some M))) [] ?_;refine qq [0,1,2,3,4,5,7,8,9] ?_
  iterate 9
   refine tkA rfl aP.o ?_
   try simp only [qr]
  refine ql ?_;refine ho 6 rfl fun K bt=>?_;go_wp2_with fail;refine bt.o _ _ (fun _=>aP.o) ?_;refine ho 10 rfl fun K bu=>?_;go_wp2_with fail;refine cD.o.mono ?_;rintro e W4 ⟨bR,bL,bK,bT,bF,vl,dm,rfl,k4,cS⟩;have cQ:W4.cell? ⟨N,0,none⟩=some (qk S)/\W4.cell? ⟨N+1,0,none⟩=some (.string p)/\W4.cell? ⟨N+1,1,none⟩=some (.int .i64 (n:Int))/\W4.cell? ⟨S,4,none⟩=some (.map (some M)):=by
   obtain⟨s1,s2,s3,s4⟩:=aP.o;exact⟨k4.cell s1 wF,k4.cell s2 wF,k4.cell s3 wF,k4.cell s4 wF⟩
  refine hd3 ?_ cQ k4 cS;clear cQ k4 cS;intro cs bm ct;go_wp2_with fail;refine bu.o _ _ (fun _=>cs.o) ?_;refine qa0 wB (qah ?_);clear bt bu;gi_wp2;have ai:=q00 (upto:=upto) aQ.o bx.o bV.o aR.o;obtain⟨rows,cd⟩:=ex (qjq c p n d key upto);rw [cd]at ai;have dh:=al.o.xl;have c8:=qrt bx.o dh;have z4:=bm.o.size;have zd:W3.drew.heap.size=W3.heap.size:=wC
  have z3:=bD.o.size;have aW:=aE.o.keep bm.o.mt;have ax: ∀b,nb<=b->s0.tag b=none:=fun b q=>by
   cases hT:s0.tag b with
   |none=>rfl
   |some U=>
    exfalso;rw [ab.o]at hT;have h1:=aH.o.lt b _ (qai.1 hT);have h2:=k2.size;omega
  have cX: ∀b,W3.drew.heap.size<=b->s0.tag b=none:=fun b q=>ax b wA;have aF:RelSame s0 W2 s0 W4:=(RelSame.refl s0 W2).keepOn (bD.o.trans bm.o) (fun _ _ _=>wF);have b4:=cp.o.keep bm.o trivial;have er:=b4.lt;have b5:(qel n s0.ts d (qaa xs key) 0 (upto:Int)).length=rows.length:=by
   rw [ab.o,←ai,zL]
  have c5:(qaa xs key).length<=1073741824:=by rw [qek];exact c4
  refine hd9 ?_ ai cd c8 aW ax cX aF b4 b5;clear ai cd c8 aW ax cX aF b4 b5;intro bl cI cE bh aC cB aT du bv;refine qnd (qfd R n Pp Km) s0 (gf:=178) (lb:= #[.pointer (some ⟨bR,0,none⟩),.pointer (some ⟨bL,0,none⟩),.pointer (some ⟨bK,0,none⟩),.pointer (some ⟨bT,0,none⟩),.pointer (some ⟨bF,0,none⟩)]) rfl (qd6 Tryz.func178 wB rfl)
   (qtf R n Pp Km W3.drew.heap.size W4.heap.size bR bL bK bT bF vl dm 0 (upto:Int) d (qaa xs key) cE.o dQ c5) (fun b q=>cB.o b q.1)
   (fun γ0 k γ n X args h=>by obtain⟨i,t,_,_,v,rfl,_⟩:=h;rfl) bh.o (fun b q=>aC.o b wA) ct.o (fun X Y hV hK=>hV.keep hK (fun b h1 h2=>h2))
   (fun k s X=> ∃vr,BoxAt X nb 69 vr/\s.tag nb=none/\RowsAt (fun b=>s.tag b=none/\W4.heap.size+2<=b) X vr (rows.take k)/\RelSame s0 W2 s X) (fun c k s X=>False) ?hI ?hIx ?hIs ?hIxs ?h0 ?round ?done ?stop
  case hI=>
   rintro k s X Y ⟨vr,h1,h2,h3,h4⟩ hK;exact⟨vr,h1.keep hK (.inl wA),h2,h3.keep hK (fun b _ q=>⟨.inr q.2,q⟩),h4.keepOn hK (fun b q _=>.inl wA)⟩
  case hIx=>rintro c k s X Y h;exact h.elim
  case hIs=>
   rintro k s X s' Y ⟨vr,h1,h2,h3,h4⟩ hs;exact⟨vr,h1.keep ((qfd R n Pp Km).ifree hs) h2,(qfd R n Pp Km).inew hs nb h1.lt h2,h3.keep ((qfd R n Pp Km).ifree hs) (fun b q hP=>⟨hP.1,(qfd R n Pp Km).inew hs b q hP.1,hP.2⟩),h4.it hs⟩
  case hIxs=>rintro c k s X s' Y h;exact h.elim
  case h0=>exact⟨_,du.o,aC.o nb (zG _),by rw [take_zero];exact qv1 _,aT.o⟩
  case stop=>rintro D c k s W _ _ _ _ _ h;exact h.elim
  case round=>
   rintro l k s X0 X args eO e8 cY hk ⟨vr,h1,h2,h3,h4⟩ hs aY cT fc hA;obtain⟨i,t,br,an,v',rfl,cg,df⟩:=hA;have g1:=h1.keep ((qfd R n Pp Km).ifree hs) h2;have g2:s.tag nb=none:=(qfd R n Pp Km).inew hs nb h1.lt h2;have g3:RowsAt (fun b=>s.tag b=none/\W4.heap.size+2<=b) X vr (rows.take k):=h3.keep ((qfd R n Pp Km).ifree hs) (fun b q hP=>⟨hP.1,(qfd R n Pp Km).inew hs b q hP.1,hP.2⟩);have g4:=h4.it hs;have eZ:X0.heap.size<=X.heap.size:=((qfd R n Pp Km).ifree hs).size;obtain⟨u,hu,dY,da⟩: ∃u,u∈qv c p n/\t=qaa xs u/\rows[k]?=some u:=by
    rw [ab.o]at br an;simp only at br an;rw [zP]at an;cases hx:(qv c p n)[i]? with
    |none=>rw [hx] at an;cases an
    |some u=>
     rw [hx]at an;refine⟨u,zH hx,(yI an).symm,?_⟩;rw [←bl.o,zP,br,Option.map_some,zJ,hx]
     rfl
   subst dY;rw [qek]at cg df;clear br an h1 h2 h3 h4 hk;refine qdx ?_ hs aY cT cY cg g3 g4 da g1 hu;clear hs aY cT cY cg g3 g4 da g1 hu;intro eB aD cw bw bz dz cq aS dy dC;gi_wp2;refine⟨Keep.refl _ _,fun Y hY e5 e0=>?_⟩;have kY:Keep (fun b=>s0.tag b=none/\b<W2.heap.size) W1 Y:=(k2.mt.trans cq.o.keep).trans (hY.mono fun b _ h e=>wA);have tS:s0.tag S=none:=by
    cases hT:s0.tag S with
    |none=>rfl
    |some U=>rw [ab.o] at hT;have:=qai.1 hT;rw [al.o.tagS] at this;cases this
   have tO: ∀b U,g.tag b=some (S,U)->(∀V,U≠.rel R V)->s0.tag b=none:=fun b U q hU=>by
    cases hT:s0.tag b with
    |none=>rfl
    |some V=>rw [ab.o] at hT;have:=qai.1 hT;rw [q] at this;cases this;exact absurd rfl (hU V)
   have tN:s0.tag N=none:=by
    cases hT:s0.tag N with
    |none=>rfl
    |some U=>rw [ab.o] at hT;have:=aH.o.lt _ _ (qai.1 hT);omega
   have d6:=k2.size;have pY:=kY.heap bW.o ⟨tN,wA⟩;have sY:=kY.heap ah.o ⟨tS,wA⟩;have y1:=qb pY 0 _ rfl;have y2:=qb sY 3 _ rfl;simp only [zD]at y1 y2;have eQ:=qe pY;have eT:=qe sY;have cR:TabAt Y T MX vx xs:=by
    have bs:TabAt W1 T MX vx xs:=z.o.table.keep cM.o (fun e=>by have:=z.o.tagT;rw [e,z.o.tagS] at this;cases this) (fun e=>by have:=z.o.tagN;rw [e,z.o.tagS] at this;cases this) (fun b q e=>by have:=z.o.tagx b q;rw [e,z.o.tagS] at this;cases this);exact bs.keep kY ⟨tO _ _ al.o.tagT (fun V e=>by cases e),by have:=qe bs.tab;omega⟩ ⟨tO _ _ al.o.tagN (fun V e=>by cases e),by have:=bs.nums.lt;omega⟩ (fun b q=>⟨tO _ _ (al.o.tagx b q) (fun V e=>by cases e),by have:=(zE bs.own b q).2;omega⟩)
   have ch:=qf bz.o hY (fun b q e=>by have:=(zE bz.o b q).1;omega);have bb:=ch;rw [←qek xs u]at bb;have dc:=qwe cR Y.heap.size v' u (fun s hs=>aQ.o u s dC.o hs) (qfk bb (by rw [qek];exact df)) (zG _) dh;obtain⟨av,cv,rfl⟩:=qi ch;clear ch bb cR kY pY sY;refine hd2 ?_ hY dc;clear hY dc;intro aG cJ;gi_wp2;refine⟨wF,rfl,(CallsIn.inRound l (zU.2 cJ.o)).mono ?_⟩;rintro e Y2 ⟨vu,rfl,a8,bc⟩;have zY:=aG.o.size;have fp:=bc.size;have e7:l=W4.heap.size+1:=bw.o.2.2;obtain⟨au,cu,rfl⟩:=qi a8;have bo:=(dy.o.keep aG.o wA).keep bc trivial;have b2:=(dz.o.keep aG.o (P':=fun b=>s.tag b=none/\W4.heap.size+2<=b) (fun b _ q=>⟨wA,q⟩)).keep bc (P':=fun b=>s.tag b=none/\W4.heap.size+2<=b) (fun b _ q=>⟨wF,q⟩);have bH:(rows.take k).length=k:=by rw [yC];exact xQ (by have:=(zA.1 aS.o).1;omega)
   have dV:k<=67108864:=by
    have h1:=(zA.1 aS.o).1;have h2:=qzu n s0.ts d (qaa xs key) 0 (upto:Int);have h3:=aE.o.few;rw [bv.o]at h2;omega
   have a5: ∀b,X.heap.size<=b->s.tag b=none:=fun b q=>by
    cases hT:s.tag b with
    |none=>rfl
    |some U=>have:=aD.o.own.lt b U hT;omega
   obtain⟨ar,cr,gb,cap,Y3,dg,cc,az,b9⟩:=b2.snoc a8 (fun b q=>⟨a5 b (by have:=(zE a8 b q).1;omega),by have:=(zE a8 b q).1;omega⟩) wA (fun b q=>⟨a5 b wA,wA⟩);have aL: ∀b,vr.ownBlock=some b->s.tag b=none/\W4.heap.size+2<=b:=by
    obtain⟨_,_,_,h,_⟩:=b2;exact h
   have aV:=bo.keep b9 (fun e=>by have:=(aL nb e).2;omega);have e3:rows.take k++ [u]=rows.take (k+1):=by rw [zh,aS.o];rfl
   rw [e3]at az;rw [bH]at dg cc az;subst dg;have eJ:=bo.cell;have fe:=bo.lt;have eK:=aV.cell;have eN:=qg aV 0;have ff:=aV.lt;have b6:=qgi (.slice (some ⟨gb,0,none⟩) (k+1) cap) aV;obtain⟨Z,hZ⟩:=ex (Y3.setCell ⟨nb,0,none⟩ (.slice (some ⟨gb,0,none⟩) (k+1) cap));have kZ:Keep (fun b=>b≠nb) Y3 Z:=by rw [←hZ];exact kSc
   rw [hZ]at b6;have bf:Keep (fun b=>b≠nb/\(Value.slice ar k cr).ownBlock≠some b) Y Z:=(bc.mt.trans (b9.mono fun b _ h=>h.2)).trans (kZ.mono fun b _ h=>h.1);have bM:=az.keep kZ (P':=fun b=>s.tag b=none/\W4.heap.size+2<=b) (fun b _ q=>⟨wA,q⟩);have aZ:=(qfd R n Pp Km).invk ((qfd R n Pp Km).invk aD.o (aG.o.mono fun b _ h e=>by subst e;exact h bw.o.1)) (bf.mono fun b _ h=>⟨fun e=>by subst e;exact h g2,fun e=>h (aL b e).1⟩);have es:nb<W3.heap.size:=by have:=cp.o.lt;simpa using this
   have cU:=(cw.o.keep aG.o (fun b h1 h2=>wA)).keep bf (fun b h1 h2=>⟨by have h3:W3.heap.size<=b:=(by simpa using h1);omega,fun e=>by have:=(aL b e).2;omega⟩);have db:=(cq.o.keepOn aG.o (fun b q _=>wA)).keepOn bf (fun b q _=>⟨wA,fun e=>by have:=(aL b e).2;omega⟩);have hf:qfl (qfd R n Pp Km) W4.heap.size l X.heap.size (MatchV W3.drew.heap.size W4.heap.size bR bL bK bT bF R vl dm 0 (upto:Int) d (qaa xs key)) s Y Z
     (fun s'=> ∃vr,BoxAt Z nb 69 vr/\s'.tag nb=none/\RowsAt (fun b=>s'.tag b=none/\W4.heap.size+2<=b) Z vr (rows.take (k+1))/\RelSame s0 W2 s' Z):=
    ⟨s,aZ,cU,RelBd.refl _ _,bf.mono (fun b _ h=>⟨wA,fun e=>by have:=(aL b e).2;omega⟩),_,b6,g2,bM,db⟩
   clear b6 kZ bf az bM aZ cU db aL b9 a8 bo b2 bc aV a5 bH dV e3;refine hd3 ?_ hf cc hZ;clear hf cc hZ;intro dB cF dA
   gi_wp2_with (gi_at_builtin;refine qcd rfl _ _ _ rfl rfl rfl cF.o ?_)
   rw [dA.o];exact dB.o
  case done=>
   rintro D s W hD dT cV fb ⟨vr,h1,h2,h3,h4⟩ aX dP;have c1:=h1.cell;have l1:=h1.lt;have ca:Keep (fun b=>b≠D) W (W.putObj D (.deferred none)):=Keep.putObj _ _ _ wC;obtain⟨e1,e2,e3⟩:=q4d (n0:=n0) aH.o hS al.o (qfq cC.o) ab.o (aU.o W1 (Keep.refl _ _)) k2 h4 aX ca dT wA;have d6:=k2.size;have b7:=e2.heap ah.o ⟨e3,wA⟩;have f2:=qb b7 0 _ rfl;have f3:=qg b7 0;simp only [zD]at f2;have dX:rows.take (qel n s0.ts d (qaa xs key) 0 (upto:Int)).length=rows:=by rw [bv.o,zi]
   have ep:w.heap.size<=W4.heap.size:=by have:=k2.size;omega
   rw [dX]at h3;have az:RowsAt (fun b=>({g with tag:=qb3 g.tag S R s.tag}:Gh).free b/\w.heap.size<=b) ((W.putObj D (.deferred none)).setCell ⟨S,0,none⟩ (.int .i32 0)) vr rows:=by
    refine(h3.keep ca (P':=fun b=>s.tag b=none/\W4.heap.size+2<=b) (fun b _ q=>⟨wA,q⟩)).keep (Keep.setCell (C:=fun b=>b≠S) _ _ _ wC) (fun b _ q=>⟨wA,⟨?_,?_⟩,wA⟩)
    ·show qb3 g.tag S R s.tag b=none;unfold qb3;rw [q.1];cases hT:g.tag b with
     |none=>rfl
     |some U=>have:=aH.o.lt b U hT;omega
    ·show g.held b=none;cases hT:g.held b with
     |none=>rfl
     |some o=>have:=qe (aH.o.hold b o hT);omega
   clear b7 e2 e3 ca h1 h2 h3 h4 dP aX;refine hd5 ?_ cV e1 az f2 f3;clear cV e1 az f2 f3;intro cz dv cH dw dx;gi_wp2;refine qhp cz.o (qhj dw.o dx.o (qcn (xm rfl _ _ _) ⟨_,vr,rfl,dv.o,rfl,rfl,?_⟩));rw [cI.o];exact cH.o
end Go.Proofs
namespace Go.Proofs
open Go.RowKit Go.Ink R4
attribute [local go_sem] Oper.semAt_some
def Gh.with (g:Gh)(S:Nat)(c:List qj):Nat->Option (List qj):=fun b=>if b=S then some c else g.st b
def qdv (tag:qde)(S T MX M:Nat):qde:=fun b=>if b=S then some (S,.box) else if b=T then some (S,.tab) else if b=MX then some (S,.nums) else if b=M then some (S,.rels) else tag b
theorem q4e {n0:Nat}{g:Gh}{w w':World}(p:GInv g w)(hK:wE w w'){S T MX M:Nat}(h1:w.heap.size<=S)(h2:w.heap.size<=T)(h3:w.heap.size<=MX)(h4:w.heap.size<=M)(hd:S≠T/\S≠MX/\S≠M/\T≠MX/\T≠M/\MX≠M)
  (x:w'.heap[S]?=some (.cells (qe3 T M 0).toArray 116 (0,0))) (l:TabAt w' T MX (.slice none 0 0) []) (hrel:qio w' M []):
  GStep n0 g w {g with st:=g.with S [],tag:=qdv g.tag S T MX M} w':=by
 obtain⟨d1,d2,d3,d4,d5,d6⟩:=hd;have tS:qdv g.tag S T MX M S=some (S,.box):=by unfold qdv;rw [zI rfl]
 have tT:qdv g.tag S T MX M T=some (S,.tab):=by unfold qdv;rw [zF (fun e=>d1 e.symm),zI rfl]
 have tX:qdv g.tag S T MX M MX=some (S,.nums):=by unfold qdv;rw [zF (fun e=>d2 e.symm),zF (fun e=>d4 e.symm),zI rfl]
 have tM:qdv g.tag S T MX M M=some (S,.rels):=by unfold qdv;rw [zF (fun e=>d3 e.symm),zF (fun e=>d5 e.symm),zF (fun e=>d6 e.symm),zI rfl]
 have q: ∀b,b<w.heap.size->qdv g.tag S T MX M b=g.tag b:=fun b d=>by unfold qdv;rw [zF wA,zF wA,zF wA,zF wA]
 have u: ∀b U,qdv g.tag S T MX M b=some U->U.1=S∨g.tag b=some U:=fun b U d=>by
  unfold qdv at d;split at d
  ·cases d;exact .inl rfl
  ·split at d
   ·cases d;exact .inl rfl
   ·split at d
    ·cases d;exact .inl rfl
    ·split at d
     ·cases d;exact .inl rfl
     ·exact .inr d
 have Y: ∀b U,g.tag b≠some (S,U):=fun b U d=>by
  obtain⟨c,t⟩:=p.own b S U d;obtain⟨T',M',y,vx,xs,rl,z⟩:=p.store S c t;have:=qe z.box;omega
 have zK:=hK.size;refine⟨hK.mt,fun S' c t=>⟨[],?_⟩,fun b d v=>⟨(q b d).trans v.1,v.2⟩,fun _ _=>rfl,?_⟩
 ·obtain⟨T',M',y,vx,xs,rl,z⟩:=p.store S' c t;have:=qe z.box;show g.with S [] S'=_;unfold Gh.with;rw [zF wA,yP];exact t
 refine⟨fun S' c t=>?_,fun b S' U d=>?_,fun b U d=>?_,fun b o d=>hK.heap (p.hold b o d) wF,fun b o d=>(q b (qe (p.hold b o d))).trans (p.apart b o d),fun b S' R U d=>?_⟩
 ·have m:g.with S [] S'=some c:=t;clear t;unfold Gh.with at m;split at m
  ·rename_i e;subst e;injection m with m
   subst m;exact⟨T,M,MX,.slice none 0 0,[],[],tS,x,tT,l.tab,l.own,fun b d=>(by simp [Value.ownBlock] at d),tX,l.nums,tM,hrel,fun k R hk=>(by cases hk),wC,fun f v=>(by cases v),fun f s v=>(by cases v),nodup_nil,wC,wC⟩
  ·rename_i e;refine(p.store S' c m).keep hK (fun _ _ _=>wF) (fun b U=>⟨fun d=>?_,fun d=>?_⟩)
   ·rcases u b _ d with h |h
    ·exact absurd h e
    ·exact h
   ·show qdv g.tag S T MX M b=some (S',U);rw [q b (p.lt b _ d)];exact d
 ·rcases u b _ d with h |h
  ·simp only at h;subst h;exact⟨[],by show g.with S' [] S'=_;unfold Gh.with;rw [zI rfl]⟩
  ·obtain⟨c,t⟩:=p.own b S' U h;by_cases e:S'=S
   ·subst e;exact absurd h (Y b U)
   ·exact⟨c,by show g.with S [] S'=_;unfold Gh.with;rw [zF e];exact t⟩
 ·have d:qdv g.tag S T MX M b=some U:=d;unfold qdv at d;split at d
  ·rename_i e;subst e;exact qe x
  ·split at d
   ·rename_i e;subst e;exact qe l.tab
   ·split at d
    ·rename_i e;subst e;exact l.nums.lt
    ·split at d
     ·rename_i e;subst e;exact hrel.lt
     ·exact zk (p.lt b U d) zK
 ·have d:qdv g.tag S T MX M b=some (S',.rel R U):=d;unfold qdv at d;split at d
  ·cases d
  ·split at d
   ·cases d
   ·split at d
    ·cases d
    ·split at d
     ·cases d
     ·exact zk (p.reln b S' R U d) zK
theorem q4f {n0:Nat}{g:Gh}{w:World}(hg:GInv g w):Calls prog 29 #[] w fun e w'=> ∃S g',e=.returned (qk S)/\GStep n0 g w g' w'/\g'.st=g.with S []/\g'.held=g.held/\w.heap.size<=S:=by
 obtain⟨W0,d⟩:=ex (w.alloc (.cells #[.int .i32 0,.int .u32 0,.bool false,.pointer none,.map none,.int .i64 0] 116));have k0:wE w W0:=by rw [←d];exact kAl
 have z0:W0.heap.size=w.heap.size+1:=by rw [←d];simp
 have q0:W0.heap[w.heap.size]?=some (.cells #[.int .i32 0,.int .u32 0,.bool false,.pointer none,.map none,.int .i64 0] 116 (0,0)):=by rw [←d];exact qh _ _
 have ar:= @run_makeMap prog;obtain⟨S,hS⟩:=ex (w.heap.size);rw [hS]at q0;refine hd5 ?_ hg k0 q0 d hS;clear hg k0 q0 d hS;intro Y aa ab s c
 go_enter Tryz.func29,Tryz.ntmps29
 go_wp2_with fail;rw [s.o,c.o];refine(q05 W0).mono ?_;rintro e W1 ⟨T,MX,rfl,y,ap,aq,af,z⟩;obtain⟨M,hM⟩:=ex (W1.heap.size);have q1:=z.heap ab.o trivial;have m:=(Keep.alloc (fun _=>True) W1 (.map #[] 0)).heap q1 trivial;have a2:=qb m 2 _ rfl;have a3:=qb m 3 _ rfl;have a4:=qb m 4 _ rfl;have f2:=qg m 2;have f3:=qg m 3;have f4:=qg m 4;have l2:=qe m;have t:qio (W1.alloc (.map #[] 0)) M []:=by rw [←hM];exact qh4 W1
 have v:=y.keep (Keep.alloc (fun _=>True) W1 (.map #[] 0)) trivial trivial (fun _ _=>wF);have s1:=qaj 2 (.bool true) m;have s2:=qaj 3 (qk T) s1;have s3:=qaj 4 (.map (some M)) s2;have R:Keep (fun b=>b≠S) (W1.alloc (.map #[] 0)) ((((W1.alloc (.map #[] 0)).setCell ⟨S,2,none⟩ (.bool true)).setCell ⟨S,3,none⟩ (qk T)).setCell ⟨S,4,none⟩ (.map (some M))):=((kSc).trans (kSc)).trans (kSc);have z1:=z.size;have x:=v.keep R (by have:=c.o;omega) (by have:=c.o;omega) (fun b hb=>by simp [Value.ownBlock] at hb);have u:=t.keep R (by have:=c.o;omega);have kk:wE w ((((W1.alloc (.map #[] 0)).setCell ⟨S,2,none⟩ (.bool true)).setCell ⟨S,3,none⟩ (qk T)).setCell ⟨S,4,none⟩ (.map (some M))):=
  (((aa.o.trans z).trans kAl).mono (C':=fun b=>b<w.heap.size) (fun _ _ _=>wF)).trans (R.mono fun b _ h=>by have:=c.o;omega) |>.mono (fun b hb _=>hb)
 have p:=q4e (n0:=n0) Y.o kk (S:=S) (T:=T) (MX:=MX) (M:=M) (by have:=c.o;omega) wA wA wA ⟨by have:=c.o;omega,by have:=c.o;omega,by have:=c.o;omega,af,by have:=qe y.tab;omega,by have:=y.nums.lt;omega⟩ (by simpa [qe3] using s3) x u;clear q1 m s1 s2 s3 R y v x t u kk z;refine hd2 ?_ p hM;clear p hM;intro q U;simp only [zD]at a2 a3 a4;go_wp2_with fail;have l:=q.o;rw [←U.o]at l;go_ret;exact⟨S,_,rfl,l,rfl,rfl,by have:=c.o;omega⟩
end Go.Proofs
namespace Go.Proofs
open Go.RowKit Go.Ink P16
attribute [local go_sem] Oper.semAt_some
theorem qv2 {gf:Nat}{bs lb:Array Value}(eg: ∀args w,(callFunc gf args).run prog w=.ok (.enter gf args) w)(p:ByteArray->Bool)(n0:Nat)(v:Value)(xs:List (ByteArray))(w:World)(hx:qaf n0 w v xs)(hn:n0<=w.heap.size)
  (hf: ∀x,x∈xs-> ∀W,Keep (fun b=>b<w.heap.size) w W->Calls prog gf (bs.push (.string x)++lb) W fun e w'=>e=.returned (.bool (p x))/\Keep (fun b=>b<W.heap.size) W w'):
  Calls prog 131 #[v,.func (.func gf) bs lb] w fun e w'=>e=.returned (.int .i64 (qcc p xs))/\Keep (fun b=>b<w.heap.size) w w':=by
 obtain⟨a,cap,rfl,ah,af,z⟩:=id hx;refine hd2 ?_ z hf;clear z hf;intro t Y
 go_enter Tryz.func131,Tryz.ntmps131
 go_wp2_with fail
 go_loopw [8] (fun i wr=> ∃k:Nat,k<=xs.length/\i=.int .i64 (k:Int)/\Keep (fun b=>b<w.heap.size) w wr/\(xs.take k).any p=false) (fun i _=>xs.length-(intOf i).toNat)
 case atStart=>exact⟨0,wA,rfl,Keep.refl _ _,rfl⟩
 case round=>
  obtain⟨k,hk,rfl,hK,c⟩:=hrel;have ao:=hK.size;by_cases ab:k<xs.length
  ·have ai:(k:Int)<xs.length:=by omega
   have an:(0:Int)<=k:=wA
   obtain⟨x,h⟩: ∃x,xs[k]?=some x:=⟨_,zB ab⟩;obtain⟨b,o,rfl,hb,q0⟩:=t.o k x h;have am:b<wr.heap.size:=wA
   have l:=qj9 p xs h;rw [c,xH]at l;have hc:=Y.o x (zH h) wr hK;obtain⟨px,s⟩: ∃b,p x=b:=⟨_,rfl⟩;have d:=qgd p xs k x h c;rw [s]at l hc d;unfold qgq at q0;have h0:=hK.cell q0 (show b<w.heap.size from wA);simp only [yB] at h0;clear h q0;refine hd6 ?_ hK c l s hc d;clear hK c l s hc d;intro q R u ae U g;go_wp2_with fail;refine U.o.mono ?_;rintro e W1 ⟨rfl,k1⟩;have y:=q.o.trans (k1.mono fun b hb _=>wA);clear k1;refine hd1 ?_ y;clear y;intro m;cases px
   ·go_wp2_with fail;go_roundw
    case rel=>exact⟨k+1,wA,by go_num,m.o,u.o⟩
    case measure=>simp [intOf];omega
   ·go_wp2_with fail;go_ret;exact⟨by rw [g.o (by trivial)];rfl,m.o⟩
  ·obtain rfl:k=xs.length:=by omega
   rw [zi]at c;have d:=qgc p xs c;refine hd2 ?_ hK d;clear hK d;intro q g;go_wp2_with fail;go_ret;exact⟨by rw [g.o];rfl,q.o⟩
theorem qv3 {gf:Nat}{bs lb:Array Value}(t: ∀args w,(callFunc gf args).run prog w=.ok (.enter gf args) w)(p:ByteArray->Bool)(n0:Nat)(v:Value)(xs:List (ByteArray))(w:World)(z:qaf n0 w v xs)(Y:n0<=w.heap.size)
  (q: ∀x,x∈xs-> ∀W,Keep (fun b=>b<w.heap.size) w W->Calls prog gf (bs.push (.string x)++lb) W fun e w'=>e=.returned (.bool (p x))/\Keep (fun b=>b<W.heap.size) W w'):
  Calls prog 89 #[v,.func (.func gf) bs lb] w fun e w'=>e=.returned (.bool (xs.any p))/\Keep (fun b=>b<w.heap.size) w w':=by
 have hi:=qv2 t p n0 v xs w z Y q;have l:=qf4 p xs;obtain⟨i,c⟩:=ex (qcc p xs);rw [c]at hi l;obtain⟨a,cap,rfl,y,u,m⟩:=id z;clear m t;refine hd4 ?_ hi q l c;clear hi q l c;intro g U d s
 go_enter Tryz.func89,Tryz.ntmps89
 go_wp2_with fail;refine g.o.mono ?_;rintro e W1 ⟨rfl,R⟩;refine hd1 ?_ R;clear R;intro h;go_wp2_with fail;go_ret;exact⟨by rw [←d.o];rfl,h.o⟩
theorem q01 (s:ByteArray)(w:World):Calls prog 90 #[.string s] w fun e w'=>e=.returned (.bool (decide (1024<s.size)))/\w'=w:=by
 go_enter Tryz.func90,Tryz.ntmps90
 go_wp2_with fail;go_ret;refine⟨?_,rfl⟩;simp;omega
theorem qxu (n0:Nat)(v:Value)(xs:List ByteArray)(w:World)(d:qaf n0 w v xs)(c:n0<=w.heap.size):
  Calls prog 89 #[v,.func (.func 90) #[] #[]] w fun e w'=>e=.returned (.bool (xs.any fun s=>decide (1024<s.size)))/\Keep (fun b=>b<w.heap.size) w w':=
 qv3 (qd6 Tryz.func90 wB rfl) (fun s=>decide (1024<s.size)) n0 v xs w d c (fun x _ W _=>(q01 x W).mono fun e w' h=>⟨h.1,by rw [h.2];exact Keep.refl _ _⟩)
end Go.Proofs
