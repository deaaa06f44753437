/- Parts of the proof. -/
import Derived.Test.YtnponcjnahicnaaGreatDoorRelKToRelO
import Derived.Deep.MidRow
set_option linter.unusedSimpArgs false
set_option linter.unusedVariables false
set_option maxRecDepth 100000
set_option maxHeartbeats 4000000
open Go.Proofs.Tryz(prog)
open List(filter_congr filter_eq_nil_iff filter_filter find?_some getElem?_drop getElem?_set length_range map_set nil_append pairwise_cons pairwise_iff_getElem pairwise_lt_range singleton_append take_zero)
namespace Go.Proofs.R4
open Go.RowKit Go.Ink
attribute [local go_sem] Oper.semAt_some
theorem qiz (b:Nat): ∀(vs:List Value) (i:Nat) (w:World),World.setCells w b i vs=qg9 b vs i w
 | [],_,_=>rfl
 |v::vs,i,w=>qiz b vs (i+1) _
theorem qmq {b t:Nat}{e:Nat×Nat}{w:World}{d:Array Value}(c:List Value)(h:w.heap[b]?=some (.cells d t e))(g:c.length=d.size):(World.setCells w b 0 c).heap[b]?=some (.cells c.toArray t e):=by
 rw [qiz];exact qha c h g
theorem qmr (b:Nat)(c:List Value)(i:Nat)(w:World):Keep (fun j=>j≠b) w (World.setCells w b i c):=by
 rw [qiz];exact qe8 b c i w
theorem qj5 (l:List Int):(qax l).length=16:=by simp [qax]
theorem q6m {l:List Int}{x:Int}(g:0<=x)(c:x<16):((qax l).map Value.bool).toArray.setIfInBounds x.toNat (.bool true)=((qax (l++ [x])).map .bool).toArray:=by
 apply Array.ext';simp only [Array.toList_setIfInBounds];rw [←map_set]
 congr 1
 apply xX;intro i;simp only [qax,getElem?_set,zP,zL,length_range];by_cases hi:x.toNat=i
 ·subst hi;rw [zI rfl,zI wA,xr wA];have:((x.toNat:Nat):Int)=x:=by omega
  simp [this]
 ·rw [zF hi];cases b:(List.range 16)[i]? with
  |none=>rfl
  |some j=>
   have e:j=i:=by
    rw [zA]at b;obtain⟨h,d⟩:=b
    simpa using d.symm
   subst e;have:((j:Nat):Int)≠x:=wA
   simp [this]
theorem qve:qax []= [false,false,false,false,false,false,false,false,false,false,false,false,false,false,false,false]:=by simp [qax,xx]
def qj6 (n:Nat)(l:List Int):List Bool:=if qdz n l=true then qax l else qax []
theorem q3q {n:Nat}{l:List Int}(b: ∀i,i<l.length->qid n l i=true):qdz n l=true:=yM.2 fun i hi=>b i (by simpa using hi)
theorem q8i {w:World}{B n c P K:Nat}{vD:Value}(h:w.heap[B]?=some (.cells (qfm n vD c P K).toArray 209 (0,0)))(hn:n<=16)(m:Nat)(v:Value)(l:List Int)(hs:qay m w v l)(hm:m<=w.heap.size):
  Calls prog 226 #[.pointer (some ⟨B,0,none⟩),v] w fun e w'=>e=.returned (.tuple #[qij (qj6 n l),.bool (qdz n l)])/\Keep (fun k=>k<w.heap.size) w w':=by
 obtain⟨a,cc,rfl,b2,bW,a0⟩:=id hs;have hB:=qe h;obtain⟨W0,aM⟩:=ex ((w.alloc (.cells #[.bool false,.bool false,.bool false,.bool false,.bool false,.bool false,.bool false,.bool false,.bool false,.bool false,.bool false,.bool false,.bool false,.bool false,.bool false,.bool false] 217)).alloc (.cells #[.bool false,.bool false,.bool false,.bool false,.bool false,.bool false,.bool false,.bool false,.bool false,.bool false,.bool false,.bool false,.bool false,.bool false,.bool false,.bool false] 217));have a3:wE w W0:=by rw [←aM];exact kAl.trans kAl
 have s0:W0.heap.size=w.heap.size+1+1:=by rw [←aM];simp
 have n1:W0.heap[w.heap.size]?=some (.cells #[.bool false,.bool false,.bool false,.bool false,.bool false,.bool false,.bool false,.bool false,.bool false,.bool false,.bool false,.bool false,.bool false,.bool false,.bool false,.bool false] 217 (0,0)):=by rw [←aM];exact qf0 (qh _ _) _
 have n2:W0.heap[w.heap.size+1]?=some (.cells ((qax (l.take 0)).map .bool).toArray 217 (0,0)):=by rw [←aM];rw [take_zero,qve];simp only [qar,zO];simp
 have ap:(prog.info? 217).map (·.size)=some 16:=wB
 refine hd7 ?_ h hs a0 n1 n2 a3 ap;clear h hs a0 n1 n2 a3 ap;intro Xh bG aX bi bj aY ah
 go_enter Tryz.func226,Tryz.ntmps226
 go_wp2_with fail
 go_loopw [12,7] (fun i j wr=> ∃k:Nat,k<=l.length/\i=.int .i64 k/\j=.int .i64 (if k=0 then-1 else l.getD (k-1) 0)/\Keep (fun j=>j≠w.heap.size+1) W0 wr/\wr.heap[w.heap.size+1]?=some (.cells ((qax (l.take k)).map .bool).toArray 217 (0,0))/\ ∀i,i<k->qid n l i=true) (fun i j _=>l.length-(intOf i).toNat)
 case atStart=>exact⟨0,wA,rfl,rfl,Keep.refl _ _,bj.o,fun i hi=>wA⟩
 case round=>
  obtain⟨k,hk,rfl,rfl,hK,p,s⟩:=hrel;have bz:=hK.size;have ad:Keep (fun j=>j<w.heap.size) w wr:=(aY.o.mt).trans (hK.mono fun b _ h=>wA);have ai:=ad.heap Xh.o hB;have af:=hK.heap bi.o wA;have c0:=qb ai 0 _ rfl;have au:wr.there w.heap.size 0 16:=fun j hj=>by
   rw [zD];refine⟨?_,qg af j⟩;simp [World.cell?,af];omega
  simp only [zD]at c0;have bV:B<wr.heap.size:=wA
  have l1:w.heap.size<wr.heap.size:=wA
  have l2:w.heap.size+1<wr.heap.size:=wA
  by_cases aQ:k<l.length
  ·obtain⟨x,hx⟩: ∃x,l[k]?=some x:=⟨_,zB aQ⟩;obtain⟨b,o,rfl,hb,aV⟩:=aX.o k x hx;have aV:=ad.cell aV (by simp only;omega);simp only [yB]at aV;have d:b<wr.heap.size:=by omega
   have bx:(k:Int)<l.length:=wA
   have b1:(0:Int)<=k:=wA
   have aO:l.getD k 0=x:=by rw [zJ,hx];rfl
   obtain⟨q,y⟩:=ex ((if k=0 then (-1:Int) else l.getD (k-1) 0));have bh: -1<=q:=by
    rw [←y];split
    ·omega
    ·have:=s (k-1) wA;simp only [qid,zV,zT]at this;omega
   rw [y];have aN:qid n l k=true↔q<x/\x<n:=by
    simp only [qid,zV,zT,y8,xC,aO];rw [←y];by_cases h0:k=0
    ·simp [h0];omega
    ·rw [zF h0];have:=s (k-1) wA;simp only [qid,zV,zT]at this;constructor
     ·rintro⟨⟨q1,q2⟩,q3⟩;exact⟨q3.resolve_left h0,q2⟩
     ·rintro⟨q1,q2⟩;exact⟨⟨wA,q2⟩,.inr q1⟩
   by_cases u:q<x/\x<n
   ·obtain⟨g1,g2⟩:=u;have g3: ¬(x<=q):=by omega
    have g4: ¬((n:Int)<=x):=wA
    have g5:(0:Int)<=x:=wA
    have g6:x<16:=wA
    have ak:=qaj x.toNat (.bool true) p;rw [q6m g5 g6]at ak;have aq:l.take (k+1)=l.take k++ [x]:=by rw [zh,hx];rfl
    rw [←aq]at ak;have b0:wr.frozen? ⟨w.heap.size+1,x.toNat,none⟩=false:=by simp [World.frozen?,p]
    obtain⟨u0,b3⟩: ∃u0,wr.cell? ⟨w.heap.size+1,x.toNat,none⟩=some u0:=by
     have bs:x.toNat<((qax (l.take k)).map Value.bool).length:=by rw [zL,qj5];omega
     have:=qb p x.toNat _ (by exact zB bs);rw [zD]at this;exact⟨_,this⟩
    have ao: ∀i,i<k+1->qid n l i=true:=fun i hi=>by
     rcases yY i k with h1 |h1
     ·exact s i h1
     ·have:i=k:=by omega
      subst this;exact aN.2 ⟨g1,g2⟩
    have aj:(if k+1=0 then (-1:Int) else l.getD (k+1-1) 0)=x:=by rw [zF wA,Nat.add_sub_cancel];exact aO
    clear aN s ai af p aq hx aO y au;refine hd5 ?_ ak hK ad ao aj;clear ak hK ad ao aj;intro aT aR ag aL am;go_wp2_with fail;exact⟨⟨k+1,wA,wC,by rw [am.o],aR.o.trans (kSc),aT.o,aL.o⟩,by simp [intOf];omega⟩
   ·have t:qdz n l=false:=by
     rw [Bool.eq_false_iff];intro bt;exact u (aN.1 (yM.1 bt k (by simpa using aQ)))
    have aP:qij (qj6 n l)=.agg #[.bool false,.bool false,.bool false,.bool false,.bool false,.bool false,.bool false,.bool false,.bool false,.bool false,.bool false,.bool false,.bool false,.bool false,.bool false,.bool false]:=by
     unfold qj6;rw [t,zF wC,qve]
     rfl
    by_cases g1:q<x
    focus
     have g2:(n:Int)<=x:=by
      rcases Int.lt_or_le x n with h1 |h1
      ·exact absurd ⟨g1,h1⟩ u
      ·exact h1
     have g3: ¬(x<=q):=wA
     clear u
    rotate_left
    focus
     have g3:x<=q:=wA
     clear u g1
    rotate_left
    all_goals
     clear aN s ai p hx aO y;refine hd6 ?_ af hK ad t aP au;clear af hK ad t aP au;intro al aR ag ae aS an;go_wp2_with (refine wpList_store_mid rfl 217 _ _ rfl w.heap.size 0 #[.bool false,.bool false,.bool false,.bool false,.bool false,.bool false,.bool false,.bool false,.bool false,.bool false,.bool false,.bool false,.bool false,.bool false,.bool false,.bool false] rfl rfl an.o ah.o (by simp [Value.oneCell']) ?_);refine qjw (fun W=>W.heap[w.heap.size]?=some (.cells #[.bool false,.bool false,.bool false,.bool false,.bool false,.bool false,.bool false,.bool false,.bool false,.bool false,.bool false,.bool false,.bool false,.bool false,.bool false,.bool false] 217 (0,0))/\Keep (fun k=>k<w.heap.size) w W) (w:=World.setCells wr w.heap.size 0 [.bool false,.bool false,.bool false,.bool false,.bool false,.bool false,.bool false,.bool false,.bool false,.bool false,.bool false,.bool false,.bool false,.bool false,.bool false,.bool false]) ⟨qmq [.bool false,.bool false,.bool false,.bool false,.bool false,.bool false,.bool false,.bool false,.bool false,.bool false,.bool false,.bool false,.bool false,.bool false,.bool false,.bool false] al.o rfl,ag.o.trans ((qmr _ _ _ _).mono (fun b _ h=>wA))⟩ ?_;rintro W2 ⟨g,kq⟩;have r0:=qb g 0 _ rfl;have r1:=qb g 1 _ rfl;have r2:=qb g 2 _ rfl;have r3:=qb g 3 _ rfl;have r4:=qb g 4 _ rfl;have r5:=qb g 5 _ rfl;have r6:=qb g 6 _ rfl;have r7:=qb g 7 _ rfl;have r8:=qb g 8 _ rfl;have r9:=qb g 9 _ rfl;have aF:=qb g 10 _ rfl;have aG:=qb g 11 _ rfl;have aH:=qb g 12 _ rfl;have aI:=qb g 13 _ rfl;have aJ:=qb g 14 _ rfl;have aK:=qb g 15 _ rfl;simp only [zD]at r0 r1 r2 r3 r4 r5 r6 r7 r8 r9 aF aG aH aI aJ aK;clear g;refine hd1 ?_ kq;clear kq;intro aU;refine yA (v:=.tuple #[.agg #[.bool false,.bool false,.bool false,.bool false,.bool false,.bool false,.bool false,.bool false,.bool false,.bool false,.bool false,.bool false,.bool false,.bool false,.bool false,.bool false],.bool false]) (by simp [results,Tryz.results226,go_sem,r0,r1,r2,r3,r4,r5,r6,r7,r8,r9,aF,aG,aH,aI,aJ,aK]) rfl ⟨by rw [aS.o,ae.o],aU.o⟩
  ·generalize (if k=0 then (-1:Int) else l.getD (k-1) 0)=q;obtain rfl:k=l.length:=by omega
   rw [zi]at p;have t:qdz n l=true:=q3q s;obtain⟨k0,k1,k2,k3,k4,k5,k6,k7,k8,k9,z,R,U,Y,aa,ab,ar⟩: ∃k0 k1 k2 k3 k4 k5 k6 k7 k8 k9 z R U Y aa ab,qax l= [k0,k1,k2,k3,k4,k5,k6,k7,k8,k9,z,R,U,Y,aa,ab]:=by
    have a1:=qj5 l
    match h:qax l,a1 with
    | [k0,k1,k2,k3,k4,k5,k6,k7,k8,k9,z,R,U,Y,aa,ab],_=>exact⟨k0,k1,k2,k3,k4,k5,k6,k7,k8,k9,z,R,U,Y,aa,ab,rfl⟩
   have aZ:qij (qj6 n l)=.agg #[.bool k0,.bool k1,.bool k2,.bool k3,.bool k4,.bool k5,.bool k6,.bool k7,.bool k8,.bool k9,.bool z,.bool R,.bool U,.bool Y,.bool aa,.bool ab]:=by unfold qj6;rw [t,zI rfl,ar];rfl
   rw [ar]at p;have d:wr.heap[w.heap.size+1]?=some (.cells #[.bool k0,.bool k1,.bool k2,.bool k3,.bool k4,.bool k5,.bool k6,.bool k7,.bool k8,.bool k9,.bool z,.bool R,.bool U,.bool Y,.bool aa,.bool ab] 217 (0,0)):=p;have c1:=qb d 0 _ rfl;have c2:=qb d 1 _ rfl;have c3:=qb d 2 _ rfl;have c4:=qb d 3 _ rfl;have c5:=qb d 4 _ rfl;have c6:=qb d 5 _ rfl;have c7:=qb d 6 _ rfl;have c8:=qb d 7 _ rfl;have c9:=qb d 8 _ rfl;have bk:=qb d 9 _ rfl;have bl:=qb d 10 _ rfl;have bm:=qb d 11 _ rfl;have bn:=qb d 12 _ rfl;have bo:=qb d 13 _ rfl;have bp:=qb d 14 _ rfl;have bq:=qb d 15 _ rfl;simp only [zD]at c1 c2 c3 c4 c5 c6 c7 c8 c9 bk bl bm bn bo bp bq;clear p ar d s ai;refine hd6 ?_ af hK ad t aZ au;clear af hK ad t aZ au;intro al aR ag ae aW an;go_wp2_with (refine wpList_store_mid rfl 217 _ _ rfl w.heap.size 0 #[.bool k0,.bool k1,.bool k2,.bool k3,.bool k4,.bool k5,.bool k6,.bool k7,.bool k8,.bool k9,.bool z,.bool R,.bool U,.bool Y,.bool aa,.bool ab] rfl rfl an.o ah.o (by simp [Value.oneCell']) ?_);refine qjw (fun W=>W.heap[w.heap.size]?=some (.cells #[.bool k0,.bool k1,.bool k2,.bool k3,.bool k4,.bool k5,.bool k6,.bool k7,.bool k8,.bool k9,.bool z,.bool R,.bool U,.bool Y,.bool aa,.bool ab] 217 (0,0))/\Keep (fun k=>k<w.heap.size) w W) (w:=World.setCells wr w.heap.size 0 [.bool k0,.bool k1,.bool k2,.bool k3,.bool k4,.bool k5,.bool k6,.bool k7,.bool k8,.bool k9,.bool z,.bool R,.bool U,.bool Y,.bool aa,.bool ab]) ⟨qmq [.bool k0,.bool k1,.bool k2,.bool k3,.bool k4,.bool k5,.bool k6,.bool k7,.bool k8,.bool k9,.bool z,.bool R,.bool U,.bool Y,.bool aa,.bool ab] al.o rfl,ag.o.trans ((qmr _ _ _ _).mono (fun b _ h=>wA))⟩ ?_;rintro W2 ⟨g,kq⟩;have r0:=qb g 0 _ rfl;have r1:=qb g 1 _ rfl;have r2:=qb g 2 _ rfl;have r3:=qb g 3 _ rfl;have r4:=qb g 4 _ rfl;have r5:=qb g 5 _ rfl
   have r6:=qb g 6 _ rfl;have r7:=qb g 7 _ rfl;have r8:=qb g 8 _ rfl;have r9:=qb g 9 _ rfl;have aF:=qb g 10 _ rfl;have aG:=qb g 11 _ rfl;have aH:=qb g 12 _ rfl;have aI:=qb g 13 _ rfl;have aJ:=qb g 14 _ rfl;have aK:=qb g 15 _ rfl;simp only [zD]at r0 r1 r2 r3 r4 r5 r6 r7 r8 r9 aF aG aH aI aJ aK;clear g;refine hd1 ?_ kq;clear kq;intro aU;refine yA (v:=.tuple #[.agg #[.bool k0,.bool k1,.bool k2,.bool k3,.bool k4,.bool k5,.bool k6,.bool k7,.bool k8,.bool k9,.bool z,.bool R,.bool U,.bool Y,.bool aa,.bool ab],.bool true]) (by simp [results,Tryz.results226,go_sem,r0,r1,r2,r3,r4,r5,r6,r7,r8,r9,aF,aG,aH,aI,aJ,aK]) rfl ⟨by rw [aW.o,ae.o],aU.o⟩
theorem q3r: ∀w:World,(zeroValue 218).run prog w=.ok (.pointer none) w:=fun w=>wB
theorem q6n {tag d:qb9}{y w2:World}{B n:Nat}{ts:List (List Int)}{vD:Value}{P K:Nat}{lm:List (List Bool×Nat)}(h:qci tag y B n ts vD P K lm){c:List Bool}{L:Nat}{l:List Int}{vl:Value}{M:Nat}{m:List (List Int×Value)}
  (hl:LookAt d y n ts c L l vl M m) (v: ∀b T,d b=some T->tag b=none/\b<y.heap.size/\qca (some T)=some c) (hc:c∉lm.map (·.1)) (hm:qyl w2 K (setK lm c L)) (t:Keep (fun b=>b≠K) y w2) (hold: ∀b T,tag b=some T->qca (some T)≠some c):
  qci (fun b=>match d b with |some T=>some T |none=>tag b) w2 B n ts vD P K (lm++ [(c,L)])/\TagLe tag (fun b=>match d b with |some T=>some T |none=>tag b):=by
 have hz:=t.size;have R: ∀b T,tag b=some T->d b=none:=fun b T g=>by
  cases hT:d b with
  |none=>rfl
  |some T'=>have:=(v b T' hT).1;rw [g] at this;cases this
 have p: ∀b T,tag b=some T->(fun b=>match d b with |some T=>some T |none=>tag b) b=some T:=fun b T g=>by simp only [R b T g];exact g
 have s: ∀b T,tag b=some T->T≠.kmap->b≠K:=fun b T g hT e=>hT (by rw [e,h.tagK] at g;cases g;rfl);refine⟨⟨p B _ h.tagB,t.heap h.box (s B _ h.tagB (fun e=>(by cases e))),h.n16,h.nodup,h.right,h.ok,qf h.own t (fun b g=>s b _ (h.tagD b g) (fun e=>(by cases e))),fun b g=>p b _ (h.tagD b g),p P _ h.tagP,h.pmap.keep t (s P _ h.tagP (fun e=>(by cases e))),p K _ h.tagK,?_,?_,?_,?_⟩,fun b T g=>.inl (p b T g)⟩
 ·have:setK lm c L=lm++ [(c,L)]:=by unfold setK;rw [zF hc]
  rw [←this];exact hm
 ·intro u z q;rcases zr.1 q with q |q
  ·obtain⟨l',aa,M',m',U⟩:=h.looks u z q;have Y:u≠c:=fun e=>hc (e▸yL.2 ⟨_,q,rfl⟩);refine⟨l',aa,M',m',U.keep t (fun b g e=>?_) (fun b g=>?_) (fun b g=>?_)⟩
   ·subst e;rw [h.tagK] at g;cases g
   ·cases hT:tag b with
    |none=>rw [hT] at g;cases g
    |some T=>rw [←hT];exact(p b T hT).trans hT.symm
   ·cases hT:d b with
    |none=>simp only [hT]
    |some T=>
     simp only [hT]at g;exact absurd ((yI (g.symm.trans (v b T hT).2.2))) Y
  ·simp only [zm,Prod.mk.injEq]at q;obtain⟨rfl,rfl⟩:=q;refine⟨l,vl,M,m,hl.keep t (fun b g e=>?_) (fun b g=>?_) (fun b g=>?_)⟩
   ·subst e;cases hT:d b with
    |none=>rw [hT] at g;cases g
    |some T=>have:=(v b T hT).1;rw [h.tagK] at this;cases this
   ·cases hT:d b with
    |none=>rw [hT] at g;cases g
    |some T=>simp only [hT]
   ·cases hT:d b with
    |none=>
     simp only [hT]at g⊢;cases x:tag b with
     |none=>rfl
     |some T2=>rw [x] at g;exact absurd g (hold b T2 x)
    |some T=>simp only [hT]
 ·intro b u g;cases hT:d b with
  |none=>
   simp only [hT]at g;obtain⟨z,h1⟩:=h.ents b u g;exact⟨z,xd _ h1⟩
  |some T=>
   simp only [hT]at g;have e:u=c:=yI (g.symm.trans (v b T hT).2.2);exact⟨L,by rw [e];simp⟩
 ·intro b T g;cases hT:d b with
  |none=>simp only [hT] at g;have:=h.lt b T g;omega
  |some T'=>have:=(v b T' hT).2.1;omega
theorem q9s {tag:qb9}{w:World}{B n:Nat}{ts:List (List Int)}{vD:Value}{P K:Nat}{lm:List (List Bool×Nat)}(h:qci tag w B n ts vD P K lm)(hl:ts.length<=134217728)(m:Nat)(v:Value)(l:List Int)(hs:qay m w v l)(hm:m<=w.heap.size)(aC:qdz n l=true):
  Calls prog 227 #[.pointer (some ⟨B,0,none⟩),qij (qax l),v] w fun e w'=> ∃L tag' lm',e=.returned (.pointer (some ⟨L,0,none⟩))/\
   Keep (fun b=>tag b=none) w w'/\qci tag' w' B n ts vD P K lm'/\(qax l,L)∈lm'/\TagLe tag tag'/\TagNew tag tag' w/\ ∀p,p∈lm->p∈lm':=by
 obtain⟨a,cc,rfl,aO,dc,ca⟩:=id hs;have hB:=qe h.box;have cj:=h.n16;have cF:l.length<=16:=by have:=qpm aC;omega
 have ay:=q9r (qj5 l);obtain⟨k0,k1,k2,k3,k4,k5,k6,k7,k8,k9,aa,ab,ad,ae,af,ag,a1⟩: ∃k0 k1 k2 k3 k4 k5 k6 k7 k8 k9 aa ab ad ae af ag,qax l= [k0,k1,k2,k3,k4,k5,k6,k7,k8,k9,aa,ab,ad,ae,af,ag]:=by
  have cg:=qj5 l
  match h:qax l,cg with
  | [k0,k1,k2,k3,k4,k5,k6,k7,k8,k9,aa,ab,ad,ae,af,ag],_=>exact⟨k0,k1,k2,k3,k4,k5,k6,k7,k8,k9,aa,ab,ad,ae,af,ag,rfl⟩
 have bh:qij (qax l)=.agg #[.bool k0,.bool k1,.bool k2,.bool k3,.bool k4,.bool k5,.bool k6,.bool k7,.bool k8,.bool k9,.bool aa,.bool ab,.bool ad,.bool ae,.bool af,.bool ag]:=by rw [a1];rfl
 obtain⟨Wb,aM⟩:=ex (w.alloc (.cells #[.bool k0,.bool k1,.bool k2,.bool k3,.bool k4,.bool k5,.bool k6,.bool k7,.bool k8,.bool k9,.bool aa,.bool ab,.bool ad,.bool ae,.bool af,.bool ag] 217));obtain⟨z,ax⟩:=ex (Wb.drew);have br:wE w z:=by rw [←ax,←aM];exact kAl.trans kDr
 have d:z.heap[w.heap.size]?=some (.cells #[.bool k0,.bool k1,.bool k2,.bool k3,.bool k4,.bool k5,.bool k6,.bool k7,.bool k8,.bool k9,.bool aa,.bool ab,.bool ad,.bool ae,.bool af,.bool ag] 217 (0,0)):=by rw [←ax,←aM];exact qh _ _
 have bj:z.heap.size=w.heap.size+1:=by rw [←ax,←aM];simp
 have hd:=h.keep br (fun _ _ _ _=>wF);have r0:=qb d 0 _ rfl;have r1:=qb d 1 _ rfl;have r2:=qb d 2 _ rfl;have r3:=qb d 3 _ rfl;have r4:=qb d 4 _ rfl;have r5:=qb d 5 _ rfl;have r6:=qb d 6 _ rfl;have r7:=qb d 7 _ rfl;have r8:=qb d 8 _ rfl;have r9:=qb d 9 _ rfl;have am:=qb d 10 _ rfl;have an:=qb d 11 _ rfl;have ao:=qb d 12 _ rfl;have ap:=qb d 13 _ rfl;have aq:=qb d 14 _ rfl;have ar:=qb d 15 _ rfl;have b4:=qb hd.box 4 _ rfl;simp only [zD]at b4 r0 r1 r2 r3 r4 r5 r6 r7 r8 r9 am an ao ap aq ar;have Y:=qd7 (P:=prog) Tryz.underlying207 qrs.law qu9 q3r hd.kmap (qax l) ay false;rw [bh]at Y⊢;have b1:B<z.heap.size:=qe hd.box;have bi:w.heap.size<z.heap.size:=wA
 clear a1;refine hd8 ?_ h hs ca aC ay bh d br;clear h hs ca aC ay bh d br;intro Xh cA cS ba a8 bQ aS R
 go_enter Tryz.func227,Tryz.ntmps227
 cases y:qdd lm (qax l) with
 |some L=>
  have ce:(qax l,L)∈lm:=by
   unfold qdd at y;cases hf:lm.find? (fun p=>decide (p.1=qax l)) with
   |none=>rw [hf] at y;cases y
   |some p=>
    rw [hf]at y;have h1:=find?_some hf;have h2:=xb hf;simp only [zT]at h1;cases y;rw [←h1];exact h2
  rw [y]at Y;simp only [zz,yy]at Y;refine hd3 ?_ y ce hd;clear y ce hd;intro bS bR ai;go_wp2_with fail;subst ax
  go_region
  clear r0 r1 r2 r3 r4 r5 r6 r7 r8 r9 am an ao ap aq ar b4 Y bj b1 bi;go_wp2_with fail;go_ret;exact⟨L,tag,lm,rfl,R.o.mono (fun _ _ _=>wF),ai.o,bR.o,TagLe.refl _,TagNew.refl _ _,fun _ h=>h⟩
 |none=>
  have ck:qax l∉lm.map (·.1):=fun cG=>by
   obtain⟨p,hp,he⟩:=yL.1 cG;have:=yn.1 (Option.map_eq_none_iff.1 y) p hp;simp [he]at this
  rw [y]at Y;simp only [zz,yy]at Y;refine hd3 ?_ y ck hd;clear y ck hd;intro bS aR ai;go_wp2_with fail;subst ax
  go_region
  generalize Wb.drew=z at*;clear r0 r1 r2 r3 r4 r5 r6 r7 r8 r9 am an ao ap aq ar b4 Y aM;obtain⟨W1,aJ⟩:=ex (z.alloc (.cells #[] 3));have k1:wE z W1:=by rw [←aJ];exact kAl
  have z1:W1.heap.size=z.heap.size+1:=by rw [←aJ];simp
  have cm:W1.ownsRow 0 3 1 (.slice (some ⟨z.heap.size,0,none⟩) 0 0) 0 []:=by rw [←aJ];exact xe z #[] 0 (ya _) (by simp [maxLen]) rfl
  have cw:wE w W1:=R.o.trans k1;have cp:=qd8 cA.o (m:=m) cw.mt (zG _);have bg:=qgj (sz:=1) ic (fun _=>rfl) wA (E:=qf6) (fun b o x h j u hj=>by
   have cD:j=0:=by have:=(zA.1 hj).1;simp [ic] at this;exact this
   subst cD;simp [ic]at hj;subst hj;exact h) cp rfl
  obtain⟨vl,W2,co,aB,cb,bq⟩:=qhx (P:=prog) qnf 125 cm a l.length cc (l.flatMap ic) (qa4 _ 1 (fun _=>rfl) _) bg.1 bg.2 (qjy _ (by simp [ic,Value.oneCell']) _) wA (ya _);rw [qne,nil_append,zD]at aB;obtain⟨al,cl,rfl⟩:=qi aB;have aN: ∀g,Value.ownBlock (.slice al l.length cl)=some g->z.heap.size<=g/\g<W2.heap.size:=fun g cd=>⟨by
   rcases cb g cd with h1 |h1
   ·simp only [Value.ownBlock,yb]at h1;omega
   ·omega,(zE aB g cd).2⟩
  have cH:= @run_makeMap prog;obtain⟨M,hM⟩:=ex (W2.heap.size);obtain⟨W3,aK⟩:=ex (W2.alloc (.map #[] 0));obtain⟨L,hL⟩:=ex (W3.heap.size);obtain⟨W4,aL⟩:=ex (W3.alloc (.cells #[.slice al l.length cl,.map (some M)] 268));have k3:wE W2 W3:=by rw [←aK];exact kAl
  have k4:wE W3 W4:=by rw [←aL];exact kAl
  have z3:W3.heap.size=W2.heap.size+1:=by rw [←aK];simp
  have z4:W4.heap.size=W3.heap.size+1:=by rw [←aL];simp
  have cM:=bq.size;have aP:Keep (fun b=>b<z.heap.size) z W4:=k1.mt.trans ((bq.mono fun b _ h e=>by have:=(aN b e).1;omega).trans (k3.mt.trans k4.mt));have cv:=aP;have aW:LookAt (fun b=>if b=L then some (.lbox (qax l)) else if b=M then some (.lmap (qax l)) else if Value.ownBlock (.slice al l.length cl)=some b then some (.llist (qax l)) else none) W4 n (ts.take 0) (qax l) L l (.slice al l.length cl) M []:=by
   refine⟨ba.o,rfl,zI rfl,by rw [←aL,←hL];exact qh _ _,by rw [zF wA,zI rfl],?_,qf (qf aB k3 (fun _ _=>wF)) k4 (fun _ _=>wF),fun b c=>?_,fun k=>wC,wC,fun k v cE=>(by cases cE),fun b k p c j hj=>?_⟩
   ·have:=(qh4 (P:=prog) (K:=214) (ek:=qhn) (ev:=fun v:Value=>v) W2).keep (w':=W4) (C:=fun _=>True) (by rw [aK];exact k4) trivial;rw [hM]at this;exact this
   ·have:=aN b c;rw [zF wA,zF wA,zI c]
   ·split at c
    ·cases c
    ·split at c
     ·cases c
     ·split at c<;>cases c
  have b6: ∀b T,(fun b=>if b=L then some (Tag.lbox (qax l)) else if b=M then some (.lmap (qax l)) else if Value.ownBlock (.slice al l.length cl)=some b then some (.llist (qax l)) else none) b=some T->z.heap.size<=b/\b<W4.heap.size/\qca (some T)=some (qax l):=by
   intro b T c;simp only at c;split at c
   ·cases c;exact⟨wA,wA,rfl⟩
   ·split at c
    ·cases c;exact⟨wA,wA,rfl⟩
    ·split at c
     ·rename_i e;have:=aN b e;cases c;exact⟨wA,wA,rfl⟩
     ·cases c
  have cn:=aP.heap aS.o bi;have hd4:=ai.o.keep aP (fun b T c aO=>aO);have b2:=qb hd4.box 2 _ rfl;simp only [zD]at b2;have c9:=qe hd4.box;clear k1 cm cw cp bg aB cb bq aN k3 k4 aP cM z1 z3 z4 b1;refine hd7 ?_ co cv aW b6 cn hd4 bj;clear co cv aW b6 cn hd4 bj;intro aT bW a5 bO cT cR cU;go_wp2_with (at_builtin;refine qbo (v:=.slice (some ⟨z.heap.size,0,none⟩) 0 0) (u:=.slice a l.length cc) (v':=.slice al l.length cl) (w':=W2) rfl (.tmp 19) (.tmp 20) 125 rfl rfl rfl aT.o ?_);clear aJ hM aK hL aL cH b2 aT
  go_loopw [29] (fun i wr=> ∃(k:Nat) (s:qb9) (mk:List (List Int×Value)),k<=ts.length/\i=.int .i64 k/\LookAt s wr n (ts.take k) (qax l) L l (.slice al l.length cl) M mk/\(∀b T,s b=some T->z.heap.size<=b/\b<wr.heap.size/\qca (some T)=some (qax l))/\Keep (fun b=>b<z.heap.size) z wr) (fun i _=>ts.length-(intOf i).toNat)
  case atStart=>exact⟨0,_,_,wA,rfl,a5.o,bO.o,bW.o⟩
  case round=>
   obtain⟨k,s,mk,hk,rfl,av,hN,hK⟩:=hrel;have az:=ai.o.keep hK (fun b T c aO=>aO);have db:=qe az.box;by_cases ch:k<ts.length
   ·obtain⟨t,ht⟩: ∃t,ts[k]?=some t:=⟨_,zB ch⟩;have c0:(k:Int)<ts.length:=by omega
    have de:(0:Int)<=k:=wA
    have cq:ts.take (k+1)=ts.take k++ [t]:=by rw [zh,ht];rfl
    have cr:(ts.take k).length=k:=by rw [yC];omega
    refine hd7 ?_ av hN hK az ht cq cr;clear av hN hK az ht cq cr;intro bN a7 bL aQ bU bV aU;go_wp2_with fail;refine(qst aQ.o wA k t bU.o).mono ?_;rintro e w1 ⟨vt,rfl,ak,cO,cu,cs⟩;have aE:qay w1.heap.size w1 vt t:=qqc (qd8 cu (m:=wr.heap.size) ak.mt (zG _)) ak.size;have aX:=bN.o.keep ak (tag':=s) (fun _ _=>wF) (fun _ _=>rfl) (fun _ _=>rfl);have hj:=qvb aX (fun b T c=>zk (a7.o b T c).2.1 ak.size) cj (by rw [aU.o];omega) vt t aE cs (aQ.o.ok t (zH bU.o)) cF;rw [aU.o]at hj;clear cu aX cO cs;refine hd3 ?_ hj ak aE;clear hj ak aE;intro cz aV cB;go_wp2_with fail;refine cz.o.mono ?_;rintro e w2 ⟨rfl,a3,m2,aw,aD,cf⟩;have b7: ∀b T,a3 b=some T->z.heap.size<=b/\b<w2.heap.size/\qca (some T)=some (qax l):=fun b T c=>by
     have b9:=(aD.new b T c).1;rcases yY b w1.heap.size with hb1 |hb1
     ·cases hT:s b with
      |none=>
       have:=aD.old b hb1 (by rw [hT];exact fun e=>(by cases e));rw [c,hT]at this;cases this
      |some T'=>
       have h3:=a7.o b T' hT;refine⟨h3.1,b9,?_⟩;rcases aD.le b T' hT with h4 |⟨c2,k2,p2,p3,rfl,h4,_⟩
       ·rw [c]at h4;cases h4;exact h3.2.2
       ·rw [c]at h4;cases h4;exact h3.2.2
     ·have h5:=(aD.new b T c).2 hb1;refine⟨?_,b9,h5⟩;have:=bL.o.size;have:=aV.o.size;omega
    have b5:Keep (fun b=>b<z.heap.size) z w2:=bL.o.trans (aV.o.mt.trans (cf.mono fun b _ h=>by
     cases hT:s b with
     |none=>exact fun e=>(by cases e)
     |some T=>have:=(a7.o b T hT).1;omega))
    rw [←bV.o]at aw;clear aD cf;refine hd3 ?_ aw b7 b5;clear aw b7 b5;intro a6 bP bM;go_wp2_with fail;go_roundw
    case rel=>exact⟨k+1,a3,m2,wA,by go_num,a6.o,bP.o,bM.o⟩
    case measure=>simp [intOf];omega
   ·obtain rfl:k=ts.length:=by omega
    rw [zi]at av;obtain⟨We,b8⟩:=ex (wr.drew);have aH:wE wr We:=by rw [←b8];exact kDr
    have aj:=az.keep aH (fun _ _ _ _=>wF);have aY:=av.keep aH (tag':=s) (fun _ _=>wF) (fun _ _=>rfl) (fun _ _=>rfl);have U:Keep (fun b=>b<z.heap.size) z We:=hK.trans aH.mt;have q:=U.heap aS.o bi;have r0:=qb q 0 _ rfl;have r1:=qb q 1 _ rfl;have r2:=qb q 2 _ rfl;have r3:=qb q 3 _ rfl;have r4:=qb q 4 _ rfl;have r5:=qb q 5 _ rfl;have r6:=qb q 6 _ rfl;have r7:=qb q 7 _ rfl;have r8:=qb q 8 _ rfl;have r9:=qb q 9 _ rfl;have am:=qb q 10 _ rfl;have an:=qb q 11 _ rfl;have ao:=qb q 12 _ rfl;have ap:=qb q 13 _ rfl;have aq:=qb q 14 _ rfl;have ar:=qb q 15 _ rfl;have b4:=qb aj.box 4 _ rfl;simp only [zD]at b4 r0 r1 r2 r3 r4 r5 r6 r7 r8 r9 am an ao ap aq ar;obtain⟨W6,ct,ci,ah,cL⟩:=qiu (P:=prog) Tryz.underlying207 qrs.law qu9 aj.kmap (qax l) a8.o L;rw [bQ.o]at ct;obtain⟨b3,a0⟩:=q6n aj aY (fun b T c=>⟨by
     cases hT:tag b with
     |none=>rfl
     |some T'=>have:=ai.o.lt b T' hT;have:=(hN b T c).1;omega,by have:=(hN b T c).2.1;have:=aH.size;omega,(hN b T c).2.2⟩) aR.o ci ah (fun b T c e=>by
      obtain⟨L',h1⟩:=aj.ents b (qax l) (by rw [c];exact e);exact aR.o (yL.2 ⟨_,h1,rfl⟩))
    have aA:TagNew tag (fun b=>match s b with |some T=>some T |none=>tag b) w:=fun b T c=>by
     cases hT:s b with
     |none=>simp only [hT] at c;exact .inl ⟨T,c⟩
     |some T'=>have:=(hN b T' hT).1;exact .inr wA
    have cx:Keep (fun b=>tag b=none) w W6:=by
     refine⟨ah.os.trans (U.os.trans R.o.os),ah.tape.trans (U.tape.trans R.o.tape),ah.output.trans (U.output.trans R.o.output),?_,fun b c hC=>?_⟩
     ·have:=ah.size;have:=U.size;omega
     ·rw [ah.block b (by have:=U.size;omega) (fun e=>by rw [e,ai.o.tagK]at hC;cases hC),U.block b wA wA];exact R.o.block b c trivial
    have da:=qe aj.box;have c1:=qe q;clear aj aY U q ci ah cL hN av hK az aH;refine hd4 ?_ b3 a0 aA cx;clear b3 a0 aA cx;intro bK a9 aI b0;subst b8;go_wp2_with fail
    go_region
    clear r0 r1 r2 r3 r4 r5 r6 r7 r8 r9 am an ao ap aq ar b4 ct;go_wp2_with fail;go_ret;exact⟨L,_,_,rfl,b0.o,bK.o,wC,a9.o,aI.o,fun p hp=>xd _ hp⟩
theorem qsu {P:Program}{ops:Array Oper}{Q:Exit->Act->World->Prop}{md:Region.Mode}{S S':World->Prop}{late:List Nat}(hS: ∀w,S' w->S w): ∀(fuel:Nat) (listed:Array Bool) (a:Act) (w:World),qco P md ops Q S' late fuel listed a w->qco P md ops Q S late fuel listed a w
 |0,_,_,_,h=>h
 |fuel+1,_,_,_,h=>⟨h.1,fun i hi=>wpOp_mono (fun a' w' h'=>⟨fun hl=>hS _ (h'.1 hl),qsu hS fuel _ a' w' h'.2⟩) (h.2 i hi)⟩
def qvf (tag:qb9)(w:World)(ts:List (List Int))(cols key:List Int)(v:Value):Prop:=
 w.ownsRow 0 3 1 v (idx ts cols (qa6 key)).length ((idx ts cols (qa6 key)).map qik)/\ ∀b,v.ownBlock=some b->tag b=some (.ent (qax cols) (qa6 key) (idx ts cols (qa6 key)).length)
theorem q8j {tag:qb9}{w:World}{n:Nat}{ts:List (List Int)}{c:List Bool}{L M:Nat}{l:List Int}{e:Value}{m:List (List Int×Value)}(h:LookAt tag w n ts c L l e M m){k:List Int}(d:k∉m.map (·.1)):idx ts l k= []:=by
 refine filter_eq_nil_iff.2 fun i hi=>?_;rw [yi]at hi;simp only [zT];intro b;refine d ((h.keys _).2 ⟨ts.getD i [],?_,b⟩);rw [zJ,zB hi];exact xE hi
theorem qsv {n:Nat}{l v:List Int}(h:qdz n l=true)(h':qdz n v=true)(hn:n<=16)(hm:qax l=qax v):l=v:=by
 have q: ∀x:Int,0<=x->x<16->(x∈l↔x∈v):=fun x h0 p=>by
  have:=yN (fun m=>m[x.toNat]?) hm;simp only [qax,zP]at this;rw [xr wA]at this;have t:((x.toNat:Nat):Int)=x:=wA
  simpa [t]using this
 have s: ∀x:Int,x∈l↔x∈v:=fun x=>by
  constructor
  ·intro t;have:=qoc h x t;exact(q x this.1 wA).1 t
  ·intro t;have:=qoc h' x t;exact(q x this.1 wA).2 t
 have hs: ∀{l:List Int},qdz n l=true->l.Pairwise (· < ·):=fun {l} h=>by
  rw [pairwise_iff_getElem];have g: ∀i,(hi:i+1<l.length)->l[i]<l[i+1]:=fun i hi=>by
   have:=yM.1 h (i+1) (by simpa using hi);simp only [qid,zV,zT,y8,xC]at this;have u:=this.2.resolve_left wA;rw [Nat.add_sub_cancel,zJ,zJ,zB hi,zB wA]at u;exact u
  have R: ∀d i,(hi:i+d+1<l.length)->l[i]<l[i+d+1]:=fun d=>by
   induction d with
   |zero=>exact fun i hi=>g i hi
   |succ d ih=>exact fun i hi=>Int.lt_trans (ih i wA) (g (i+d+1) hi)
  intro i j hi hj ag;have:=R (j-i-1) i wA;have e:i+(j-i-1)+1=j:=wA
  simpa only [e]using this
 have go: ∀(a b:List Int),a.Pairwise (· < ·)->b.Pairwise (· < ·)->(∀x,x∈a↔x∈b)->a=b:=fun a=>by
  induction a with
  |nil=>
   intro b _ _ c;cases b with
   |nil=>rfl
   |cons y b=>exact absurd ((c y).2 wC) wC
  |cons x a ih=>
   intro b Y hb c;cases b with
   |nil=>exact absurd ((c x).1 wC) wC
   |cons y b=>
    rw [pairwise_cons]at Y hb;have ab:x=y:=by
     rcases zw.1 ((c x).1 wC) with p |p
     ·exact p
     ·rcases zw.1 ((c y).2 wC) with u |u
      ·exact u.symm
      ·have:=Y.1 y u;have:=hb.1 x p;omega
    subst ab;rw [ih b Y.2 hb.2 (fun z=>by
     constructor
     ·intro U;rcases zw.1 ((c z).1 (by simp [U])) with p |p
      ·have:=Y.1 z U;omega
      ·exact p
     ·intro U;rcases zw.1 ((c z).2 (by simp [U])) with p |p
      ·have:=hb.1 z U;omega
      ·exact p)]
 exact go l v (hs h) (hs h') s
theorem q3s {tag:qb9}{w:World}{B n:Nat}{ts:List (List Int)}{vD:Value}{P K:Nat}{lm:List (List Bool×Nat)}(h:qci tag w B n ts vD P K lm)(hl:ts.length<=134217728)(m:Nat)(vc vk:Value)(c key:List Int)(hs:qay m w vc c)(a8:qay m w vk key)(hm:m<=w.heap.size)
  (b1:okT key) (bV:qqz tag vk):
  Calls prog 179 #[.pointer (some ⟨B,0,none⟩),vc,vk] w fun e w'=> ∃v tag' lm',e=.returned (.tuple #[v,.bool (qdz n c&&decide (key.length=c.length))])/\
   Keep (fun b=>tag b=none) w w'/\qci tag' w' B n ts vD P K lm'/\TagLe tag tag'/\TagNew tag tag' w/\(∀p,p∈lm->p∈lm')/\
   (qdz n c=true->key.length=c.length->qvf tag' w' ts c key v/\ ∃L,(qax c,L)∈lm')/\((qdz n c&&decide (key.length=c.length))=false->v=.slice none 0 0):=by
 obtain⟨a,cc,rfl,aq,cW,bU⟩:=id hs;obtain⟨ak,ck,rfl,cL,cJ,aR⟩:=id a8;have hB:=qe h.box;have aT:=h.n16;refine hd7 ?_ h hs bU a8 aR b1 bV;clear h hs bU a8 aR b1 bV;intro Xh bD cu bF ce bx bv
 go_enter Tryz.func179,Tryz.ntmps179
 go_wp2_with fail;refine(qlz Xh.o.box).mono ?_;rintro e w1 ⟨rfl,a9⟩;have a9:=a9.symm;subst a9;by_cases y:key.length=c.length
 ·have cj:((key.length:Int) !=c.length)=false:=by simp [y]
  have hd:decide (key.length=c.length)=true:=zS y;refine hd2 ?_ y hd;clear y hd;intro ab aC;go_wp2_with fail;refine(q8i Xh.o.box aT m _ c bD.o hm).mono ?_;rintro e W1 ⟨rfl,ba⟩;obtain⟨k0,k1,k2,k3,Y,R,k6,k7,k8,k9,g,q,s,t,u,x,aU⟩: ∃k0 k1 k2 k3 Y R k6 k7 k8 k9 g q s t u x,qj6 n c= [k0,k1,k2,k3,Y,R,k6,k7,k8,k9,g,q,s,t,u,x]:=by
   have y:(qj6 n c).length=16:=by unfold qj6;split<;>exact qj5 _
   match h:qj6 n c,y with
   | [k0,k1,k2,k3,Y,R,k6,k7,k8,k9,g,q,s,t,u,x],_=>exact⟨k0,k1,k2,k3,Y,R,k6,k7,k8,k9,g,q,s,t,u,x,rfl⟩
  have a5:qij (qj6 n c)=.agg #[.bool k0,.bool k1,.bool k2,.bool k3,.bool Y,.bool R,.bool k6,.bool k7,.bool k8,.bool k9,.bool g,.bool q,.bool s,.bool t,.bool u,.bool x]:=by rw [aU];rfl
  rw [a5];obtain⟨W0,aG⟩:=ex (W1.alloc (.cells #[.bool false,.bool false,.bool false,.bool false,.bool false,.bool false,.bool false,.bool false,.bool false,.bool false,.bool false,.bool false,.bool false,.bool false,.bool false,.bool false] 217));obtain⟨d,aH⟩:=ex (W1.heap.size);have n1:W0.heap[d]?=some (.cells #[.bool false,.bool false,.bool false,.bool false,.bool false,.bool false,.bool false,.bool false,.bool false,.bool false,.bool false,.bool false,.bool false,.bool false,.bool false,.bool false] 217 (0,0)):=by rw [←aG,←aH];exact qh _ _
  have b6:Keep (fun b=>b<w.heap.size) w W0:=by rw [←aG];exact ba.trans kAl
  have s0:d<W0.heap.size:=qe n1;have c1:w.heap.size<=d:=by rw [←aH];exact ba.size
  have z0:=qb n1 0 _ rfl;have f0:=qg n1 0;have z1:=qb n1 1 _ rfl;have f1:=qg n1 1;have z2:=qb n1 2 _ rfl;have f2:=qg n1 2;have z3:=qb n1 3 _ rfl;have f3:=qg n1 3;have z4:=qb n1 4 _ rfl;have f4:=qg n1 4;have z5:=qb n1 5 _ rfl;have f5:=qg n1 5;have z6:=qb n1 6 _ rfl;have f6:=qg n1 6;have z7:=qb n1 7 _ rfl;have f7:=qg n1 7;have z8:=qb n1 8 _ rfl;have f8:=qg n1 8;have z9:=qb n1 9 _ rfl;have f9:=qg n1 9;have bb:=qb n1 10 _ rfl;have bI:=qg n1 10;have bc:=qb n1 11 _ rfl;have bJ:=qg n1 11;have bd:=qb n1 12 _ rfl;have bK:=qg n1 12;have bf:=qb n1 13 _ rfl;have bL:=qg n1 13;have bg:=qb n1 14 _ rfl;have bM:=qg n1 14;have bh:=qb n1 15 _ rfl;have bN:=qg n1 15;simp only [zD]at z0 z1 z2 z3 z4 z5 z6 z7 z8 z9 bb bc bd bf bg bh;obtain⟨rd,a7⟩:=ex (qdz n c);rw [a7];clear ba aU;refine hd4 ?_ n1 b6 a5 a7;clear n1 b6 a5 a7;intro a1 am bu z;cases rd with
  |false=>
   go_wp2_with fail;refine qjw (fun W=>Keep (fun k=>k<w.heap.size) w W) (w:=qg9 d [.bool k0,.bool k1,.bool k2,.bool k3,.bool Y,.bool R,.bool k6,.bool k7,.bool k8,.bool k9,.bool g,.bool q,.bool s,.bool t,.bool u,.bool x] 0 W0) (am.o.trans ((qe8 _ _ _ _).mono (fun b _ h=>wA))) ?_;clear z0 z1 z2 z3 z4 z5 z6 z7 z8 z9 bb bc bd bf bg bh f0 f1 f2 f3 f4 f5 f6 f7 f8 f9 bI bJ bK bL bM bN a1 am s0 aH aG;rintro W3 ar;have hT:=Xh.o.keep ar (fun b T hb aq=>aq);refine hd2 ?_ ar hT;clear ar hT;intro bH cd
   go_ret2
   exact⟨.slice none 0 0,tag,lm,by rw [z.o];rfl,bH.o.mono (fun b hb _=>hb),cd.o,TagLe.refl _,TagNew.refl _ _,fun _ h=>h,fun h=>(by rw [z.o] at h;cases h),fun _=>rfl⟩
  |true=>
   go_wp2_with fail;refine q0m (fun W=>W.heap[d]?=some (.cells #[.bool k0,.bool k1,.bool k2,.bool k3,.bool Y,.bool R,.bool k6,.bool k7,.bool k8,.bool k9,.bool g,.bool q,.bool s,.bool t,.bool u,.bool x] 217 (0,0))/\Keep (fun k=>k<w.heap.size) w W) (w:=qg9 d [.bool k0,.bool k1,.bool k2,.bool k3,.bool Y,.bool R,.bool k6,.bool k7,.bool k8,.bool k9,.bool g,.bool q,.bool s,.bool t,.bool u,.bool x] 0 W0) ⟨qha [.bool k0,.bool k1,.bool k2,.bool k3,.bool Y,.bool R,.bool k6,.bool k7,.bool k8,.bool k9,.bool g,.bool q,.bool s,.bool t,.bool u,.bool x] a1.o rfl,am.o.trans ((qe8 _ _ _ _).mono (fun b _ h=>wA))⟩ ?_;clear z0 z1 z2 z3 z4 z5 z6 z7 z8 z9 bb bc bd bf bg bh f0 f1 f2 f3 f4 f5 f6 f7 f8 f9 bI bJ bK bL bM bN a1 am s0 aH aG;rintro W3 ⟨hq,ar⟩;have bS:qij (qax c)=.agg #[.bool k0,.bool k1,.bool k2,.bool k3,.bool Y,.bool R,.bool k6,.bool k7,.bool k8,.bool k9,.bool g,.bool q,.bool s,.bool t,.bool u,.bool x]:=by
    have:=bu.o;unfold qj6 at this;rw [z.o,zI rfl]at this;exact this
   obtain⟨Wd,a3⟩:=ex (W3.drew);have aA:Keep (fun k=>k<w.heap.size) w Wd:=by rw [←a3];exact ar.trans kDr
   have aI:Wd.heap[d]?=some (.cells #[.bool k0,.bool k1,.bool k2,.bool k3,.bool Y,.bool R,.bool k6,.bool k7,.bool k8,.bool k9,.bool g,.bool q,.bool s,.bool t,.bool u,.bool x] 217 (0,0)):=by rw [←a3];exact hq
   have hT:=Xh.o.keep aA (fun b T hb aq=>aq);have b3:=qd8 bD.o (m:=m) (aA.mono fun _ _ h=>wA) (zG _);have a4:=q9s hT hl m _ c b3 (by have:=aA.size;omega) z.o;rw [bS]at a4;have b0:tag d=none:=by
    cases aF:tag d with
    |none=>rfl
    |some T=>have:=Xh.o.lt d T aF;omega
   have cS:=qe hT.box;have cM:=qe aI;have aB: ∀W:World,W.heap[d]?=some (.cells #[.bool k0,.bool k1,.bool k2,.bool k3,.bool Y,.bool R,.bool k6,.bool k7,.bool k8,.bool k9,.bool g,.bool q,.bool s,.bool t,.bool u,.bool x] 217 (0,0))->W.cell? ⟨d,0,none⟩=some (.bool k0)/\W.cell? ⟨d,1,none⟩=some (.bool k1)/\W.cell? ⟨d,2,none⟩=some (.bool k2)/\W.cell? ⟨d,3,none⟩=some (.bool k3)/\W.cell? ⟨d,4,none⟩=some (.bool Y)/\W.cell? ⟨d,5,none⟩=some (.bool R)/\W.cell? ⟨d,6,none⟩=some (.bool k6)/\W.cell? ⟨d,7,none⟩=some (.bool k7)/\W.cell? ⟨d,8,none⟩=some (.bool k8)/\W.cell? ⟨d,9,none⟩=some (.bool k9)/\W.cell? ⟨d,10,none⟩=some (.bool g)/\W.cell? ⟨d,11,none⟩=some (.bool q)/\W.cell? ⟨d,12,none⟩=some (.bool s)/\W.cell? ⟨d,13,none⟩=some (.bool t)/\W.cell? ⟨d,14,none⟩=some (.bool u)/\W.cell? ⟨d,15,none⟩=some (.bool x):=fun W hW=>by
    refine⟨?_,?_,?_,?_,?_,?_,?_,?_,?_,?_,?_,?_,?_,?_,?_,?_⟩<;>simp [World.cell?,hW]
   have bP:=aB Wd aI;clear ar hq hT b3 bS;refine hd6 ?_ aA aI a4 b0 aB bP;clear aA aI a4 b0 aB bP;intro aP bz bt bw av bs;subst a3;refine qau rfl (fun W=>W.cell? ⟨d,0,none⟩=some (.bool k0)/\W.cell? ⟨d,1,none⟩=some (.bool k1)/\W.cell? ⟨d,2,none⟩=some (.bool k2)/\W.cell? ⟨d,3,none⟩=some (.bool k3)/\W.cell? ⟨d,4,none⟩=some (.bool Y)/\W.cell? ⟨d,5,none⟩=some (.bool R)/\W.cell? ⟨d,6,none⟩=some (.bool k6)/\W.cell? ⟨d,7,none⟩=some (.bool k7)/\W.cell? ⟨d,8,none⟩=some (.bool k8)/\W.cell? ⟨d,9,none⟩=some (.bool k9)/\W.cell? ⟨d,10,none⟩=some (.bool g)/\W.cell? ⟨d,11,none⟩=some (.bool q)/\W.cell? ⟨d,12,none⟩=some (.bool s)/\W.cell? ⟨d,13,none⟩=some (.bool t)/\W.cell? ⟨d,14,none⟩=some (.bool u)/\W.cell? ⟨d,15,none⟩=some (.bool x)) [10,11] ?_;refine qq [0,1,2,7] ?_
   iterate 4
    refine tkA rfl bs.o ?_
    try simp only [qr]
   refine ql ?_;refine ho 3 rfl fun K bm=>?_;go_wp2_with fail;refine bt.o.mono ?_;rintro e W4 ⟨L,aa,cn,rfl,Y,a2,aw,aS,ay,aW⟩;obtain⟨l,vl,M,mm,ap⟩:=a2.looks _ L aw;have cg:l=c:=qsv ap.row z.o aT ap.mask;subst cg;have a6:=Y.heap bz.o bw.o;have e1:W4.cell? ⟨L,1,none⟩=some (.map (some M)):=by have:=qb ap.box 1 _ rfl;simpa using this
   have cT:=qe ap.box;have aJ:Keep (fun b=>tag b=none/\b<w.heap.size) w W4:=(aP.o.mono fun _ _ h=>h.2).trans (Y.mono fun _ _ h=>h.1);have aV:=qnu bF.o bv.o aJ (fun b hb cV=>⟨hb,wA⟩);have ax:key.length<=16:=by have:=qpm z.o;have:=ab.o;omega
   have aQ:=av.o W4 a6;have bQ:=And.intro aQ e1;have ci:m<=W4.heap.size:=by have:=aJ.size;omega
   clear aQ e1;refine qib ?_ Y a2 aw aS ay aW ap a6 aJ aV bQ;clear Y a2 aw aS ay aW ap a6 aJ aV bQ;intro cQ aK aX aY aD a0 br aN aO aZ aL;go_wp2_with fail;refine bm.o _ _ (fun _=>aL.o.1) ?_;refine qsu (S':=fun W=>(W.cell? ⟨d,0,none⟩=some (.bool k0)/\W.cell? ⟨d,1,none⟩=some (.bool k1)/\W.cell? ⟨d,2,none⟩=some (.bool k2)/\W.cell? ⟨d,3,none⟩=some (.bool k3)/\W.cell? ⟨d,4,none⟩=some (.bool Y)/\W.cell? ⟨d,5,none⟩=some (.bool R)/\W.cell? ⟨d,6,none⟩=some (.bool k6)/\W.cell? ⟨d,7,none⟩=some (.bool k7)/\W.cell? ⟨d,8,none⟩=some (.bool k8)/\W.cell? ⟨d,9,none⟩=some (.bool k9)/\W.cell? ⟨d,10,none⟩=some (.bool g)/\W.cell? ⟨d,11,none⟩=some (.bool q)/\W.cell? ⟨d,12,none⟩=some (.bool s)/\W.cell? ⟨d,13,none⟩=some (.bool t)/\W.cell? ⟨d,14,none⟩=some (.bool u)/\W.cell? ⟨d,15,none⟩=some (.bool x))/\W.cell? ⟨L,1,none⟩=some (.map (some M))) (fun _ h=>h.1) _ _ _ _ ?_;refine qq [4,5,6] ?_
   iterate 3
    refine tkN (v:=?_) rfl aL.o ?_ ?_;rotate_left
    ·rintro Wq ⟨⟨x0,x1,x2,x3,x4,x5,x6,x7,x8,x9,c2,c3,c4,c5,c6,c7⟩,y0⟩;go_simp
     try with_reducible rfl
    try simp only [qr]
   refine ql ?_;refine ho 8 rfl fun K bn=>?_;go_wp2_with fail;refine(qng m _ key W4 aZ.o ci ax).mono ?_;rintro e W5 ⟨rfl,R⟩;have bO:=aK.o.keep R (fun b T hb aq=>aq);have an:=br.o.keep R (tag':=aa) (fun b hb=>by
    cases aF:aa b with
    |none=>rw [aF] at hb;cases hb
    |some T=>exact aK.o.lt b T aF) (fun _ _=>rfl) (fun _ _=>rfl)
   have b2:=R.heap aN.o (qe aN.o);have e5:W5.cell? ⟨L,1,none⟩=some (.map (some M)):=by have:=qb an.box 1 _ rfl;simpa using this
   have bR:=And.intro (av.o W5 b2) e5;have b5:Keep (fun b=>tag b=none) w W5:=(aO.o.trans (R.mono fun b hb h=>by have:=aO.o.size;omega)).mono (fun b hb h=>⟨h,hb⟩);have cf:=qqx (qhy ax) (qoj bx.o);have bW:=qd7 (P:=prog) Tryz.underlying266 qli.law qjz qva an.map (qa6 key) cf false;have az:TagNew tag aa w:=TagNew.trans (TagNew.refl _ _) aD.o aP.o.size;clear e5 b2 R;refine hd5 ?_ bR b5 bO an az;clear bR b5 bO an az;intro aM bG bl au aE;go_wp2_with fail;refine bn.o _ _ (fun _=>aM.o) ?_;obtain⟨vr,b4,hF⟩: ∃vr,(match qdd mm (qa6 key) with |some v=>v |none=>Value.slice none 0 0)=vr/\qvf aa W5 ts l key vr:=by
    cases U:qdd mm (qa6 key) with
    |some v=>
     refine⟨v,rfl,au.o.ents (qa6 key) v ?_⟩;unfold qdd at U;cases hf:mm.find? (fun p=>decide (p.1=qa6 key)) with
     |none=>rw [hf] at U;cases U
     |some p=>
      rw [hf]at U;have h1:=find?_some hf;have h2:=xb hf;simp only [zT]at h1;cases U;rw [←h1];exact h2
    |none=>
     have cl:qa6 key∉mm.map (·.1):=fun ch=>by
      obtain⟨p,hp,he⟩:=yL.1 ch;have:=yn.1 (Option.map_eq_none_iff.1 U) p hp;simp [he]at this
     refine⟨_,rfl,?_⟩;unfold qvf;rw [q8j au.o cl];exact⟨zj _ _ _ _,fun b hb=>by simp [Value.ownBlock] at hb⟩
   have cK:(Instr.lookup 266 (.map (some M)) (qhn (qa6 key)) false).run prog W5=.ok vr W5:=by
    rw [bW,←b4];cases qdd mm (qa6 key)<;>rfl
   clear bW b4;refine hd1 ?_ hF;clear hF;intro cb;refine ho 9 rfl fun K bo=>?_;go_wp2_with fail;refine bo.o _ _ (fun _=>aM.o) ?_;refine ho 10 rfl fun K bp=>?_;go_wp2_with fail;refine bp.o _ _ (fun h=>by simp at h) ?_;refine ho 11 rfl fun K bq=>?_;go_wp2_with fail;refine bq.o _ _ (fun h=>by simp at h) ?_;refine qa0 wB ?_;go_wp2_with fail
   go_ret2
   exact⟨vr,aa,cn,by rw [z.o,aC.o];rfl,bG.o,bl.o,aY.o,aE.o,a0.o,fun _ _=>⟨cb.o,L,aX.o⟩,fun h=>by rw [z.o,aC.o] at h;cases h⟩
 ·have cj:((key.length:Int) !=c.length)=true:=by simp;omega
  have hd:decide (key.length=c.length)=false:=zM y;refine hd2 ?_ y hd;clear y hd;intro ab aC;go_wp2_with fail
  go_ret2
  exact⟨.slice none 0 0,tag,lm,by rw [aC.o,yO];rfl,Keep.refl _ _,Xh.o,TagLe.refl _,TagNew.refl _ _,fun _ h=>h,fun _ h=>absurd h ab.o,fun _=>rfl⟩
structure qe0 where
 tag:qb9
 ts:List (List Int)
 vD:Value
 lm:List (List Bool×Nat)
structure RelInv (B n P K:Nat)(s:qe0)(w:World):Prop where
 own:qci s.tag w B n s.ts s.vD P K s.lm
 few:s.ts.length<=67108864
structure qtt (B n P K:Nat)(s:qe0)(X:World)(s':qe0)(Y:World):Prop where
 keep:Keep (fun b=>s.tag b=none) X Y
 same:s'.ts=s.ts
 le:TagLe s.tag s'.tag
 new:TagNew s.tag s'.tag X
 sub: ∀p,p∈s.lm->p∈s'.lm
 inv:RelInv B n P K s' Y
structure RelBd (s:qe0)(m:Nat)(s':qe0):Prop where
 more: ∃us,s'.ts=s.ts++us
 le:TagLe s.tag s'.tag
 new: ∀b T,s'.tag b=some T->(∃T',s.tag b=some T')∨m<=b
 sub: ∀p,p∈s.lm->p∈s'.lm
theorem RelBd.refl (s:qe0)(m:Nat):RelBd s m s:=⟨⟨[],wC⟩,TagLe.refl _,fun b T h=>.inl ⟨T,h⟩,fun _ h=>h⟩
theorem RelBd.mono {s d:qe0}{m c:Nat}(h:RelBd s m d)(g:c<=m):RelBd s c d:=⟨h.more,h.le,fun b T e=>(h.new b T e).imp id (fun h=>wA),h.sub⟩
theorem RelBd.trans {s e c:qe0}{m d:Nat}(h:RelBd s m e)(g:RelBd e d c)(y:m<=d):RelBd s m c:=by
 obtain⟨u,t⟩:=h.more;obtain⟨v,x⟩:=g.more;refine⟨⟨u++v,by rw [x,t,yr]⟩,h.le.trans g.le,fun b T l=>?_,fun p q=>g.sub p (h.sub p q)⟩;rcases g.new b T l with ⟨T',h1⟩ |h1
 ·exact h.new b T' h1
 ·exact .inr wA
theorem RelInv.keep {B n P K:Nat}{s:qe0}{X Y:World}(h:RelInv B n P K s X)(hK:Keep (fun b=> ¬s.tag b=none) X Y):RelInv B n P K s Y:=⟨h.own.keep hK (fun b T c _ e=>by rw [c] at e;cases e),h.few⟩
theorem q0p {B n P K:Nat}{s:qe0}{X Y:World}(h:RelInv B n P K s X)(hK:wE X Y):qtt B n P K s X s Y:=⟨hK.mt,rfl,TagLe.refl _,TagNew.refl _ _,fun _ h=>h,h.keep hK.mt⟩
def qfd (B n P K:Nat):qgk qe0 where
 inv:=RelInv B n P K
 free s b:=s.tag b=none
 istep:=qtt B n P K
 bstep:=RelBd
 ifree h:=h.keep
 inew:=fun {s X s' Y} h b hb hf=>by
  cases hT:s'.tag b with
  |none=>rfl
  |some T=>
   rcases h.new b T hT with ⟨T',h1⟩ |h1
   ·rw [hf]at h1;cases h1
   ·omega
 bnew:=fun {s m s'} h b hb hf=>by
  cases hT:s'.tag b with
  |none=>rfl
  |some T=>
   rcases h.new b T hT with ⟨T',h1⟩ |h1
   ·rw [hf]at h1;cases h1
   ·omega
 bmono hm h:=h.mono hm
 invk h hK:=h.keep hK
def q95 (i:Nat)(t:List Int)(m:Nat)(X:World)(args:Array Value):Prop:=
 ∃v,args= #[.int .i64 (i:Int),v]/\X.ownsRow m 3 1 v t.length (t.map (.int .i64))/\t.length<=1073741824
def BoxAt (w:World)(b t:Nat)(v:Value):Prop:=w.heap[b]?=some (.cells #[v] t (0,0))
theorem BoxAt.keep {w w':World}{b t:Nat}{v:Value}{C:Nat->Prop}(h:BoxAt w b t v)(hK:Keep C w w')(c:C b):BoxAt w' b t v:=hK.heap h c
theorem BoxAt.cell {w:World}{b t:Nat}{v:Value}(h:BoxAt w b t v):w.cell? ⟨b,0,none⟩=some v:=qbn h
theorem BoxAt.lt {w:World}{b t:Nat}{v:Value}(h:BoxAt w b t v):b<w.heap.size:=qe h
structure MatchV (n0 n1 bR bL bK bT bF B:Nat)(vl vk:Value)(lo hi:Int)(cols key:List Int)(w:World):Prop where
 r:BoxAt w bR 154 (.pointer (some ⟨B,0,none⟩))
 l:BoxAt w bL 125 vl
 k:BoxAt w bK 125 vk
 t:BoxAt w bT 3 (.int .i64 hi)
 f:BoxAt w bF 3 (.int .i64 lo)
 ol:w.ownsRow n0 3 1 vl cols.length (cols.map (.int .i64))
 ok:w.ownsRow n0 3 1 vk key.length (key.map (.int .i64))
 bl: ∀b,vl.ownBlock=some b->b<n1
 bk: ∀b,vk.ownBlock=some b->b<n1
 at':(n0<=bR/\bR<n1)/\(n0<=bL/\bL<n1)/\(n0<=bK/\bK<n1)/\(n0<=bT/\bT<n1)/\(n0<=bF/\bF<n1)
theorem MatchV.keep {n0 n1 s q p bT m B:Nat}{v u:Value}{lo hi:Int}{c key:List Int}{w w':World}{C:Nat->Prop}(h:MatchV n0 n1 s q p bT m B v u lo hi c key w)(hK:Keep C w w')(d: ∀b,n0<=b->b<n1->C b):MatchV n0 n1 s q p bT m B v u lo hi c key w':=by
 obtain⟨g,a2,a3,a4,a5⟩:=h.at';exact⟨h.r.keep hK (d _ g.1 g.2),h.l.keep hK (d _ a2.1 a2.2),h.k.keep hK (d _ a3.1 a3.2),h.t.keep hK (d _ a4.1 a4.2),h.f.keep hK (d _ a5.1 a5.2),
  qf h.ol hK (fun b e=>d b (zE h.ol b e).1 (h.bl b e)),qf h.ok hK (fun b e=>d b (zE h.ok b e).1 (h.bk b e)),h.bl,h.bk,h.at'⟩
theorem qvg (w:World)(B m:Nat)(vc vk:Value)(d key:List Int)(lo hi:Int)(hs:qay m w vc d)(ad:qay m w vk key)(hm:m<=w.heap.size):
  Calls prog 141 #[.pointer (some ⟨B,0,none⟩),vc,vk,.int .i64 lo,.int .i64 hi] w fun e w'=> ∃bR bL bK bT bF vl vk',
   e=.returned (.func (.func 178) #[] #[.pointer (some ⟨bR,0,none⟩),.pointer (some ⟨bL,0,none⟩),.pointer (some ⟨bK,0,none⟩),.pointer (some ⟨bT,0,none⟩),.pointer (some ⟨bF,0,none⟩)])/\
   wE w w'/\MatchV w.heap.size w'.heap.size bR bL bK bT bF B vl vk' lo hi d key w':=by
 obtain⟨a,cc,rfl,aR,bq,aA⟩:=id hs;obtain⟨ak,ck,rfl,aB,a8,ag⟩:=id ad;obtain⟨W0,z⟩:=ex (((w.alloc (.cells #[.pointer (some ⟨B,0,none⟩)] 154)).alloc (.cells #[.int .i64 lo] 3)).alloc (.cells #[.int .i64 hi] 3));have k0:wE w W0:=by rw [←z];exact(kAl.trans kAl).trans kAl
 have z0:W0.heap.size=w.heap.size+3:=by rw [←z];simp
 have r0:BoxAt W0 w.heap.size 154 (.pointer (some ⟨B,0,none⟩)):=by rw [←z];unfold BoxAt;simp only [qar,zO];simp<;>omega
 have f0:BoxAt W0 (w.heap.size+1) 3 (.int .i64 lo):=by rw [←z];unfold BoxAt;simp only [qar,zO];simp<;>omega
 have t0:BoxAt W0 (w.heap.size+2) 3 (.int .i64 hi):=by rw [←z];unfold BoxAt;simp only [qar,zO];simp<;>omega
 have t: ∀(W:World) (a:Option Addr) (c:Nat) (l:List Int),l.length<=1073741824->qay m W (.slice a l.length c) l->m<=W.heap.size-> ∃a' c' W',(Builtin.append_ #[125,125] 125 #[.slice (some ⟨W.heap.size,0,none⟩) 0 0,.slice a l.length c]).run prog (W.alloc (.cells #[] 3))=.ok (.slice a' l.length c') W'/\
   W'.ownsRow W.heap.size 3 1 (.slice a' l.length c') l.length (l.map (.int .i64))/\wE W W':=by
  intro W a c l hl hi bs;have k1:wE W (W.alloc (.cells #[] 3)):=kAl;have aT:(W.alloc (.cells #[] 3)).ownsRow W.heap.size 3 1 (.slice (some ⟨W.heap.size,0,none⟩) 0 0) 0 []:=xe W #[] 0 (zG _) (by simp [maxLen]) rfl;have aO:=qd8 hi (m:=m) k1.mt (zG _);have az:=qgj (sz:=1) ic (fun _=>rfl) wA (E:=qf6) (fun b o x h j u hj=>by
   have aQ:j=0:=by have:=(zA.1 hj).1;simp [ic] at this;exact this
   subst aQ;simp [ic]at hj;subst hj;exact h) aO rfl
  obtain⟨va,W3,aU,ab,br,a0⟩:=qhx (P:=prog) qnf 125 aT a l.length c (l.flatMap ic) (qa4 _ 1 (fun _=>rfl) _) az.1 az.2 (qjy _ (by simp [ic,Value.oneCell']) _) wA wC;rw [qne,nil_append,zD]at ab;obtain⟨a',c',rfl⟩:=qi ab;exact⟨a',c',W3,aU,ab,(k1.mt.trans (a0.mono (C':=fun b=>b<W.heap.size) fun b _ h e=>by have:=(zE ab b e).1;omega)).mono fun b q _=>q⟩
 have aD:=qd8 hs (m:=m) k0.mt (zG _);obtain⟨al,cl,W2,ao,am,k2⟩:=t W0 a cc d aR aD wA;have aV:=k2.size;have ah:=qd8 (qd8 ad (m:=m) k0.mt (zG _)) (m:=m) k2.mt (zG _);obtain⟨s,y,p,aC,an,k4⟩:=t W2 ak ck key aB ah wA;have aW:=k4.size;obtain⟨W5,aa⟩:=ex ((p.alloc (.cells #[.slice none 0 0] 125)).alloc (.cells #[.slice none 0 0] 125));have k5:wE p W5:=by rw [←aa];exact kAl.trans kAl
 have z5:W5.heap.size=p.heap.size+2:=by rw [←aa];simp
 have l5:BoxAt W5 p.heap.size 125 (.slice none 0 0):=by rw [←aa];unfold BoxAt;simp only [qar,zO];simp<;>omega
 have v5:BoxAt W5 (p.heap.size+1) 125 (.slice none 0 0):=by rw [←aa];unfold BoxAt;simp only [qar,zO];simp<;>omega
 obtain⟨W6,ai⟩:=ex (W5.setCell ⟨p.heap.size,0,none⟩ (.slice al d.length cl));have l6:BoxAt W6 p.heap.size 125 (.slice al d.length cl):=by rw [←ai];exact qgi _ l5
 have k6:Keep (fun b=>b≠p.heap.size) W5 W6:=by rw [←ai];exact kSc
 have v6:=v5.keep k6 wA;obtain⟨W7,aj⟩:=ex (W6.setCell ⟨p.heap.size+1,0,none⟩ (.slice s key.length y));have v7:BoxAt W7 (p.heap.size+1) 125 (.slice s key.length y):=by rw [←aj];exact qgi _ v6
 have k7:Keep (fun b=>b≠p.heap.size+1) W6 W7:=by rw [←aj];exact kSc
 have l7:=l6.keep k7 wA;have R:Keep (fun b=>b<p.heap.size) p W7:=k5.mt.trans ((k6.mono fun b _ h=>wA).trans (k7.mono fun b _ h=>wA));have aE:wE w W7:=(k0.mt.trans (k2.mt.trans (k4.mt.trans (R.mono (C':=fun b=>b<w.heap.size) fun b _ h=>wA)))).mono fun b q _=>q;have z7:W7.heap.size=W5.heap.size:=by rw [←aj,←ai];simp [World.setCell]
 have U: ∀b,Value.ownBlock (.slice al d.length cl)=some b->W0.heap.size<=b/\b<W2.heap.size:=fun b q=>zE am b q;have Y: ∀b,Value.ownBlock (.slice s key.length y)=some b->W2.heap.size<=b/\b<p.heap.size:=fun b q=>zE an b q;have hV:MatchV w.heap.size W7.heap.size w.heap.size p.heap.size (p.heap.size+1) (w.heap.size+2) (w.heap.size+1) B (.slice al d.length cl) (.slice s key.length y) lo hi d key W7:=by
  have kk:Keep (fun b=>b<W0.heap.size) W0 W7:=k2.mt.trans (k4.mt.trans (R.mono fun b _ h=>wA));refine⟨r0.keep kk wA,l7,v7,t0.keep kk wA,f0.keep kk wA,?_,?_,fun b q=>by have:=U b q;omega,fun b q=>by have:=Y b q;omega,⟨wA,wA⟩,⟨wA,wA⟩,⟨wA,wA⟩,⟨wA,wA⟩,wA,wA⟩
  ·have h1:=qf (qf am k4 (fun _ _=>wF)) R (fun b q=>by have:=U b q;omega);exact⟨h1.1,h1.2.imp id (fun⟨g,cap,cur,e1,e2,e3⟩=>⟨g,cap,cur,e1,wA,e3⟩)⟩
  ·have h1:=qf an R (fun b q=>by have:=Y b q;omega);exact⟨h1.1,h1.2.imp id (fun⟨g,cap,cur,e1,e2,e3⟩=>⟨g,cap,cur,e1,wA,e3⟩)⟩
 have bm:=l5.cell;have bk:=qg l5 0;have bn:=v6.cell;have bl:=qg v6 0;obtain⟨n0,aS⟩:=ex (W0.heap.size);have bo:p.heap.size<W5.heap.size:=wA
 have bp:p.heap.size+1<W6.heap.size:=v6.lt;clear t aD am ah an l5 v5 l6 v6 v7 l7 R k7 k6 k5 U Y z7 z5 aV aW k0 k2 k4 r0 f0 t0 z0;rw [aS]at ao;refine hd8 ?_ hs ad aA ag ao aC hV aE;clear hs ad aA ag ao aC hV aE;intro bj a2 a1 aN ar au aM av
 go_enter Tryz.func141,Tryz.ntmps141
 go_wp2_with (first
  |(at_builtin;refine qbo (v:=.slice (some ⟨n0,0,none⟩) 0 0) (u:=.slice a d.length cc) (v':=.slice al d.length cl) (w':=W2) rfl (.tmp 13) (.tmp 14) 125 rfl rfl rfl ar.o ?_)
  |(at_builtin;refine qbo (v:=.slice (some ⟨W2.heap.size,0,none⟩) 0 0) (u:=.slice ak key.length ck) (v':=.slice s key.length y) (w':=p) rfl (.tmp 16) (.tmp 17) 125 rfl rfl rfl au.o ?_))
 go_ret;exact⟨_,_,_,_,_,_,_,rfl,av.o,aM.o⟩
theorem q3t {n:Nat}{t b key:List Int}(u:n<=16)(v:t.length=n)(m:qdz n b=true)(s:key.length=b.length):qle t b key=decide (qch t b=qa6 key):=by
 have l:=qoc m;have c:(qch t b=qa6 key)↔qet t b=key:=by
  constructor
  ·intro h;exact qrk h (by rw [qj0,s])
  ·intro h;unfold qch;rw [h]
 have q:qle t b key=true↔qet t b=key:=by
  unfold qle;rw [yM];constructor
  ·intro h;apply xX;intro j;by_cases d:j<b.length
   ·have:=h j (by simpa using d);simp only [zT]at this;rw [←this];have g:b[j]?=some b[j]:=zB d;have p:=l b[j] (xE d);unfold qet;rw [zP,g,zJ,g];simp only [Option.map_some,Option.getD_some];rw [zJ,zB wA]
    rfl
   ·rw [xB (by rw [qj0];omega),xB wA]
  ·rintro rfl j d;rw [yi]at d;have g:b[j]?=some b[j]:=zB d;have p:=l b[j] (xE d);unfold qet;rw [zT,zP,g,zJ,g];simp only [Option.map_some,Option.getD_some];rw [zJ,zB wA]
   rfl
 by_cases h:qet t b=key
 ·rw [q.2 h,zS (c.2 h)]
 ·rw [zM (fun e=>h (c.1 e)),Bool.eq_false_iff];exact fun e=>h (q.1 e)
def qe1 (lo hi:Int)(i:Nat):Bool:=decide (lo<=(i:Int))&&decide ((i:Int)<hi)
theorem q3u {n:Nat}{ts:List (List Int)}{b key:List Int}{lo hi:Int}(h:n<=16)(e: ∀t∈ts,t.length=n)(c:qdz n b=true)(g:key.length=b.length):qel n ts b key lo hi=(idx ts b (qa6 key)).filter (qe1 lo hi):=by
 unfold qel idx;rw [zI (by rw [c,zS g];rfl),filter_filter];refine filter_congr fun i d=>?_;rw [yi]at d;unfold qzt qe1;rw [q3t h (e _ (by rw [zJ,zB d];exact xE d)) c g]
theorem q3v {n:Nat}{ts:List (List Int)}{b key:List Int}{lo hi:Int}(h:(qdz n b&&decide (key.length=b.length))=false):qel n ts b key lo hi= []:=by
 unfold qel;rw [zF (by rw [h];simp)]
theorem q6o (ts b:List (List Int))(l k:List Int){j i:Nat}(h:(idx ts l k)[j]?=some i):(idx (ts++b) l k)[j]?=some i:=by
 induction b generalizing ts with
 |nil=>simpa using h
 |cons u b ih=>
  rw [←singleton_append,←yr];refine ih (ts++ [u]) ?_;rw [qlj,yR (zA.1 h).1];exact h
theorem q9t {ts:List (List Int)}{l k:List Int}{j i:Nat}(h:(idx ts l k)[j]?=some i):i<ts.length:=by
 have:=zH h;unfold idx at this;rw [yV,yi]at this;exact this.1
theorem q0q (ts:List (List Int))(l k:List Int):(idx ts l k).Pairwise (· < ·):=List.Pairwise.filter _ pairwise_lt_range
def qey (lo hi:Int)(pl:List Nat)(j:Nat):Nat:=((pl.take j).filter (qe1 lo hi)).length
theorem qq0 (lo hi:Int)(b:List Nat){j i:Nat}(d:b[j]?=some i):b.filter (qe1 lo hi)=(b.take j).filter (qe1 lo hi)++((if qe1 lo hi i=true then [i] else [])++(b.drop (j+1)).filter (qe1 lo hi)):=by
 have c:=(zA.1 d).1;have e:=(zA.1 d).2
 conv=>lhs;rw [←yw j b,zt c,e]
 rw [yT,ye];split<;>simp
theorem q6p {lo hi:Int}{b:List Nat}{j i:Nat}(c:b[j]?=some i)(h:qe1 lo hi i=true):(b.filter (qe1 lo hi))[qey lo hi b j]?=some i/\qey lo hi b (j+1)=qey lo hi b j+1:=by
 constructor
 ·rw [qq0 lo hi b c,zI h];unfold qey;rw [yH (zG _),xY]
  rfl
 ·unfold qey;rw [zh,c,yT];simp [h]
theorem q8k {lo hi:Int}{b:List Nat}{j i:Nat}(c:b[j]?=some i)(h:qe1 lo hi i=false):qey lo hi b (j+1)=qey lo hi b j:=by
 unfold qey;rw [zh,c,yT];simp [h]
theorem q6q {lo hi:Int}{b:List Nat}(t:b.Pairwise (· < ·)){j i:Nat}(c:b[j]?=some i)(h:hi<=(i:Int)):qey lo hi b j=(b.filter (qe1 lo hi)).length:=by
 have d:=(zA.1 c).1;have s:=(zA.1 c).2;have m:qe1 lo hi i=false:=by unfold qe1;rw [zM (by omega: ¬(i:Int)<hi),yO]
 rw [qq0 lo hi b c,m];have p:(b.drop (j+1)).filter (qe1 lo hi)= []:=by
  refine filter_eq_nil_iff.2 fun x u=>?_;obtain⟨q,e⟩:=zy.1 u;rw [getElem?_drop]at e;have g:=(zA.1 e).1;have l:=(zA.1 e).2;have:=(pairwise_iff_getElem.1 t) j (j+1+q) d g wA;rw [s,l]at this;unfold qe1;rw [zM (by omega: ¬(x:Int)<hi),yO];simp
 rw [p];unfold qey;simp
theorem q6r (lo hi:Int)(b:List Nat):qey lo hi b b.length=(b.filter (qe1 lo hi)).length:=by unfold qey;rw [zi]
end Go.Proofs.R4
