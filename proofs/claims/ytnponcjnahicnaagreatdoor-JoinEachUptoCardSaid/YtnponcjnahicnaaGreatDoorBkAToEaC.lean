/- Parts of the proof. -/
import Derived.Test.YtnponcjnahicnaaGreatDoorDlNToItoa
set_option linter.unusedSimpArgs false
set_option linter.unusedVariables false
set_option maxRecDepth 100000
set_option maxHeartbeats 4000000
open Go.Proofs.Tryz(prog)
open List(getElem?_set getElem_cons_succ getElem_cons_zero getElem_map getElem_toArray length_cons length_range map_replicate map_set map_take mem_replicate pairwise_append pairwise_iff_getElem perm_middle replicate_succ' set_cons_succ set_cons_zero take_sublist)
namespace Go.Proofs
open Go.RowKit Go.Ink
attribute [local go_sem] Oper.semAt_some
theorem q83:qb2 prog 60 9 1 16:=qcl (z:=.string ⟨#[]⟩) wB wB rfl wD wD
theorem q1f:qb2 prog 69 60 1 24:=qcl (z:=.slice none 0 0) wB wB rfl wD wD
def TRow (X:World)(t:Value×Nat)(xs:List ByteArray):Prop:=xs.length=t.2/\X.ownsRow 0 9 1 t.1 t.2 (xs.map Value.string)
def qdh (ts:List (Value×Nat))(b:Nat):Prop:= ∃t,t∈ts/\t.1.ownBlock=some b
theorem TRow.keep {C:Nat->Prop}{X Y:World}{t:Value×Nat}{xs:List ByteArray}(h:TRow X t xs)(hK:Keep C X Y)(c: ∀b,t.1.ownBlock=some b->C b):TRow Y t xs:=⟨h.1,qf h.2 hK c⟩
structure BookIn (X:World)(B:Nat)(vT:Value)(ts:List (Value×Nat)):Prop where
 box:X.heap[B]?=some (.cells #[vT,.slice none 0 0,.slice none 0 0] 73 (0,0))
 own:X.ownsRow 0 60 1 vT ts.length (ts.map (·.1))
 ne: ∀t,t∈ts-> ∀b,t.1.ownBlock=some b->b≠B/\vT.ownBlock≠some b
 nb:vT.ownBlock≠some B
 pair: ∀(i j:Nat) (t u:Value×Nat),ts[i]?=some t->ts[j]?=some u->i≠j-> ∀b,t.1.ownBlock=some b->u.1.ownBlock≠some b
 few:ts.length<=1073741824
 fews: ∀t,t∈ts->t.2<=1073741824
theorem BookIn.keep {C:Nat->Prop}{X Y:World}{B:Nat}{c:Value}{ts:List (Value×Nat)}(h:BookIn X B c ts)(hK:Keep C X Y)(d: ∀b,b=B∨c.ownBlock=some b->C b):BookIn Y B c ts:=
 ⟨hK.heap h.box (d _ (.inl rfl)),qf h.own hK (fun b e=>d b (.inr e)),h.ne,h.nb,h.pair,h.few,h.fews⟩
def MkO (X:World)(ts:List (Value×Nat))(i:Nat):Prop:= ∀j t,ts[j]?=some t-> ∃xs,TRow X t xs/\(j<i->xs=List.replicate t.2 (qbx j))
def MkI (X:World)(ts:List (Value×Nat))(i k:Nat):Prop:= ∀j t,ts[j]?=some t-> ∃xs,TRow X t xs/\(j<i->xs=List.replicate t.2 (qbx j))/\(j=i-> ∀m,m<k->xs[m]?=some (qbx i))
theorem MkO.start {X:World}{ts:List (Value×Nat)}{i:Nat}(h:MkO X ts i):MkI X ts i 0:=fun j t e=>by
 obtain⟨xs,b,c⟩:=h j t e;exact⟨xs,b,c,fun _ m d=>absurd d wA⟩
theorem MkI.keep {X Y:World}{ts:List (Value×Nat)}{i k:Nat}(h:MkI X ts i k)(hK:wE X Y):MkI Y ts i k:=fun j t d=>by
 obtain⟨xs,b,c⟩:=h j t d;exact⟨xs,b.keep hK (fun _ _=>wF),c⟩
theorem MkI.done {X:World}{ts:List (Value×Nat)}{i:Nat}{t:Value×Nat}(h:MkI X ts i t.2)(hi:ts[i]?=some t):MkO X ts (i+1):=fun j u b=>by
 obtain⟨xs,c,e,g⟩:=h j u b;refine⟨xs,c,fun p=>?_⟩;by_cases l:j=i
 ·subst l;rw [hi]at b;cases b;refine xX fun m=>?_;by_cases d:m<t.2
  ·rw [g rfl m d,xU,zI d]
  ·rw [xB (by have:=c.1;omega),xB (by simp;omega)]
 ·exact e wA
theorem MkI.put {X:World}{ts:List (Value×Nat)}{i k g n c:Nat}(h:MkI X ts i k)(hi:ts[i]?=some (.slice (some ⟨g,0,none⟩) n c,n))(R:k<n)
  (z: ∀(i j:Nat) (t u:Value×Nat),ts[i]?=some t->ts[j]?=some u->i≠j-> ∀b,t.1.ownBlock=some b->u.1.ownBlock≠some b):
  MkI (X.setCell ⟨g,k,none⟩ (.string (qbx i))) ts i (k+1):=fun j u p=>by
 obtain⟨xs,l,s,v⟩:=h j u p;by_cases q:j=i
 ·subst q;rw [hi]at p;cases p;refine⟨xs.set k (qbx j),⟨by rw [xp];exact l.1,?_⟩,fun y=>absurd y wA,fun _ m U=>?_⟩
  ·have:=(l.2.stored k (.string (qbx j))).1;rw [←map_set]at this;exact this
  ·rw [getElem?_set];by_cases d:k=m
   ·subst d;rw [zI rfl,zI (by have:=l.1;simp only at this;omega)]
   ·rw [zF d];exact v rfl m wA
 ·refine⟨xs,l.keep (Keep.setCell (C:=fun b=>b≠g) _ _ _ wC) (fun b x e=>?_),s,fun e=>absurd e q⟩;subst e;exact z i j _ _ hi p (Ne.symm q) b rfl x
def TRd (X:World)(t:Value×Nat)(x:ByteArray):Prop:= ∀g c,t.1=.slice (some ⟨g,0,none⟩) t.2 c-> ∀m,m<t.2->X.cell? ⟨g,m,none⟩=some (.string x)
theorem TRd.keep {C:Nat->Prop}{X Y:World}{t:Value×Nat}{x:ByteArray}(h:TRd X t x)(hK:Keep C X Y)(d: ∀b,t.1.ownBlock=some b->C b):TRd Y t x:=fun g c e m l=>
 hK.cell (h g c e m l) (d g (by rw [e];rfl))
theorem TRow.rd {X:World}{t:Value×Nat}{x:ByteArray}(h:TRow X t (List.replicate t.2 x)):TRd X t x:=fun g c e m d=>by
 have b:=h.2;rw [e]at b;exact qbd b m _ (by rw [map_replicate,xU,zI d])
theorem q1g {X:World}{g n c k:Nat}{x:ByteArray}(h:X.ownsRow 0 9 1 (.slice (some ⟨g,0,none⟩) (n+k) c) (n+k) ((List.replicate (n+k) x).map .string)): ∀m,m<n->X.cell? ⟨g,m,none⟩=some (.string x):=fun m b=>
 qbd h m _ (by rw [map_replicate,xU,zI wA])
theorem qry {X:World}{q s:Nat}{l m:TypeId}{x y n1 n2:Nat}{p v2:Value}{z R:List Value}(t:X.ownsRow q l x p n1 z)(u:X.ownsRow s m y v2 n2 R)(v:l≠m): ∀b,p.ownBlock=some b->v2.ownBlock≠some b:=fun b h d=>by
 rcases t.2 with ⟨e,_⟩ |⟨g,c,cur,rfl,-,hg,-⟩
 ·rw [e]at h;cases h
 ·rcases u.2 with ⟨e,_⟩ |⟨g',c',cur',rfl,-,hg',-⟩
  ·rw [e]at d;cases d
  ·cases h;cases d;rw [hg]at hg';injection hg' with hg'
   injection hg' with _ e
   exact v e
structure Lg (ts:List (Value×Nat))(H i:Nat)(X:World)(ls:List Value):Prop where
 rest: ∀j t,ts[j]?=some t->i<=j->TRow X t (List.replicate t.2 (qbx j))
 rd: ∀j t,ts[j]?=some t->j<i->TRd X t (qbx j)
 fin: ∀j t,ts[j]?=some t->j<i-> ∃l,ls[j]?=some l/\X.ownsRow 0 9 1 l (t.2+20) ((List.replicate (t.2+20) (qbx j)).map .string)/\ ∀b,l.ownBlock=some b->t.1.ownBlock=some b∨H<=b
theorem Lg.start {X:World}{ts:List (Value×Nat)}{H:Nat}(h:MkO X ts ts.length):Lg ts H 0 X []:=by
 refine⟨fun j t d _=>?_,fun j t _ b=>absurd b wA,fun j t _ b=>absurd b wA⟩;obtain⟨xs,c,e⟩:=h j t d;rw [e (zA.1 d).1]at c;exact c
theorem Lg.step {X Y:World}{ts:List (Value×Nat)}{H i:Nat}{ls:List Value}{t:Value×Nat}{l:Value}(h:Lg ts H i X ls)(hi:ts[i]?=some t)(x:ls.length=i)
  (y: ∀(i j:Nat) (t u:Value×Nat),ts[i]?=some t->ts[j]?=some u->i≠j-> ∀b,t.1.ownBlock=some b->u.1.ownBlock≠some b) (p: ∀t,t∈ts-> ∀b,t.1.ownBlock=some b->b<H)
  {C:Nat->Prop} (hK:Keep C X Y) (v: ∀b,b<X.heap.size->t.1.ownBlock≠some b->(b<H∨ ∃j l,j<i/\ls[j]?=some l/\l.ownBlock=some b)->C b)
  (h1:TRd Y t (qbx i)) (h2:Y.ownsRow 0 9 1 l (t.2+20) ((List.replicate (t.2+20) (qbx i)).map .string)) (h3: ∀b,l.ownBlock=some b->t.1.ownBlock=some b∨H<=b):Lg ts H (i+1) Y (ls++ [l]):=by
 refine⟨fun j u d hj=>?_,fun j u d hj=>?_,fun j u d hj=>?_⟩
 ·have:=h.rest j u d wA;exact this.keep hK fun b q=>v b (zE this.2 b q).2 (y j i _ _ d hi wA b q) (.inl (p u (zH d) b q))
 ·by_cases s:j=i
  ·subst s;rw [hi]at d;cases d;exact h1
  ·have:=h.rd j u d wA;intro g c e m hm;have q:u.1.ownBlock=some g:=by rw [e];rfl
   exact hK.cell (this g c e m hm) (v g (zQ _ _ (this g c e m hm)) (y j i _ _ d hi s g q) (.inl (p u (zH d) g q)))
 ·by_cases s:j=i
  ·subst s;rw [hi]at d;cases d;exact⟨l,by rw [yH wA];simp [x],h2,h3⟩
  ·obtain⟨l',z,R,U⟩:=h.fin j u d wA;refine⟨l',by rw [yR wA];exact z,qf R hK fun b q=>v b (zE R b q).2 (fun e=>?_) (.inr ⟨j,l',wA,z,q⟩),U⟩;rcases U b q with h5 |h5
   ·exact y j i _ _ d hi s b h5 e
   ·have:=p t (zH hi) b e;omega
theorem qta {X:World}{B:Nat}{vT:Value}{ts:List (Value×Nat)}(h:BookIn X B vT ts)(hM:MkO X ts 0)(hT:Tab X)(hb: ∀b,qdh ts b-> ∀Y,Keep (fun b=> ¬qdh ts b) X Y->Tab Y):
  Calls prog 84 #[.pointer (some ⟨B,0,none⟩)] X fun e Y=>e=.returned (.bool true)/\Keep (fun b=> ¬qdh ts b) X Y:=by
 obtain⟨aT,cT,rfl⟩:=qi h.own;have bO: ∀Y,Keep (fun b=> ¬qdh ts b) X Y->Tab Y:=fun Y p=>by
  by_cases he: ∃b,qdh ts b
  ·obtain⟨b,aj⟩:=he;exact hb b aj Y p
  ·exact hT.keep (p.mono fun b _ _ aj=>he ⟨b,aj⟩)
 have aJ: ∀Y,Keep (fun b=> ¬qdh ts b) X Y->BookIn Y B (.slice aT ts.length cT) ts:=fun Y p=>h.keep p fun b aj ⟨t,z,e⟩=>by
  rcases aj with rfl |aj
  ·exact(h.ne t z _ e).1 rfl
  ·exact(h.ne t z _ e).2 aj
 have aA: ∀Y,Keep (fun b=> ¬qdh ts b) X Y->Y.cell? ⟨B,0,none⟩=some (.slice aT ts.length cT)/\B<Y.heap.size:=fun Y p=>by
  have:=qb (aJ Y p).box 0 _ rfl;simp only [zD]at this;exact⟨this,qe (aJ Y p).box⟩
 have cO: ∀i t,ts[i]?=some t-> ∃gT,aT=some ⟨gT,0,none⟩/\ts.length<=cT/\(∀Y,Keep (fun b=> ¬qdh ts b) X Y->Y.cell? ⟨gT,i,none⟩=some t.1/\gT<Y.heap.size):=fun i t z=>by
  have y:=(zA.1 z).1;obtain⟨g,rfl⟩: ∃g,aT=some ⟨g,0,none⟩:=by
   rcases h.own.2 with ⟨_,h2⟩ |⟨g,c,cur,e,-⟩
   ·omega
   ·injection e with e1 e2 e3
    exact⟨g,e1⟩
  refine⟨g,rfl,(qes h.own).1,fun Y p=>⟨qbd (aJ Y p).own i _ (by rw [zP,z];rfl),(qes (aJ Y p).own).2.2.1⟩⟩
 have c1: ∀(i:Nat) Y,i<ts.length->Keep (fun b=> ¬qdh ts b) X Y->Calls prog 129 #[.int .i64 (i:Int)] Y fun e w'=>e=.returned (.string (qbx i))/\wE Y w':=fun i Y hi p=>q5d i (by have:=h.few;omega) Y (bO Y p);have dV:=h.few;have bh:=aA X (Keep.refl _ _);refine hd9 ?_ h hM hT hb bO aJ cO c1 aA;clear h hM hT hb bO aJ cO c1 aA;intro Xh ch d3 d4 dO dP aS aG q;obtain⟨d0,l0⟩:=bh
 go_enter Tryz.func84,Tryz.ntmps84
 go_wp2_with fail
 go_loopw [3] (fun i' wr=> ∃i:Nat,i<=ts.length/\i'=.int .i64 (i:Int)/\Keep (fun b=> ¬qdh ts b) X wr/\MkO wr ts i) (fun i _=>ts.length-(intOf i).toNat)
 case atStart=>exact⟨0,wA,rfl,Keep.refl _ _,ch.o⟩
 case round=>
  obtain⟨i,hi,rfl,hK,hO⟩:=hrel;clear d0 l0;obtain⟨d0,l0⟩:=q.o wr hK;by_cases y:i<ts.length
  ·have bx:(i:Int)<ts.length:=by omega
   have cV:(0:Int)<=i:=wA
   obtain⟨t,z⟩: ∃t,ts[i]?=some t:=⟨_,zB y⟩;obtain⟨gT,rfl,cR,af⟩:=aS.o i t z;obtain⟨tv,n⟩:=t;obtain⟨dH,bF,-⟩:=hO i _ z;obtain⟨ta,tc,e⟩:=qi bF.2;simp only at e;subst e;have hn:=Xh.o.fews _ (zH z);simp only at hn;clear bF d0;have d0:=(q.o wr hK).1;obtain⟨d1,l1⟩:=af wr hK;simp only at d1;obtain⟨Wo,dB⟩: ∃Wo,Wo=wr:=⟨_,rfl⟩;subst dB;refine hd4 ?_ hK hO af z;clear hK hO af z;intro bH du bq ap;go_wp2_with fail
   go_loopw [4] (fun k' wr=> ∃k:Nat,k<=n/\k'=.int .i64 (k:Int)/\Keep (fun b=> ¬qdh ts b) X wr/\MkI wr ts i k) (fun k _=>n-(intOf k).toNat)
   case atStart=>exact⟨0,wA,rfl,bH.o,du.o.start⟩
   case round=>
    obtain⟨k,hk,rfl,x,hI⟩:=hrel;clear d0 d1 l0 l1;obtain⟨d0,l0⟩:=q.o wr x;obtain⟨d1,l1⟩:=bq.o wr x;have cW:(0:Int)<=k:=wA
    by_cases aK:k<n
    ·have a1:(k:Int)<n:=by omega
     obtain⟨xs,hx,-⟩:=hI i _ ap.o;have aC:=hx.2;simp only at aC;obtain⟨g,rfl⟩: ∃g,ta=some ⟨g,0,none⟩:=by
      rcases aC.2 with ⟨_,h2⟩ |⟨g,c,cur,e,-⟩
      ·omega
      ·injection e with e1 e2 e3
       exact⟨g,e1⟩
     obtain⟨Wd,ai⟩:=ex (wr.drew);have kd:wE wr Wd:=by rw [←ai];exact kDr
     have hS: ∀Y,wE wr Y->(Y.cell? ⟨B,0,none⟩=some (.slice (some ⟨gT,0,none⟩) ts.length cT)/\Y.cell? ⟨gT,i,none⟩=some (.slice (some ⟨g,0,none⟩) n tc)):=fun Y p=>⟨p.cell d0 wF,p.cell d1 wF⟩;have ar:=hS Wd kd;have hm:=aG.o i Wd y (x.trans kd.mt);have cQ:qdh ts g:=⟨_,zH ap.o,rfl⟩;have cU: ∀Y,wE wr Y->(∃u,Y.cell? ⟨g,k,none⟩=some u)/\Y.frozen? ⟨g,k,none⟩=false/\g<Y.heap.size:=fun Y p=>by
      have hy:=hx.keep p (fun _ _=>wF);have h1:=hy.1;have hy:=hy.2;simp only at hy h1;refine⟨⟨_,qbd hy k _ (zB (by rw [zL];omega))⟩,hy.frozenAt k,(qes hy).2.2.1⟩
     clear hx aC;refine hd9 ?_ x hI hS ar hm cU ai kd cQ;clear x hI hS ar hm cU ai kd cQ;intro s dt aH am ay cp an bK co;go_wp2_with fail;refine qau rfl (fun Y=>Y.cell? ⟨B,0,none⟩=some (.slice (some ⟨gT,0,none⟩) ts.length cT)/\Y.cell? ⟨gT,i,none⟩=some (.slice (some ⟨g,0,none⟩) n tc)) [11] ?_;rw [an.o];refine qq [0,1,2,3,4,5,6,7,8] ?_
     iterate 9
      refine tkA rfl am.o ?_
      try simp only [qr]
     refine ql ?_;refine ho 9 rfl fun K U=>?_;go_wp2_with fail;refine ay.o.mono ?_;rintro e W1 ⟨rfl,k1⟩;have bn:=bK.o.trans k1;obtain⟨⟨u0,c5⟩,c6,c7⟩:=cp.o W1 bn;have au:=aH.o W1 bn;refine hd3 ?_ k1 bn au;clear k1 bn au;intro cC bs d;go_wp2_with fail;refine U.o _ _ (fun _=>d.o) ?_;refine ho 10 rfl fun K al=>?_;go_wp2_with fail;refine al.o _ _ (fun _=>d.o) ?_;refine ho 11 rfl fun K s=>?_;go_wp2_with fail;refine s.o _ _ (fun h=>absurd h wD) ?_;refine qa0 wB ?_;clear U al s;have cF:=(dt.o.keep bs.o).put ap.o aK Xh.o.pair;have R:=(s.o.trans bs.o.mt).trans (Keep.setCell (C:=fun b=> ¬qdh ts b) W1 ⟨g,k,none⟩ (.string (qbx i)) (by simpa using co.o));refine hd2 ?_ cF R;clear cF R;intro cc aa;go_wp2_with fail;go_roundw
     case rel=>exact⟨k+1,wA,by go_num,aa.o,cc.o⟩
     case measure=>simp [intOf];omega
    ·obtain rfl:k=n:=by omega
     have cM:=hI.done ap.o;refine hd2 ?_ x cM;clear x cM;intro s ck;go_wp2_with fail;go_roundw
     case rel=>exact⟨i+1,wA,by go_num,s.o,ck.o⟩
     case measure=>simp [intOf];omega
  ·obtain rfl:i=ts.length:=by omega
   obtain⟨H,hH⟩:=ex (wr.heap.size);have bw: ∀t,t∈ts-> ∀b,t.1.ownBlock=some b->b<H:=fun t z b hb=>by
    obtain⟨j,hj⟩:=zy.1 z;obtain⟨xs,hx,-⟩:=hO j t hj;have:=(zE hx.2 b hb).2;omega
   have cJ:=Lg.start (H:=H) hO;have dE:H<=wr.heap.size:=wA
   have d9:X.heap.size<=H:=by have:=hK.size;omega
   clear hH hO y hi;refine hd3 ?_ hK cJ bw;clear hK cJ bw;intro bH cf aX;obtain⟨Wa,dy⟩: ∃Wa,Wa=wr:=⟨_,rfl⟩;subst dy;go_wp2_with fail
   go_loopw [5,6] (fun vL i' wr=> ∃(i:Nat) (ls:List Value),i<=ts.length/\i'=.int .i64 (i:Int)/\ls.length=i/\Keep (fun b=> ¬qdh ts b) X wr/\Lg ts H i wr ls/\wr.ownsRow H 60 1 vL i ls/\H<=wr.heap.size) (fun _ i _=>ts.length-(intOf i).toNat)
   case atStart=>exact⟨0,[],wA,rfl,rfl,bH.o,cf.o,zj _ _ _ _,dE⟩
   case round=>
    obtain⟨i,ls,hi,rfl,bm,x,hL,hv,hw⟩:=hrel;clear d0 l0;obtain⟨d0,l0⟩:=q.o wr x;obtain⟨aL,cL,rfl⟩:=qi hv;by_cases y:i<ts.length
    ·have bx:(i:Int)<ts.length:=by omega
     have cV:(0:Int)<=i:=wA
     obtain⟨t,z⟩: ∃t,ts[i]?=some t:=⟨_,zB y⟩;obtain⟨gT,rfl,cR,af⟩:=aS.o i t z;obtain⟨tv,n⟩:=t;have hx:=(hL.rest i _ z (zG _));obtain⟨ta,tc,e⟩:=qi hx.2;simp only at e;subst e;have hn:=Xh.o.fews _ (zH z);simp only at hn;obtain⟨d1,l1⟩:=af wr x;simp only at d1;have db: ∀b,¬qdh ts b->(Value.slice ta n tc).ownBlock≠some b:=fun b h e=>h ⟨_,zH z,e⟩;have aC:=hx.2;have dg:=hx.rd;simp only at aC;obtain⟨Wi,dA⟩: ∃Wi,Wi=wr:=⟨_,rfl⟩;obtain⟨Hi,cE⟩:=ex (Wi.heap.size);subst dA;clear hx;refine qdx ?_ x hL hv z af db aC dg cE bm;clear x hL hv z af db aC dg cE bm;intro s aR az ap bq br cA cB bp aW;go_wp2_with fail
     go_loopw [7,8] (fun l k' wq=> ∃k:Nat,k<=20/\k'=.int .i64 (k:Int)/\Keep (fun b=>(Value.slice ta n tc).ownBlock≠some b) Wi wq/\wq.ownsRow 0 9 1 l (n+k) ((List.replicate (n+k) (qbx i)).map .string)/\(∀b,l.ownBlock=some b->(Value.slice ta n tc).ownBlock=some b∨Hi<=b)/\TRd wq (.slice ta n tc,n) (qbx i)) (fun _ k _=>20-(intOf k).toNat)
     case atStart=>exact⟨0,wA,rfl,Keep.refl _ _,cA.o,fun b hb=>.inl hb,cB.o⟩
     case round=>
      obtain⟨k,hk,rfl,aq,hl,bl,aB⟩:=hrel;obtain⟨la,lc,rfl⟩:=qi hl;have cW:(0:Int)<=k:=wA
      by_cases aK:k<20
      ·have a1:(k:Int)<20:=by omega
       have hm:=aG.o i wr y (s.o.trans (aq.mono fun b _ h=>br.o b h));have dF:=aq.size;have bu:=bp.o;refine hd5 ?_ aq hl bl aB hm;clear aq hl bl aB hm;intro ce cq cr cx ay;go_wp2_with fail;refine ay.o.mono ?_;rintro e W1 ⟨rfl,k1⟩;obtain⟨W2,bd⟩:=ex (W1.alloc (.cells #[.string (qbx i)] 9));obtain⟨N1,bM⟩:=ex (W1.heap.size);have k2:wE W1 W2:=by rw [←bd];exact kAl
       have n2:W2.heap[N1]?=some (.cells #[.string (qbx i)] 9 (0,0)):=by rw [←bd,←bM];exact qh _ _
       have a3:=k1.trans k2;have z1:=k1.size;have z2:=a3.size;obtain⟨v3,W3,c9,c4,g3,c3,rfl,cP,ec,bR⟩:=qug (P:=prog) q83 60 (qf cq.o a3 fun _ _=>wF) ⟨N1,0,none⟩ 1 1 [.string (qbx i)] rfl (fun j u hj=>by
        cases j with
        |zero=>cases hj;exact qbn n2
        |succ j=>cases hj) (by simp [Value.oneCell']) wD wA (ya _)
       have bP: ∀b,(Value.slice (some ⟨g3,0,none⟩) (n+k+1) c3).ownBlock=some b->(Value.slice ta n tc).ownBlock=some b∨Hi<=b:=fun b hb=>by
        cases hb;rcases cP with h5 |h5
        ·exact cr.o _ h5
        ·exact .inr (by show Hi<=g3;omega)
       have R:Keep (fun b=>(Value.slice ta n tc).ownBlock≠some b) Wi W3:=by
        have h0:Keep (fun b=>(Value.slice ta n tc).ownBlock≠some b/\b<Hi) Wi W3:=(ce.o.mono fun b _ h=>h.1).trans (a3.mt.trans (bR.mono fun b _ h e=>by
         rcases bP b (by rw [e];rfl) with h5 |h5
         ·exact h.1 h5
         ·have:=h.2;omega))
        exact h0.mono fun b hb h=>⟨h,wA⟩
       have bS:W3.ownsRow 0 9 1 (.slice (some ⟨g3,0,none⟩) (n+(k+1)) c3) (n+(k+1)) ((List.replicate (n+(k+1)) (qbx i)).map .string):=by
        have e:(List.replicate (n+(k+1)) (qbx i)).map Value.string=(List.replicate (n+k) (qbx i)).map Value.string++ [.string (qbx i)]:=by
         rw [←xG,replicate_succ',zn];rfl
        rw [e];exact c4
       have bD:TRd W3 (.slice ta n tc,n) (qbx i):=fun g c e m hm=>by
        by_cases hg:g=g3
        ·subst hg;exact q1g bS m hm
        ·exact bR.cell (a3.cell (cx.o g c e m hm) wF) hg
       clear k1 k2 n2 a3 c4 cP bR bu;refine hd7 ?_ bd bM c9 bP R bS bD;clear bd bM c9 bP R bS bD;intro cl ci cv cn aa ct bJ;go_wp2_with (at_builtin;rw [cl.o,ci.o];refine qbo rfl _ _ _ rfl rfl rfl cv.o ?_);go_roundw
       case rel=>exact⟨k+1,wA,by go_num,aa.o,ct.o,cn.o,bJ.o⟩
       case measure=>simp [intOf];omega
      ·obtain rfl:k=20:=by omega
       have ak:=aX.o _ (zH ap.o);simp only at ak;have dF:=aq.size;have bu:=bp.o;have de:=qf az.o aq (fun b hb e=>by have:=(zE az.o b hb).1;have:=ak b e;omega);obtain⟨W4,bf⟩:=ex (wr.alloc (.cells #[.slice la (n+20) lc] 60));obtain⟨N4,bN⟩:=ex (wr.heap.size);have k4:wE wr W4:=by rw [←bf];exact kAl
       have n4:W4.heap[N4]?=some (.cells #[.slice la (n+20) lc] 60 (0,0)):=by rw [←bf,←bN];exact qh _ _
       have z4:=k4.size;have a2:=qf de k4 (fun _ _=>wF);have bk:=qf hl k4 (fun _ _=>wF);obtain⟨v5,W5,da,c8,g5,c5,rfl,bg,ed,bj⟩:=qug (P:=prog) q1f 69 a2 ⟨N4,0,none⟩ 1 1 [.slice la (n+20) lc] rfl (fun j u hj=>by
        cases j with
        |zero=>cases hj;exact qbn n4
        |succ j=>cases hj) (by simp [Value.oneCell']) wD wA wA
       have dX:H<=g5:=by
        rcases bg with h5 |h5
        ·exact(zE a2 _ h5).1
        ·omega
       have cY:=qf bk bj (fun b hb e=>by
        subst e;rcases bg with h5 |h5
        ·exact qry bk a2 wD b hb h5
        ·have:=(zE bk b hb).2;omega)
       have bz:TRd W5 (.slice ta n tc,n) (qbx i):=(aB.keep k4 fun _ _=>wF).keep bj fun b hb e=>by have:=ak b hb;omega
       have kA:Keep (fun b=>(Value.slice ta n tc).ownBlock≠some b/\b≠g5) Wi W5:=(aq.mono fun b _ h=>h.1).trans (k4.mt.trans (bj.mono fun b _ h=>h.2));have cK:=aR.o.step (l:=.slice la (n+20) lc) ap.o aW.o Xh.o.pair aX.o kA (fun b hb h1 h2=>⟨h1,fun e=>by
        subst e;rcases bg with h5 |h5
        ·rcases h2 with h2 |⟨j,l,hj,hl',aj⟩
         ·have:=(zE a2 _ h5).1;omega
         ·obtain⟨u,hu⟩: ∃u,ts[j]?=some u:=⟨_,zB (show j<ts.length from wA)⟩;obtain⟨l2,q1,q2,-⟩:=aR.o.fin j u hu hj;rw [hl']at q1;cases q1;exact qry q2 az.o wD b aj h5
        ·omega⟩) bz cY (fun b hb=>by
        rcases bl b hb with h5 |h5
        ·exact .inl h5
        ·exact .inr wA)
       have cG:Keep (fun b=> ¬qdh ts b) X W5:=by
        have h0:Keep (fun b=> ¬qdh ts b/\b<H) X W5:=(s.o.mono fun b _ h=>h.1).trans (kA.mono fun b _ h=>⟨br.o b h.1,by have:=h.2;omega⟩);exact h0.mono fun b hb h=>⟨h,wA⟩
       have df:H<=W5.heap.size:=by have:=kA.size;omega
       have bv:(ls++ [Value.slice la (n+20) lc]).length=i+1:=by rw [zR,aW.o];rfl
       clear de ak a2 bk n4 k4 bg bj cY bz kA bl aB aq;refine hd9 ?_ bf bN da c8 cK cG df bv hl;clear bf bN da c8 cK cG df bv hl;intro cm cj cw cu cg cd cz bI cq;go_wp2_with (at_builtin;rw [cm.o,cj.o];refine qbo rfl _ _ _ rfl rfl rfl cw.o ?_);go_roundw
       case rel=>exact⟨i+1,_,wA,by go_num,bI.o,cd.o,cg.o,cu.o,cz.o⟩
       case measure=>simp [intOf];omega
    ·obtain rfl:i=ts.length:=by omega
     obtain⟨We,dz⟩: ∃We,We=wr:=⟨_,rfl⟩;subst dz;clear y hi hw;have cH: ∀Y,wE We Y->Keep (fun b=> ¬qdh ts b) X Y:=fun Y p=>x.trans p.mt;refine hd5 ?_ x hL hv bm cH;clear x hL hv bm cH;intro s aR az aW ag;go_wp2_with fail
     go_loopw [9] (fun i' wr=> ∃i:Nat,i<=ts.length/\i'=.int .i64 (i:Int)/\wE We wr) (fun i _=>ts.length-(intOf i).toNat)
     case atStart=>exact⟨0,wA,rfl,Keep.refl _ _⟩
     case round=>
      obtain⟨i,hi,rfl,R⟩:=hrel;clear d0 l0;obtain⟨d0,l0⟩:=q.o wr (ag.o wr R);by_cases y:i<ts.length
      ·have bx:(i:Int)<ts.length:=by omega
       have cV:(0:Int)<=i:=wA
       obtain⟨t,z⟩: ∃t,ts[i]?=some t:=⟨_,zB y⟩;obtain⟨gT,rfl,cR,af⟩:=aS.o i t z;obtain⟨tv,n⟩:=t;have aB:=aR.o.rd i _ z y;obtain⟨lv,cZ,aM,-⟩:=aR.o.fin i _ z y;simp only at aM;have hn:=Xh.o.fews _ (zH z);simp only at hn;obtain⟨dH,bV,-⟩:=ch.o i _ z;obtain⟨ta,tc,e⟩:=qi bV.2;simp only at e;subst e;obtain⟨la,lc,rfl⟩:=qi aM;obtain⟨lg,rfl⟩: ∃g,la=some ⟨g,0,none⟩:=by
        rcases aM.2 with ⟨_,h2⟩ |⟨g,c,cur,e,-⟩
        ·omega
        ·injection e with e1 e2 e3
         exact⟨g,e1⟩
       obtain⟨gL,rfl⟩: ∃g,aL=some ⟨g,0,none⟩:=by
        rcases az.o.2 with ⟨_,h2⟩ |⟨g,c,cur,e,-⟩
        ·omega
        ·injection e with e1 e2 e3
         exact⟨g,e1⟩
       have dc: ∀k,k<n-> ∃tg,ta=some ⟨tg,0,none⟩/\ ∀Y,wE We Y->Y.cell? ⟨tg,k,none⟩=some (.string (qbx i)):=fun k hk=>by
        have h2:=bV.2;simp only at h2;rcases h2.2 with ⟨_,h2⟩ |⟨g,c,cur,e,-⟩
        ·omega
        ·injection e with e1 e2 e3
         subst e1;subst e3;exact⟨g,rfl,fun Y p=>p.cell (aB g tc rfl k hk) wF⟩
       have bQ: ∀Y,wE We Y->Y.cell? ⟨gL,i,none⟩=some (.slice (some ⟨lg,0,none⟩) (n+20) lc)/\gL<Y.heap.size/\lg<Y.heap.size/\ ∀k,k<n+20->Y.cell? ⟨lg,k,none⟩=some (.string (qbx i)):=fun Y p=>by
        have q1:=qf az.o p fun _ _=>trivial;have q2:=qf aM p fun _ _=>trivial;exact⟨qbd q1 i _ cZ,(qes q1).2.2.1,(qes q2).2.2.1,fun k hk=>q1g (n:=n+20) (k:=0) q2 k hk⟩
       have ea:=(qes az.o).1;have eb:=(qes aM).1;have hd1: ∀Y,wE We Y->Y.cell? ⟨gT,i,none⟩=some (.slice ta n tc)/\gT<Y.heap.size:=fun Y p=>af Y (ag.o Y p);have cS: ∀Y,wE We Y->Y.cell? ⟨B,0,none⟩=some (.slice (some ⟨gT,0,none⟩) ts.length cT)/\B<Y.heap.size:=fun Y p=>q.o Y (ag.o Y p);obtain⟨e1,e2,e3,-⟩:=bQ wr R;obtain⟨d1,l1⟩:=hd1 wr R;obtain⟨Wz,dC⟩: ∃Wz,Wz=wr:=⟨_,rfl⟩;subst dC;clear bV aM aB cZ af;refine hd6 ?_ R z dc bQ hd1 cS;clear R z dc bQ hd1 cS;intro aa ap cy ao aV aU;go_wp2_with fail
       go_loopw [10] (fun k' wr=> ∃k:Nat,k<=n+20/\k'=.int .i64 (k:Int)/\wE We wr) (fun k _=>n+20-(intOf k).toNat)
       case atStart=>exact⟨0,wA,rfl,aa.o⟩
       case round=>
        obtain⟨k,hk,rfl,ad⟩:=hrel;have cW:(0:Int)<=k:=wA
        clear d0 l0 d1 l1 e1 e2 e3;obtain⟨d0,l0⟩:=aU.o wr ad;obtain⟨d1,l1⟩:=aV.o wr ad;obtain⟨e1,e2,e3,e4⟩:=ao.o wr ad;by_cases aK:k<n+20
        ·have a1:(k:Int)<(n+20:Nat):=by omega
         have dY:(k:Int)<(n:Int)+20:=wA
         have e5:=e4 k aK;obtain⟨Wd,ai⟩:=ex (wr.drew);have kd:wE wr Wd:=by rw [←ai];exact kDr
         have aE:=ad.trans kd;have hm:=aG.o i Wd y (ag.o Wd aE);clear e4;by_cases dD:k<n
         ·obtain⟨tg,rfl,bU⟩:=cy.o k dD;have cX:(k:Int)<n:=by omega
          have hS: ∀Y,wE We Y->(Y.cell? ⟨gL,i,none⟩=some (.slice (some ⟨lg,0,none⟩) (n+20) lc)/\Y.cell? ⟨lg,k,none⟩=some (.string (qbx i))/\Y.cell? ⟨B,0,none⟩=some (.slice (some ⟨gT,0,none⟩) ts.length cT)/\Y.cell? ⟨gT,i,none⟩=some (.slice (some ⟨tg,0,none⟩) n tc)/\Y.cell? ⟨tg,k,none⟩=some (.string (qbx i))):=fun Y p=>⟨(ao.o Y p).1,(ao.o Y p).2.2.2 k aK,(aU.o Y p).1,(aV.o Y p).1,bU Y p⟩;have ar:=hS Wd aE;refine hd8 ?_ ad ai kd aE hm hS ar bU;clear ad ai kd aE hm hS ar bU;intro aQ an bK aZ ay aH am dQ;go_wp2_with fail;refine qau rfl (fun Y=>Y.cell? ⟨gL,i,none⟩=some (.slice (some ⟨lg,0,none⟩) (n+20) lc)/\Y.cell? ⟨lg,k,none⟩=some (.string (qbx i))/\Y.cell? ⟨B,0,none⟩=some (.slice (some ⟨gT,0,none⟩) ts.length cT)/\Y.cell? ⟨gT,i,none⟩=some (.slice (some ⟨tg,0,none⟩) n tc)/\Y.cell? ⟨tg,k,none⟩=some (.string (qbx i))) [] ?_;rw [an.o];refine qq [0,1,2,3,4,5,6,7] ?_
          iterate 8
           refine tkA rfl am.o ?_
           try simp only [qr]
          refine ql ?_;refine ho 8 rfl fun K U=>?_;go_wp2_with fail;refine ay.o.mono ?_;rintro e W1 ⟨rfl,k1⟩;have aw:=aZ.o.trans k1;have au:=aH.o W1 aw;have c0:=aG.o i W1 y (ag.o W1 aw);refine hd4 ?_ k1 aw au c0;clear k1 aw au c0;intro cC aY d cs;go_wp2_with fail;refine U.o _ _ (fun _=>d.o) ?_;refine qaz (i:=9) (v:=.bool false) rfl wB wB wB wB (fun _ _ _ h=>h) d.o (Or.inl ⟨by rfl,fun Wq av=>(by go_simp;try simp)⟩) ?_
          try simp only [Act.put,getElem_toArray,getElem_cons_zero,getElem_cons_succ,yK,set_cons_zero,set_cons_succ]
          refine qq [10,11,12,13,14,15,16,17,18,19] ?_
          iterate 10
           refine tkA rfl d.o ?_
           try simp only [qr]
          refine ql ?_;refine qaz (i:=20) (v:=.bool true) rfl wB wB wB wB (fun _ _ _ h=>h) d.o (Or.inl ⟨by rfl,fun Wq av=>(by go_simp;try simp)⟩) ?_
          try simp only [Act.put,getElem_toArray,getElem_cons_zero,getElem_cons_succ,yK,set_cons_zero,set_cons_succ]
          refine qq [21,22,23,24,25,26,27,28,29,30,31,32] ?_
          iterate 12
           refine tkA rfl d.o ?_
           try simp only [qr]
          refine ql ?_;refine ho 33 rfl fun K al=>?_;go_wp2_with fail;refine cs.o.mono ?_;rintro e W2 ⟨rfl,k2⟩;have b0:=aY.o.trans k2;have cN:=aH.o W2 b0;refine hd3 ?_ k2 b0 cN;clear k2 b0 cN;intro d5 cD aF;go_wp2_with fail;refine al.o _ _ (fun _=>aF.o) ?_;refine qaz (i:=34) (v:=.bool false) rfl wB wB wB wB (fun _ _ _ h=>h) aF.o (Or.inl ⟨by rfl,fun Wq av=>(by go_simp;try simp)⟩) ?_
          try simp only [Act.put,getElem_toArray,getElem_cons_zero,getElem_cons_succ,yK,set_cons_zero,set_cons_succ]
          refine qaz (i:=35) (v:=.bool false) rfl wB wB wB wB (fun _ _ _ h=>h) aF.o (Or.inl ⟨by rfl,fun Wq av=>(by go_simp;try simp)⟩) ?_
          try simp only [Act.put,getElem_toArray,getElem_cons_zero,getElem_cons_succ,yK,set_cons_zero,set_cons_succ]
          refine qaz (i:=36) (v:=.bool false) rfl wB wB wB wB (fun _ _ _ h=>h) aF.o (Or.inl ⟨by rfl,fun Wq av=>(by go_simp;try simp)⟩) ?_
          try simp only [Act.put,getElem_toArray,getElem_cons_zero,getElem_cons_succ,yK,set_cons_zero,set_cons_succ]
          refine qa0 wB ?_;clear U al;go_wp2_with fail;go_roundw
          case rel=>exact⟨k+1,wA,by go_num,cD.o⟩
          case measure=>simp [intOf];omega
         ·have cX: ¬(k:Int)<n:=by omega
          have hS: ∀Y,wE We Y->(Y.cell? ⟨gL,i,none⟩=some (.slice (some ⟨lg,0,none⟩) (n+20) lc)/\Y.cell? ⟨lg,k,none⟩=some (.string (qbx i))/\Y.cell? ⟨B,0,none⟩=some (.slice (some ⟨gT,0,none⟩) ts.length cT)/\Y.cell? ⟨gT,i,none⟩=some (.slice ta n tc)):=fun Y p=>⟨(ao.o Y p).1,(ao.o Y p).2.2.2 k aK,(aU.o Y p).1,(aV.o Y p).1⟩;have ar:=hS Wd aE;refine hd7 ?_ ad ai kd aE hm hS ar;clear ad ai kd aE hm hS ar;intro aQ an bK aZ ay aH am;go_wp2_with fail;refine qau rfl (fun Y=>Y.cell? ⟨gL,i,none⟩=some (.slice (some ⟨lg,0,none⟩) (n+20) lc)/\Y.cell? ⟨lg,k,none⟩=some (.string (qbx i))/\Y.cell? ⟨B,0,none⟩=some (.slice (some ⟨gT,0,none⟩) ts.length cT)/\Y.cell? ⟨gT,i,none⟩=some (.slice ta n tc)) [] ?_;rw [an.o];refine qq [0,1,2,3,4,5,6,7] ?_
          iterate 8
           refine tkA rfl am.o ?_
           try simp only [qr]
          refine ql ?_;refine ho 8 rfl fun K U=>?_;go_wp2_with fail;refine ay.o.mono ?_;rintro e W1 ⟨rfl,k1⟩;have aw:=aZ.o.trans k1;have au:=aH.o W1 aw;refine hd3 ?_ k1 aw au;clear k1 aw au;intro cC aY d;go_wp2_with fail;refine U.o _ _ (fun _=>d.o) ?_;refine qaz (i:=9) (v:=.bool false) rfl wB wB wB wB (fun _ _ _ h=>h) d.o (Or.inl ⟨by rfl,fun Wq av=>(by go_simp;try simp)⟩) ?_
          try simp only [Act.put,getElem_toArray,getElem_cons_zero,getElem_cons_succ,yK,set_cons_zero,set_cons_succ]
          refine qq [10,11,12,13,14,15,16,17,18,19] ?_
          iterate 10
           refine tkA rfl d.o ?_
           try simp only [qr]
          refine ql ?_;refine qaz (i:=20) (v:=.bool false) rfl wB wB wB wB (fun _ _ _ h=>h) d.o (Or.inl ⟨by rfl,fun Wq av=>(by go_simp;try simp)⟩) ?_
          try simp only [Act.put,getElem_toArray,getElem_cons_zero,getElem_cons_succ,yK,set_cons_zero,set_cons_succ]
          refine qq [21] ?_
          iterate 1
           refine tkA rfl d.o ?_
           try simp only [qr]
          refine ql ?_;refine qaz (i:=22) (v:=undef) rfl wB wB wB wB (fun _ _ _ h=>h) d.o (Or.inr ⟨wB,rfl⟩) ?_
          try simp only [Act.put,getElem_toArray,getElem_cons_zero,getElem_cons_succ,yK,set_cons_zero,set_cons_succ]
          refine qaz (i:=23) (v:=undef) rfl wB wB wB wB (fun _ _ _ h=>h) d.o (Or.inr ⟨wB,rfl⟩) ?_
          try simp only [Act.put,getElem_toArray,getElem_cons_zero,getElem_cons_succ,yK,set_cons_zero,set_cons_succ]
          refine qaz (i:=24) (v:=undef) rfl wB wB wB wB (fun _ _ _ h=>h) d.o (Or.inr ⟨wB,rfl⟩) ?_
          try simp only [Act.put,getElem_toArray,getElem_cons_zero,getElem_cons_succ,yK,set_cons_zero,set_cons_succ]
          refine qaz (i:=25) (v:=undef) rfl wB wB wB wB (fun _ _ _ h=>h) d.o (Or.inr ⟨wB,rfl⟩) ?_
          try simp only [Act.put,getElem_toArray,getElem_cons_zero,getElem_cons_succ,yK,set_cons_zero,set_cons_succ]
          refine qaz (i:=26) (v:=undef) rfl wB wB wB wB (fun _ _ _ h=>h) d.o (Or.inr ⟨wB,rfl⟩) ?_
          try simp only [Act.put,getElem_toArray,getElem_cons_zero,getElem_cons_succ,yK,set_cons_zero,set_cons_succ]
          refine qaz (i:=27) (v:=undef) rfl wB wB wB wB (fun _ _ _ h=>h) d.o (Or.inr ⟨wB,rfl⟩) ?_
          try simp only [Act.put,getElem_toArray,getElem_cons_zero,getElem_cons_succ,yK,set_cons_zero,set_cons_succ]
          refine qaz (i:=28) (v:=undef) rfl wB wB wB wB (fun _ _ _ h=>h) d.o (Or.inr ⟨wB,rfl⟩) ?_
          try simp only [Act.put,getElem_toArray,getElem_cons_zero,getElem_cons_succ,yK,set_cons_zero,set_cons_succ]
          refine qaz (i:=29) (v:=undef) rfl wB wB wB wB (fun _ _ _ h=>h) d.o (Or.inr ⟨wB,rfl⟩) ?_
          try simp only [Act.put,getElem_toArray,getElem_cons_zero,getElem_cons_succ,yK,set_cons_zero,set_cons_succ]
          refine qaz (i:=30) (v:=undef) rfl wB wB wB wB (fun _ _ _ h=>h) d.o (Or.inr ⟨wB,rfl⟩) ?_
          try simp only [Act.put,getElem_toArray,getElem_cons_zero,getElem_cons_succ,yK,set_cons_zero,set_cons_succ]
          refine qaz (i:=31) (v:=undef) rfl wB wB wB wB (fun _ _ _ h=>h) d.o (Or.inr ⟨wB,rfl⟩) ?_
          try simp only [Act.put,getElem_toArray,getElem_cons_zero,getElem_cons_succ,yK,set_cons_zero,set_cons_succ]
          refine qaz (i:=32) (v:=undef) rfl wB wB wB wB (fun _ _ _ h=>h) d.o (Or.inr ⟨wB,rfl⟩) ?_
          try simp only [Act.put,getElem_toArray,getElem_cons_zero,getElem_cons_succ,yK,set_cons_zero,set_cons_succ]
          refine qaz (i:=33) (v:=undef) rfl wB wB wB wB (fun _ _ _ h=>h) d.o (Or.inr ⟨wB,rfl⟩) ?_
          try simp only [Act.put,getElem_toArray,getElem_cons_zero,getElem_cons_succ,yK,set_cons_zero,set_cons_succ]
          refine qaz (i:=34) (v:=undef) rfl wB wB wB wB (fun _ _ _ h=>h) d.o (Or.inr ⟨wB,rfl⟩) ?_
          try simp only [Act.put,getElem_toArray,getElem_cons_zero,getElem_cons_succ,yK,set_cons_zero,set_cons_succ]
          refine qaz (i:=35) (v:=.bool false) rfl wB wB wB wB (fun _ _ _ h=>h) d.o (Or.inl ⟨by rfl,fun Wq av=>(by go_simp;try simp)⟩) ?_
          try simp only [Act.put,getElem_toArray,getElem_cons_zero,getElem_cons_succ,yK,set_cons_zero,set_cons_succ]
          refine qaz (i:=36) (v:=.bool false) rfl wB wB wB wB (fun _ _ _ h=>h) d.o (Or.inl ⟨by rfl,fun Wq av=>(by go_simp;try simp)⟩) ?_
          try simp only [Act.put,getElem_toArray,getElem_cons_zero,getElem_cons_succ,yK,set_cons_zero,set_cons_succ]
          refine qa0 wB ?_;clear U;go_wp2_with fail;go_roundw
          case rel=>exact⟨k+1,wA,by go_num,aY.o⟩
          case measure=>simp [intOf];omega
        ·obtain rfl:k=n+20:=by omega
         have a1: ¬((n+20:Nat):Int)<(n:Int)+20:=wA
         clear e4;refine hd1 ?_ ad;clear ad;intro aQ;go_wp2_with fail;go_roundw
         case rel=>exact⟨i+1,wA,by go_num,aQ.o⟩
         case measure=>simp [intOf];omega
      ·obtain rfl:i=ts.length:=by omega
       clear y hi;refine hd1 ?_ R;clear R;intro aa;go_wp2_with fail;go_ret;exact⟨rfl,ag.o _ aa.o⟩
theorem qtu {X:World}{B:Nat}{d:Value}{ts:List (Value×Nat)}(h:BookIn X B d ts):Calls prog 85 #[.pointer (some ⟨B,0,none⟩)] X fun e Y=>e=.returned (.bool true)/\Y=X:=by
 have p:=qb h.box 1 _ rfl;have q:=qe h.box;refine hd1 ?_ h;clear h;intro m
 go_enter Tryz.func85,Tryz.ntmps85
 go_wp2_with fail
 go_loopw [3] (fun c wr=>c=.int .i64 0/\wr=X) (fun _ _=>0)
 case atStart=>exact⟨rfl,rfl⟩
 case round=>
  obtain⟨rfl,b⟩:=hrel;subst b;go_wp2_with fail
  go_loopw [6] (fun c g=>c=.int .i64 0/\g=wr) (fun _ _=>0)
  case atStart=>exact⟨rfl,rfl⟩
  case round=>
   obtain⟨rfl,b⟩:=hrel;subst b;go_wp2_with fail
   go_loopw [9] (fun c l=>c=.int .i64 0/\l=wr) (fun _ _=>0)
   case atStart=>exact⟨rfl,rfl⟩
   case round=>
    obtain⟨rfl,b⟩:=hrel;subst b;go_wp2_with fail;go_ret;exact⟨rfl,rfl⟩
theorem qtb {X:World}{B:Nat}{d:Value}{ts:List (Value×Nat)}(h:BookIn X B d ts):Calls prog 86 #[.pointer (some ⟨B,0,none⟩)] X fun e Y=>e=.returned (.bool true)/\Y=X:=by
 have p:=qb h.box 2 _ rfl;have q:=qe h.box;refine hd1 ?_ h;clear h;intro m
 go_enter Tryz.func86,Tryz.ntmps86
 go_wp2_with fail
 go_loopw [3] (fun c wr=>c=.int .i64 0/\wr=X) (fun _ _=>0)
 case atStart=>exact⟨rfl,rfl⟩
 case round=>
  obtain⟨rfl,b⟩:=hrel;subst b;go_wp2_with fail
  go_loopw [6] (fun c g=>c=.int .i64 0/\g=wr) (fun _ _=>0)
  case atStart=>exact⟨rfl,rfl⟩
  case round=>
   obtain⟨rfl,b⟩:=hrel;subst b;go_wp2_with fail
   go_loopw [9] (fun c l=>c=.int .i64 0/\l=wr) (fun _ _=>0)
   case atStart=>exact⟨rfl,rfl⟩
   case round=>
    obtain⟨rfl,b⟩:=hrel;subst b;go_wp2_with fail;go_ret;exact⟨rfl,rfl⟩
theorem qtc {X:World}{B:Nat}{R:Value}{ts:List (Value×Nat)}(h:BookIn X B R ts)(s:MkO X ts 0)(hT: ∀Y,Keep (fun b=> ¬qdh ts b) X Y->Tab Y):
  Calls prog 36 #[.pointer (some ⟨B,0,none⟩)] X fun e Y=>e=.returned (.bool true)/\Keep (fun b=> ¬qdh ts b) X Y:=by
 have v:=qta h s (hT X (Keep.refl _ _)) (fun _ _ Y u=>hT Y u);have z: ∀Y,Keep (fun b=> ¬qdh ts b) X Y->BookIn Y B R ts:=fun Y u=>h.keep u fun b hb' ⟨t,ht,e⟩=>by
  rcases hb' with rfl |hb'
  ·exact(h.ne t ht _ e).1 rfl
  ·exact(h.ne t ht _ e).2 hb'
 refine hd5 ?_ h s hT v z;clear h s hT v z;intro Xh U aa l d
 go_enter Tryz.func36,Tryz.ntmps36
 go_wp2_with fail;refine l.o.mono ?_;rintro e Y ⟨rfl,g⟩;have x:=qtu (d.o Y g);have y:=qtb (d.o Y g);refine hd3 ?_ g x y;clear g x y;intro q m p;go_wp2_with fail;refine m.o.mono ?_;rintro e w9 ⟨rfl,c⟩;have c:=c.symm;subst c;go_wp2_with fail;refine p.o.mono ?_;rintro e w9 ⟨rfl,c⟩;have c:=c.symm;subst c;go_wp2_with fail;go_ret;exact⟨rfl,q.o⟩
end Go.Proofs
namespace Go.Proofs
open Go.RowKit Go.Ink Go.Flt R4 P16
attribute [local go_sem] Oper.semAt_some
theorem qwm {X:World}{B A M:Nat}{vT s v2:Value}{d:List Value}(m:X.heap[B]?=some (.cells #[vT,.slice none 0 0,.slice none 0 0] 73 (0,0)))(p:X.ownsRow M 60 1 vT d.length d)(hA:X.heap[A]?=some (.cells #[s,v2] 60 (0,0)))(hM:B<M)(ap:M<=X.heap.size)(U:d.length<=1073741824)(h1:s.oneCell'=true)(h2:v2.oneCell'=true):
  Calls prog 34 #[.pointer (some ⟨B,0,none⟩),.slice (some ⟨A,0,none⟩) 2 2] X fun e Y=>e=.returned (.tuple #[])/\ ∃v',Y.heap[B]?=some (.cells #[v',.slice none 0 0,.slice none 0 0] 73 (0,0))/\Y.ownsRow M 60 1 v' (d.length+2) (d++ [s,v2])/\Keep (fun b=>b≠B/\b<M) X Y:=by
 obtain⟨aT,cT,rfl⟩:=qi p;obtain⟨v',W1,hr,ho,g,c,rfl,hg,ar,q⟩:=qug (P:=prog) q1f 69 p ⟨A,0,none⟩ 2 2 [s,v2] rfl (fun j u hj=>by
  have:=qb hA j u (by simpa using hj);rw [zD]at this;rw [show((⟨A,0,none⟩:Addr).add j)=⟨A,j,none⟩ from by unfold Addr.add;split<;>simp_all];exact this) (fun u hu=>by
  simp only [zw,yS,yf]at hu;rcases hu with rfl |rfl
  ·exact h1
  ·exact h2) wD wA wA
 have au:M<=g:=by
  rcases hg with h |h
  ·exact(zE p _ h).1
  ·omega
 have l:=q.heap m (show B≠g from wA);have c0:=qb m 0 _ rfl;have l0:=qe m;have c1:=qb l 0 _ rfl;have f1:=qg l 0;have l1:=qe l;have R:=qaj 0 (.slice (some ⟨g,0,none⟩) (d.length+2) c) l;have z:Keep (fun b=>b≠B) W1 (W1.setCell ⟨B,0,none⟩ (.slice (some ⟨g,0,none⟩) (d.length+2) c)):=kSc;have oS:=qf ho z (fun b hb=>by cases hb;show g≠B;omega);have kX:Keep (fun b=>b≠B/\b<M) X (W1.setCell ⟨B,0,none⟩ (.slice (some ⟨g,0,none⟩) (d.length+2) c)):=(q.mono fun b _ h=>by have:=h.2;omega).trans (z.mono fun b _ h=>h.1);simp only [zD]at c0 c1;clear l hg ho z;refine hd8 ?_ m p hA hr q R oS kX;clear m p hA hr q R oS kX;intro ai aj ah v ak t y x
 go_enter Tryz.func34,Tryz.ntmps34
 go_wp2_with (at_builtin;refine qbo rfl _ _ _ rfl rfl rfl v.o ?_);refine xy (yt rfl _ _ _) rfl ?_;exact⟨rfl,_,t.o,y.o,x.o⟩
def mqT (q:MQ):List (Value×Nat):= [(q.2.1,q.1.head.length),(q.2.2,q.1.vals.length)]
theorem qmw (b:List MQ):(b.flatMap mqT).map (·.1)=b.flatMap qad:=by
 induction b with
 |nil=>rfl
 |cons q b ih=>rw [yF,zn,ih,yF];rfl
theorem q7h (b:List MQ):(b.flatMap mqT).length=b.length*2:=by
 induction b with
 |nil=>rfl
 |cons q b ih=>rw [yF,zR,ih,length_cons];simp [mqT];omega
theorem q4x {b:List MQ}{k:Nat}{q:MQ}(h:b[k]?=some q):(b.flatMap qad)[k*2]?=some q.2.1/\(b.flatMap qad)[k*2+1]?=some q.2.2:=by
 induction b generalizing k with
 |nil=>cases h
 |cons p b ih=>
  cases k with
  |zero=>cases h;exact⟨rfl,rfl⟩
  |succ k=>
   have:=ih (k:=k) (by simpa using h);rw [yF,show(k+1)*2=k*2+2 from wA];exact this
theorem qy2 {l:List (Value×Nat)}(h:(l.map (·.1)).Pairwise ApartV): ∀(i j:Nat) (t u:Value×Nat),l[i]?=some t->l[j]?=some u->i≠j-> ∀b,t.1.ownBlock=some b->u.1.ownBlock≠some b:=by
 have key: ∀(i j:Nat) (t u:Value×Nat),l[i]?=some t->l[j]?=some u->i<j->ApartV t.1 u.1:=fun i j t u hi g c=>by
  have d:=zA.1 hi;have e:=zA.1 g;have:=(pairwise_iff_getElem.1 h) i j (by rw [zL];exact d.1) (by rw [zL];exact e.1) c;simp only [getElem_map,d.2,e.2]at this;exact this
 intro i j t u hi g m b p;rcases Nat.lt_or_gt_of_ne m with c |c
 ·exact key i j t u hi g c b p
 ·exact(key j i u t g hi c).symm b p
theorem qy3 {X:World}{V:Nat}{Qs:List (Value×List MQ)}(cD:Qs.length<=1000)(hV:X.heap[V]?=some (.cells (Qs.map (·.1)).toArray 49 (0,0)))(hQ: ∀p,p∈Qs->X.ownsRow 0 122 2 p.1 p.2.length (p.2.flatMap qad))
  (hR: ∀q,q∈Qs.flatMap (·.2)->X.ownsRow 0 9 1 q.2.1 q.1.head.length (q.1.head.map .string)/\X.ownsRow 0 9 1 q.2.2 q.1.vals.length (q.1.vals.map .string)) (aW:((Qs.flatMap (·.2)).flatMap qad).Pairwise ApartV)
  (cl:(Qs.flatMap (·.2)).length<=536870912) (ao: ∀q,q∈Qs.flatMap (·.2)->q.1.head.length<=1073741824/\q.1.vals.length<=1073741824) (hT: ∀Y,Keep (fun b=> ¬qdh ((Qs.flatMap (·.2)).flatMap mqT) b) X Y->Tab Y):
  Calls prog 21 #[.slice (some ⟨V,0,none⟩) Qs.length Qs.length] X fun e Y=>e=.returned (.bool true)/\Keep (fun b=> ¬qdh ((Qs.flatMap (·.2)).flatMap mqT) b) X Y:=by
 obtain⟨B,hB⟩:=ex (X.heap.size);obtain⟨W0,af⟩:=ex (X.alloc (.cells #[.slice none 0 0,.slice none 0 0,.slice none 0 0] 73));have k0:wE X W0:=by rw [←af];exact kAl
 have p0:W0.heap[B]?=some (.cells #[.slice none 0 0,.slice none 0 0,.slice none 0 0] 73 (0,0)):=by rw [←af,←hB];exact qh _ _
 have z0:W0.heap.size=B+1:=by rw [←af,←hB];simp
 obtain⟨T,U⟩:=ex ((Qs.flatMap (·.2)).flatMap mqT);have am: ∀t,t∈T-> ∃xs,TRow X t xs/\t.2<=1073741824:=fun t x=>by
  rw [←U]at x;obtain⟨q,hq,x⟩:=xD.1 x;have h1:=hR q hq;have h2:=ao q hq;simp only [mqT,zw,yS,yf]at x;rcases x with rfl |rfl
  ·exact⟨_,⟨rfl,h1.1⟩,h2.1⟩
  ·exact⟨_,⟨rfl,h1.2⟩,h2.2⟩
 have al: ∀t,t∈T-> ∀b,t.1.ownBlock=some b->b<B:=fun t x b hb=>by
  obtain⟨xs,hx,-⟩:=am t x;have:=(zE hx.2 b hb).2;omega
 have aj:T.length=(Qs.flatMap (·.2)).length*2:=by rw [←U,q7h]
 have an: ∀(i j:Nat) (t u:Value×Nat),T[i]?=some t->T[j]?=some u->i≠j-> ∀b,t.1.ownBlock=some b->u.1.ownBlock≠some b:=qy2 (by rw [←U,qmw];exact aW);have bp: ∀Y i (p:Value×List MQ),Keep (fun b=>b<B) X Y->Qs[i]?=some p->Y.cell? ⟨V,i,none⟩=some p.1/\V<Y.heap.size:=fun Y i p hY hp=>by
  have hl:=qe hV;have hv:=hY.heap hV wA;have:=qb hv i p.1 (by simp [hp]);rw [zD]at this;exact⟨this,qe hv⟩
 rw [U]at hT⊢;refine qby ?_ hV hQ hR aW ao hT hB af k0 p0 z0 U am al aj an;clear hV hQ hR aW ao hT hB af k0 p0 z0 U am al aj an;intro cw bL bM ca bP bO aq bc aQ bQ bR bb ae d z ar;refine hd1 ?_ bp;clear bp;intro bh
 go_enter Tryz.func21,Tryz.ntmps21
 go_wp2_with fail;rw [bc.o,aq.o]
 go_loopw [4] (fun i' wr=> ∃(i:Nat) (vT:Value),i<=Qs.length/\i'=.int .i64 (i:Int)/\Keep (fun b=>b<B) W0 wr/\wr.heap[B]?=some (.cells #[vT,.slice none 0 0,.slice none 0 0] 73 (0,0))/\wr.ownsRow (B+1) 60 1 vT (((Qs.take i).flatMap (·.2)).length*2) (((Qs.take i).flatMap (·.2)).flatMap qad)) (fun i _=>Qs.length-(intOf i).toNat)
 case atStart=>exact⟨0,.slice none 0 0,wA,rfl,Keep.refl _ _,bQ.o,zj _ _ _ _⟩
 case round=>
  obtain⟨i,vT,hi,rfl,hK,ai,hv⟩:=hrel;have cE:(0:Int)<=i:=wA
  have cG:=hK.size;have cH:=bR.o;by_cases b1:i<Qs.length
  ·have cn:(i:Int)<Qs.length:=by omega
   obtain⟨p,hp⟩: ∃p,Qs[i]?=some p:=⟨_,zB b1⟩;obtain⟨pv,s⟩:=p;have aA:=zH hp;have hq:=bL.o _ aA;simp only at hq;obtain⟨pa,pc,rfl⟩:=qi hq;have br: ∀q,q∈s->q∈Qs.flatMap (·.2):=fun q h=>xD.2 ⟨_,aA,h⟩;have a0:(Qs.take (i+1)).flatMap (·.2)=(Qs.take i).flatMap (·.2)++s:=by
    rw [zh,hp,yG];simp
   have b0:((Qs.take (i+1)).flatMap (·.2)).length<=(Qs.flatMap (·.2)).length:=by
    have:=yN (fun l=>(l.flatMap (·.2)).length) (yw (i+1) Qs);simp only [yG,zR]at this;omega
   rw [a0,zR]at b0;have hc:=fun Y (hY:Keep (fun b=>b<B) W0 Y)=>bh.o Y i _ (aQ.o.mt.trans hY) hp;simp only at hc;obtain⟨d0,l0⟩:=hc wr hK;obtain⟨Wo,bV⟩: ∃Wo,Wo=wr:=⟨_,rfl⟩;subst bV;refine hd9 ?_ hK ai hv hp aA hq br a0 hc;clear hK ai hv hp aA hq br a0 hc;intro a4 aH bk cx ce au bi bj aN;go_wp2_with fail
   go_loopw [5] (fun k' wr=> ∃(k:Nat) (vT:Value),k<=s.length/\k'=.int .i64 (k:Int)/\Keep (fun b=>b<B) W0 wr/\wr.heap[B]?=some (.cells #[vT,.slice none 0 0,.slice none 0 0] 73 (0,0))/\wr.ownsRow (B+1) 60 1 vT (((Qs.take i).flatMap (·.2)).length*2+k*2) (((Qs.take i).flatMap (·.2)).flatMap qad++(s.take k).flatMap qad)) (fun k _=>s.length-(intOf k).toNat)
   case atStart=>exact⟨0,vT,wA,rfl,a4.o,aH.o,by simpa using bk.o⟩
   case round=>
    obtain⟨k,a1,hk,rfl,v,m,y⟩:=hrel;have cF:(0:Int)<=k:=wA
    have co:=v.size;clear d0 l0;obtain⟨d0,l0⟩:=aN.o wr v;by_cases bW:k<s.length
    ·have cm:(k:Int)<s.length:=by omega
     obtain⟨q,aC⟩: ∃q,s[k]?=some q:=⟨_,zB bW⟩;obtain⟨r1,r2⟩:=bM.o q (bi.o q (zH aC));have aB:=q4x aC;have ap:(s.take (k+1)).flatMap qad=(s.take k).flatMap qad++ [q.2.1,q.2.2]:=by
      rw [zh,aC,yG];simp [qad]
     obtain⟨md,vh,vv⟩:=q;simp only at r1 r2 aB ap;obtain⟨ah,ch,rfl⟩:=qi r1;obtain⟨av,cv,rfl⟩:=qi r2;obtain⟨g,rfl⟩: ∃g,pa=some ⟨g,0,none⟩:=by
      rcases au.o.2 with ⟨_,h2⟩ |⟨g,c,cur,e,-⟩
      ·omega
      ·injection e with e1 e2 e3
       exact⟨g,e1⟩
     have bq:=qes au.o;obtain⟨Wd,aU⟩:=ex (wr.drew);have kd:wE wr Wd:=by rw [←aU];exact kDr
     obtain⟨Wb,ax⟩:=ex (Wd.alloc (.cells #[.slice ah md.head.length ch,.slice av md.vals.length cv] 60));obtain⟨N1,aT⟩:=ex (Wd.heap.size);have kb:wE Wd Wb:=by rw [←ax];exact kAl
     have nb:Wb.heap[N1]?=some (.cells #[.slice ah md.head.length ch,.slice av md.vals.length cv] 60 (0,0)):=by rw [←ax,←aT];exact qh _ _
     have hS: ∀Y,Keep (fun b=>b<B) W0 Y->(Y.cell? ⟨V,i,none⟩=some (.slice (some ⟨g,0,none⟩) s.length pc)/\Y.cell? ⟨g,k*2,none⟩=some (.slice ah md.head.length ch)/\Y.cell? ⟨g,k*2+1,none⟩=some (.slice av md.vals.length cv)):=fun Y hY=>by
      have bt:=qf au.o (aQ.o.mt.trans hY) (fun b hb=>by have:=(zE au.o b hb).2;have:=aq.o;omega);exact⟨(aN.o Y hY).1,qbd bt _ _ aB.1,qbd bt _ _ aB.2⟩
     have R:=v.trans kd.mt;have aw:=R.trans kb.mt;have bl:=hS Wd R;have bm:=hS Wb aw;have aX: ∀Y,Keep (fun b=>b<B) W0 Y->g<Y.heap.size:=fun Y hY=>by have:=bq.2.2.1;have:=hY.size;have:=aq.o;omega
     have g0:=aX Wd R;have cL:V<Wd.heap.size:=(aN.o Wd R).2;have cI:=aw.size;have ak:=y.1;rw [yB]at ak;have bu:Wb.ownsRow (B+1) 60 1 a1 (((Qs.take i).flatMap (·.2)).flatMap qad++(s.take k).flatMap qad).length (((Qs.take i).flatMap (·.2)).flatMap qad++(s.take k).flatMap qad):=by
      rw [ak];exact qf (qf y kd fun _ _=>wF) kb fun _ _=>trivial
     have ag:=qwm (B:=B) (M:=B+1) (kb.heap (kd.heap m wF) wF) bu nb wA (by have:=kb.size;have:=kd.size;omega) wA rfl rfl;rw [ak]at ag;clear bq aB r1 r2 aC bu;refine qby ?_ v m y aU kd ax aT kb nb hS R aw bl bm aX ak;clear v m y aU kd ax aT kb nb hS R aw bl bm aX ak;intro aG ad cf bf cA bd a7 cz cB bN b9 a6 a8 a9 cb cd;refine hd2 ?_ ag ap;clear ag ap;intro aL aP;go_wp2_with fail;refine qau rfl (fun Y=>Y.cell? ⟨V,i,none⟩=some (.slice (some ⟨g,0,none⟩) s.length pc)/\Y.cell? ⟨g,k*2,none⟩=some (.slice ah md.head.length ch)/\Y.cell? ⟨g,k*2+1,none⟩=some (.slice av md.vals.length cv)) [] ?_;rw [bf.o];refine qq [0,1,2,3,4,5,6,7,8,9,10,11,12,13,14,15] ?_
     iterate 16
      refine tkA rfl a8.o ?_
      try simp only [qr]
     refine ql ?_;refine ho 16 rfl fun K aE=>?_;go_wp2_with fail;rw [bd.o,a7.o];refine aE.o _ _ (fun _=>a9.o) ?_;refine ho 17 rfl fun K aF=>?_;go_wp2_with fail;refine aL.o.mono ?_;rintro e Y ⟨rfl,v',b3,o3,k3⟩;have aS:Keep (fun b=>b<B) W0 Y:=a6.o.trans (k3.mono fun b _ h=>wA);have bn:=bN.o Y aS;have o4:Y.ownsRow (B+1) 60 1 v' (((Qs.take i).flatMap (·.2)).length*2+(k+1)*2) (((Qs.take i).flatMap (·.2)).flatMap qad++(s.take (k+1)).flatMap qad):=by
      rw [aP.o,←yr,show((Qs.take i).flatMap (·.2)).length*2+(k+1)*2=((Qs.take i).flatMap (·.2)).length*2+k*2+2 from wA];exact o3
     clear o3 k3;refine hd4 ?_ b3 o4 aS bn;clear b3 o4 aS bn;intro bK aR a5 ba;go_wp2_with fail;refine aF.o _ _ (fun _=>ba.o) ?_;refine qa0 wB ?_;clear aE aF;go_wp2_with fail;go_roundw
     case rel=>exact⟨k+1,v',wA,by go_num,a5.o,bK.o,aR.o⟩
     case measure=>simp [intOf];omega
    ·obtain rfl:k=s.length:=by omega
     have o4:wr.ownsRow (B+1) 60 1 a1 (((Qs.take (i+1)).flatMap (·.2)).length*2) (((Qs.take (i+1)).flatMap (·.2)).flatMap qad):=by
      rw [bj.o,zR,yG,xI];rw [zi]at y;exact y
     clear y;refine hd3 ?_ v m o4;clear v m o4;intro aG ad aR;go_wp2_with fail;go_roundw
     case rel=>exact⟨i+1,a1,wA,by go_num,aG.o,ad.o,aR.o⟩
     case measure=>simp [intOf];omega
  ·obtain rfl:i=Qs.length:=by omega
   rw [zi]at hv;have az:Keep (fun b=>b<B) X wr:=aQ.o.mt.trans hK;have bv:(Qs.flatMap (·.2)).flatMap qad=T.map (·.1):=by rw [←bb.o,qmw]
   have bo:BookIn wr B vT T:=by
    refine⟨ai,?_,fun t x b hb=>⟨fun e=>?_,fun e=>?_⟩,fun e=>?_,ar.o,by rw [z.o];omega,fun t x=>?_⟩
    ·rw [bv,←z.o]at hv;exact hv.mono (ya _)
    ·have:=d.o t x b hb;omega
    ·have:=d.o t x b hb;have:=(zE hv b e).1;omega
    ·have:=(zE hv B e).1;omega
    ·obtain⟨xs,-,h⟩:=ae.o t x;exact h
   have bs:MkO wr T 0:=fun j t x=>by
    obtain⟨xs,hx,-⟩:=ae.o t (zH x);exact⟨xs,hx.keep az (fun b hb=>d.o t (zH x) b hb),fun h=>absurd h wA⟩
   have aV: ∀Y,Keep (fun b=> ¬qdh T b) wr Y->Keep (fun b=> ¬qdh T b) X Y:=fun Y hY=>by
    have h0:Keep (fun b=> ¬qdh T b/\b<B) X Y:=(az.mono fun b _ h=>h.2).trans (hY.mono fun b _ h=>h.1);exact h0.mono fun b hb h=>⟨h,by have:=aq.o;omega⟩
   have aI:=qtc bo bs (fun Y hY=>bO.o Y (aV Y hY));clear bo bs bv;refine hd6 ?_ hK ai hv az aV aI;clear hK ai hv az aV aI;intro a4 aH bk cc bg aM;go_wp2_with fail;refine aM.o.mono ?_;rintro e Y ⟨rfl,kY⟩;have aJ:=bg.o Y kY;refine hd2 ?_ kY aJ;clear kY aJ;intro cy aO;go_wp2_with fail;go_ret;exact⟨rfl,aO.o⟩
theorem qrz {n:Nat}{w:World}{r:RuleD}{sh sb:Value}{sA sN:Option Nat}{A B:List qj}(hr:qc1 r)(hR:RuleIn n w sh sb r)(hn:n<=w.heap.size)(hA:RSt w sA A)(hB:RSt w sN B)(oA: ∀x,x∈A->okF x=true)
  (t:(qd0 (nxJ r.body (fun _=>A) B) r).length<=20000) (ab:(qbu r).length<=1073741824):
  Calls prog 16 #[qaq r sh sb,qhm sA,qhm sN] w fun e w'=> ∃v,e=.returned v/\wE w w'/\OwnM w.heap.size w' v (qd0 (nxJ r.body (fun _=>A) B) r):=by
 obtain⟨N,hN⟩:=ex (w.heap.size);obtain⟨z,U,rfl,-,-,-⟩:=id hR.1;obtain⟨y,R,rfl,-,-,-⟩:=id hR.2;obtain⟨W0,m⟩:=ex (w.alloc (.cells #[.string r.head.pred,.slice z r.head.args.length U,.slice y r.body.length R] 27));have k0:wE w W0:=by rw [←m];exact kAl
 have p0:W0.heap[N]?=some (.cells #[.string r.head.pred,.slice z r.head.args.length U,.slice y r.body.length R] 27 (0,0)):=by rw [←m,←hN];exact qh _ _
 have ae:=qjh (w:=W0) (hR.keep k0.mt) (by have:=k0.size;omega);have c: ∀W vi l,wE w W->qm2 W.heap.size W vi l->l.length=(qao r.body).length->(∀(j:Nat) (s:Option Nat),l[j]?=some s->s=sA)->Calls prog 68 #[qaq r (.slice z r.head.args.length U) (.slice y r.body.length R),vi,qhm sN] W fun e w'=> ∃v,e=.returned v/\wE w w'/\OwnM w.heap.size w' v (qd0 (nxJ r.body (fun _=>A) B) r):=fun W vi l hW hp hl hd=>by
  have aF:Keep (fun b=>b<w.heap.size) w W:=hW.mt;have aG:(nxM r (fun _=>A) B 0 qb1).length<=1000000:=by
   have Y:=yN List.length (q1r r (fun _=>A) B);rw [qg0]at Y;omega
  have hm:=qt5 (n:=W.heap.size) (w:=W) (Cs:=fun _=>A) (neg:=B) hr ((hR.keep hW.mt).wider (by have:=hW.size;omega)) (zG _) hp hl (fun j s hs=>by
   rw [hd j s hs];exact hA.keep aF) (fun j x hx=>oA x hx) (hB.keep aF) aG ab
  refine hm.mono ?_;rintro e w' ⟨v,rfl,hK,hM⟩;exact⟨v,rfl,hW.trans hK,hM.mono hW.size⟩
 have d0:=qb p0 0 _ rfl;have d1:=qb p0 1 _ rfl;have d2:=qb p0 2 _ rfl;have l0:=qe p0;simp only [zD]at d0 d1 d2;unfold qaq at ae c⊢;unfold qhm at c⊢;obtain⟨p1,Y⟩:=ex ((sA.map fun S=>(⟨S,0,none⟩:Addr)));obtain⟨p4,h4⟩:=ex ((sN.map fun S=>(⟨S,0,none⟩:Addr)));rw [Y,h4];rw [h4]at c;have aC:=qgw hr.formed;have aI:(qao r.body).length<=r.body.length:=by
  unfold qao;exact zW (yd _ _) (by rw [length_range];exact zG _)
 refine qby ?_ hr hR hA hB oA t ab hN m k0 p0 ae c Y h4 aC;clear hr hR hA hB oA t ab hN m k0 p0 ae c Y h4 aC;intro bl bk bi bj bm aW a6 aV ap aX aY au d aT bh aq;refine hd1 ?_ aI;clear aI;intro av
 go_enter Tryz.func16,Tryz.ntmps16
 go_wp2_with fail;rw [ap.o,aV.o];refine au.o.mono ?_;rintro e W1 ⟨va,ps,rfl,k1,aK,-,oP⟩;obtain⟨aa,ca,rfl⟩:=qi oP;have aM:=aX.o.trans (k1.mono fun b hb _=>hb);have aN:=k1.heap aY.o l0;have aJ:ps.length=(qao r.body).length:=by
  have:=yN List.length aK;rw [zL,qm1,zL]at this;exact this
 rw [aJ];obtain⟨np,hnp⟩:=ex ((qao r.body).length);rw [hnp];have bw:np<=256:=by have:=aq.o;have:=av.o;omega
 have z1:=k1.size;clear aK oP aJ k1 d0 d1 d2;have c:=fun W vi l Y h2 h3 h4=>d.o W vi l Y h2 h3 h4;rw [hnp]at c;clear d;obtain⟨M,hM⟩:=ex (W1.heap.size);refine hd5 ?_ aM aN hnp c hM;clear aM aN hnp c hM;intro ax p a7 d u;go_wp2_with fail
 go_loopw [8,9] (fun vt ix wr=> ∃i:Nat,i<=np/\ix=.int .i64 (i:Int)/\Keep (fun b=>b<M) W1 wr/\wr.ownsRow M 44 1 vt i ((List.replicate i sA).map qhm)) (fun _ ix _=>np-(intOf ix).toNat)
 case atStart=>exact⟨0,wA,rfl,Keep.refl _ _,zj _ _ _ _⟩
 case round=>
  obtain⟨i,hi,rfl,hK,g⟩:=hrel;have hz:=hK.size;have bt:(0:Int)<=i:=wA
  obtain⟨bn,ct,rfl⟩:=qi g;by_cases a1:i<np
  ·have bd:(i:Int)<np:=by omega
   obtain⟨v3,W3,af,aH,aE,-⟩:=qc3 (P:=prog) q7p 140 g [qhm sA] rfl (by simp [qhm,Value.oneCell']) wA (by have:=u.o;omega);have ay:=hK.trans (aE.mono fun b _ h=>qdu g h);have ad:W3.ownsRow M 44 1 v3 (i+1) ((List.replicate (i+1) sA).map qhm):=by
    rw [replicate_succ',zn];exact aH
   simp only [qhm,aT.o]at af;obtain⟨a3,c3,rfl⟩:=qi ad;clear aE aH;refine hd5 ?_ hK g af ay ad;clear hK g af ay ad;intro aU an aw ak ao;go_wp2_with (at_builtin;refine qbo rfl _ _ _ rfl rfl rfl aw.o ?_);go_roundw
   case rel=>exact⟨i+1,wA,by go_num,ak.o,ao.o⟩
   case measure=>simp [intOf];omega
  ·obtain rfl:i=np:=by omega
   have ag:=ax.o.trans (hK.mono fun b hb _=>by have:=u.o;omega:wE W1 wr);have aL:=q49 g wC (by simp;omega);have aD:=d.o wr _ _ ag aL wC (fun j s hs=>(mem_replicate.1 (zH hs)).2);have q:=hK.heap p.o (by have:=qe p.o;have:=u.o;omega);have c0:=qb q 0 _ rfl;have c1:=qb q 1 _ rfl;have c2:=qb q 2 _ rfl;have lq:=qe q;simp only [zD]at c0 c1 c2;clear a1 q aL;refine hd4 ?_ hK g ag aD;clear hK g ag aD;intro aU an a8 ar;go_wp2_with fail;refine ar.o.mono ?_;rintro e W9 ⟨v9,rfl,az,aA⟩;refine hd2 ?_ az aA;clear az aA;intro al am;go_wp2_with fail;go_ret;exact⟨_,rfl,al.o,am.o⟩
end Go.Proofs
namespace Go.Proofs
open Go.RowKit Go.Ink Go.Flt R4 P16
theorem qx1 {g:Gh}{W:World}(b:GInv g W)(s sN:Option Nat){r:RuleD}(h:qc1 r){l:List qj}(e: ∀f,f∈qd1 g s->f∈l)(q:qhd r l=false):(qix g s sN r (-1)).length<=20000:=by
 rw [qyc b _ _ h];obtain⟨-,c,d⟩:=ql5 q;refine qoo (qop b _ _ _) (fun i t u p m=>?_) d;exact((qnk (fs:=l) (l:= [])).2 c).2 _ u (e _ (qcr.1 p).1) m
theorem qx2 {r:RuleD}{A B l:List qj}(h:A.Nodup)(hA: ∀f,f∈A->f∈l)(g:qhd r l=false):(qd0 (qcx r.body (fun _=>A) B) r).length<=20000:=by
 unfold qd0;rw [qg0,zL];obtain⟨-,b,c⟩:=ql5 g;refine qoo (fun i=>ql3 h _ _) (fun i t m e d=>?_) c;exact((qnk (fs:=l) (l:= [])).2 b).2 _ m (hA _ (qcr.1 e).1) d
theorem q4y (l:List qac)(m:qac):(qcw l m).Perm (m::l):=by
 induction l with
 |nil=>exact List.Perm.refl _
 |cons y ys ih=>
  unfold qcw;split
  ·exact(ih.cons y).trans (List.Perm.swap ..)
  ·exact List.Perm.refl _
theorem q1h (l:List qac):(qd3 l).Perm l:=by
 have b: ∀(l acc:List qac),(l.foldl qcw acc).Perm (l++acc):=by
  intro l
  induction l with
  |nil=>intro acc;exact List.Perm.refl _
  |cons x l ih=>intro acc;exact(ih _).trans (((q4y acc x).append_left l).trans perm_middle)
 have:=b l []
 rwa [yP] at this
theorem q4z {L M:List qac}(b:qd3 L=M)(e:(M.map (·.vals)).Nodup){k:Nat}(g:k<=M.length):(qd3 (L.take k)).length=k/\qec (qd3 (L.take k)) M=true/\qqj (qd3 (L.take k)):=by
 have h:L.length=M.length:=by rw [←b,qg0]
 have c:(L.map (·.vals)).Nodup:=by
  refine((q1h L).map (·.vals)).nodup_iff.1 ?_;rw [b];exact e
 refine⟨by rw [qg0,yC];omega,qz5 fun a d=>?_,q53 (qqi (qkn ?_))⟩
 ·rw [←b,qj1];exact xj (qj1.1 d)
 ·rw [map_take];exact c.sublist (take_sublist _ _)
def MqsI (lo hi:Nat)(γ:Gh)(X:World)(v:Value)(qs:List MQ):Prop:=MqsAt (fun b=>γ.free b/\lo<=b/\b<hi) X v qs/\hi<=X.heap.size
theorem MqsI.new {lo:Nat}{γ:Gh}{X:World}{v:Value}{d:List MQ}(h:MqsAt (fun b=>γ.free b/\lo<=b) X v d):MqsI lo X.heap.size γ X v d:=
 ⟨h.keep (Keep.refl (fun _=>True) X) fun b e c=>⟨wF,c.1,c.2,e⟩,zG _⟩
theorem MqsI.step {n0 lo hi:Nat}{γ g:Gh}{X Y:World}{v:Value}{e:List MQ}(h:MqsI lo hi γ X v e)(d:GStep n0 γ X g Y):MqsI lo hi g Y v e:=
 ⟨h.1.keep d.keep fun b l c=>⟨c.1,d.new b l c.1,c.2⟩,zW h.2 d.keep.size⟩
theorem GStep.keepT {n0:Nat}{g γ:Gh}{Z X Y:World}(h:GStep n0 g Z γ X)(hK:wE X Y):GStep n0 g Z γ Y:=h.trans (GStep.own h.inv hK)
theorem MqsI.keepT {lo hi:Nat}{γ:Gh}{X Y:World}{v:Value}{c:List MQ}(h:MqsI lo hi γ X v c)(hK:wE X Y):MqsI lo hi γ Y v c:=
 ⟨h.1.keep hK fun b e d=>⟨wF,d⟩,zW h.2 hK.size⟩
theorem MqsI.own {lo hi:Nat}{γ:Gh}{X:World}{v:Value}{b:List MQ}(h:MqsI lo hi γ X v b): ∃a c,v=.slice a b.length c:=qi h.1.own
theorem MqsI.matches {lo hi:Nat}{γ:Gh}{X:World}{v:Value}{d:List MQ}{b:List qac}(h:MqsI lo hi γ X v d)(l:d.map (·.1)=b)(p:b.length<=20000)(c: ∀m,m∈b->m.head.length<=1073741824/\m.vals.length<=1073741824):qfe X.heap.size X v b:=by
 subst l;rw [zL]at p;obtain⟨e,g⟩:=h.1.mq wA fun q s=>c _ (yL.2 ⟨q,s,rfl⟩);exact qq4 e (zG _) g
theorem MqsI.cell {lo hi:Nat}{γ:Gh}{X:World}{v:Value}{g:List MQ}(h:MqsI lo hi γ X v g): ∀x,x∈g.flatMap qad-> ∀b,x.ownBlock=some b->γ.free b/\lo<=b/\b<hi:=fun x c b e=>by
 obtain⟨q,l,c⟩:=xD.1 c;have d:=h.1.blks q l;unfold qad at c;simp only [zw,yS,yf]at c;rcases c with rfl |rfl
 ·exact d.1 b e
 ·exact d.2 b e
theorem qwn {lo h1 l2 h2 l3 h3:Nat}{γ g:Gh}{w Z X:World}{V:Nat}{v1 v2 v3:Value}{l m s:List MQ}(m1:MqsI lo h1 γ X v1 l)(m2:MqsI l2 h2 γ X v2 m)(m3:MqsI l3 h3 γ X v3 s)(e1:h1<=l2)(ap:lo<=l2)(e2:h2<=l3)(aq:l2<=l3)(e3:h1<=l3)(hZ:Z.heap.size<=lo)(hs:GStep 0 g Z γ X)
  (hV:X.heap[V]?=some (.cells #[v1,v2,v3] 49 (0,0))) (n1:l.length<=20000) (n2:m.length<=20000) (n3:s.length<=20000) (ae: ∀q,q∈l∨q∈m∨q∈s->q.1.head.length<=1073741824/\q.1.vals.length<=1073741824) (hT:Tab w) (hw:Keep (fun b=>b<w.heap.size) w X) (ax:w.heap.size<=Z.heap.size):
  Calls prog 21 #[.slice (some ⟨V,0,none⟩) 3 3] X fun e Y=>e=.returned (.bool true)/\GStep 0 g Z γ Y:=by
 have c:([(v1,l),(v2,m),(v3,s)]:List (Value×List MQ)).flatMap (·.2)=l++(m++s):=wC
 have ad: ∀q,q∈l++(m++s)->q∈l∨q∈m∨q∈s:=fun q U=>by simpa only [zr] using U
 have z: ∀b,qdh ((l++(m++s)).flatMap mqT) b->γ.free b/\lo<=b:=fun b ⟨t,ht,u⟩=>by
  have d:t.1∈(l++(m++s)).flatMap qad:=by rw [←qmw];exact yL.2 ⟨t,ht,rfl⟩
  rw [yG,yG,zr,zr]at d;rcases d with d |d |d
  ·have:=m1.cell _ d b u;exact⟨this.1,this.2.1⟩
  ·have:=m2.cell _ d b u;exact⟨this.1,wA⟩
  ·have:=m3.cell _ d b u;exact⟨this.1,wA⟩
 have R: ∀b,b<Z.heap.size-> ¬qdh ((l++(m++s)).flatMap mqT) b:=fun b u ht=>by have:=(z b ht).2;omega
 have al: ∀Y,Keep (fun b=> ¬qdh ((l++(m++s)).flatMap mqT) b) X Y->GStep 0 g Z γ Y:=fun Y v=>hs.stay v R (hs.inv.keep (v.mono fun b _ hf ht=>hf (z b ht).1));refine(qy3 (X:=X) (V:=V) (Qs:= [(v1,l),(v2,m),(v3,s)]) wC hV (fun p hp=>?_) (fun q U=>?_) ?_ ?_ (fun q U=>?_) (fun Y v=>?_)).mono ?_
 ·simp only [zw,yS,yf]at hp;rcases hp with rfl |rfl |rfl
  ·exact m1.1.own
  ·exact m2.1.own
  ·exact m3.1.own
 ·rw [c]at U;rcases ad q U with h |h |h
  ·exact m1.1.rows q h
  ·exact m2.1.rows q h
  ·exact m3.1.rows q h
 ·rw [c,yG,yG,pairwise_append,pairwise_append];refine⟨m1.1.apart,⟨m2.1.apart,m3.1.apart,fun x d y hy b u hc=>?_⟩,fun x d y hy b u hc=>?_⟩
  ·have:=m2.cell _ d b u;have:=m3.cell _ hy b hc;omega
  ·have h5:=m1.cell _ d b u;rcases zr.1 hy with hy |hy
   ·have:=m2.cell _ hy b hc;omega
   ·have:=m3.cell _ hy b hc;omega
 ·rw [c,zR,zR];omega
 ·rw [c]at U;exact ae q (ad q U)
 ·rw [c]at v;exact hT.keep (hw.trans (v.mono fun b u h=>R b wA))
 ·rintro e Y ⟨rfl,v⟩;rw [c]at v;exact⟨rfl,al Y v⟩
end Go.Proofs
