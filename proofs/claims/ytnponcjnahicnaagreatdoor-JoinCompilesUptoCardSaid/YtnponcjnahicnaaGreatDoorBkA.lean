/- Parts of the proof. -/
import Derived.Test.YtnponcjnahicnaaGreatDoorDlDToItoa
set_option linter.unusedSimpArgs false
set_option linter.unusedVariables false
set_option maxRecDepth 100000
set_option maxHeartbeats 4000000
open Go.Proofs.Tryz(prog)
open List(getElem?_set getElem_cons_succ getElem_cons_zero getElem_toArray map_replicate map_set replicate_succ' set_cons_succ set_cons_zero)
namespace Go.Proofs
open Go.RowKit Go.Ink
attribute [local go_sem] Oper.semAt_some
theorem q4y:qb2 prog 60 9 1 16:=qcl (z:=.string ⟨#[]⟩) wA wA rfl wC wC
theorem qx9:qb2 prog 69 60 1 24:=qcl (z:=.slice none 0 0) wA wA rfl wC wC
def TRow (X:World)(t:Value×Nat)(xs:List ByteArray):Prop:=xs.length=t.2/\X.ownsRow 0 9 1 t.1 t.2 (xs.map Value.string)
def qd4 (ts:List (Value×Nat))(b:Nat):Prop:= ∃t,t∈ts/\t.1.ownBlock=some b
theorem TRow.keep {C:Nat->Prop}{X Y:World}{t:Value×Nat}{xs:List ByteArray}(h:TRow X t xs)(hK:Keep C X Y)(c: ∀b,t.1.ownBlock=some b->C b):TRow Y t xs:=⟨h.1,qf h.2 hK c⟩
structure BookIn (X:World)(B:Nat)(vT:Value)(ts:List (Value×Nat)):Prop where
 box:X.heap[B]?=some (.cells #[vT,.slice none 0 0,.slice none 0 0] 73 (0,0))
 own:X.ownsRow 0 60 1 vT ts.length (ts.map (·.1))
 ne: ∀t,t∈ts-> ∀b,t.1.ownBlock=some b->b≠B/\vT.ownBlock≠some b
 nb:vT.ownBlock≠some B
 pair: ∀(i j:Nat) (t u:Value×Nat),ts[i]?=some t->ts[j]?=some u->i≠j-> ∀b,t.1.ownBlock=some b->u.1.ownBlock≠some b
 few:ts.length<=1073741824
 fews: ∀t,t∈ts->t.2<=1073741824
theorem BookIn.keep {C:Nat->Prop}{X Y:World}{B:Nat}{vT:Value}{ts:List (Value×Nat)}(h:BookIn X B vT ts)(hK:Keep C X Y)(c: ∀b,b=B∨vT.ownBlock=some b->C b):BookIn Y B vT ts:=
 ⟨hK.heap h.box (c _ (.inl rfl)),qf h.own hK (fun b d=>c b (.inr d)),h.ne,h.nb,h.pair,h.few,h.fews⟩
def MkO (X:World)(ts:List (Value×Nat))(i:Nat):Prop:= ∀j t,ts[j]?=some t-> ∃xs,TRow X t xs/\(j<i->xs=List.replicate t.2 (qbk j))
def MkI (X:World)(ts:List (Value×Nat))(i k:Nat):Prop:= ∀j t,ts[j]?=some t-> ∃xs,TRow X t xs/\(j<i->xs=List.replicate t.2 (qbk j))/\(j=i-> ∀m,m<k->xs[m]?=some (qbk i))
theorem MkO.start {X:World}{ts:List (Value×Nat)}{i:Nat}(h:MkO X ts i):MkI X ts i 0:=fun j t e=>by
 obtain⟨xs,b,c⟩:=h j t e;exact⟨xs,b,c,fun _ m d=>absurd d xz⟩
theorem MkI.keep {X Y:World}{ts:List (Value×Nat)}{i k:Nat}(h:MkI X ts i k)(hK:wD X Y):MkI Y ts i k:=fun j t d=>by
 obtain⟨xs,b,c⟩:=h j t d;exact⟨xs,b.keep hK (fun _ _=>wE),c⟩
theorem MkI.done {X:World}{ts:List (Value×Nat)}{i:Nat}{t:Value×Nat}(h:MkI X ts i t.2)(hi:ts[i]?=some t):MkO X ts (i+1):=fun j u b=>by
 obtain⟨xs,c,e,f⟩:=h j u b;refine⟨xs,c,fun k=>?_⟩;by_cases g:j=i
 ·subst g;rw [hi]at b;cases b;refine xW fun m=>?_;by_cases d:m<t.2
  ·rw [f rfl m d,xT,zI d]
  ·rw [xA (by have:=c.1;omega),xA (by simp;omega)]
 ·exact e xz
theorem MkI.put {X:World}{ts:List (Value×Nat)}{i k g n c:Nat}(h:MkI X ts i k)(hi:ts[i]?=some (.slice (some ⟨g,0,none⟩) n c,n))(y:k<n)
  (x: ∀(i j:Nat) (t u:Value×Nat),ts[i]?=some t->ts[j]?=some u->i≠j-> ∀b,t.1.ownBlock=some b->u.1.ownBlock≠some b):
  MkI (X.setCell ⟨g,k,none⟩ (.string (qbk i))) ts i (k+1):=fun j u l=>by
 obtain⟨xs,f,q,r⟩:=h j u l;by_cases p:j=i
 ·subst p;rw [hi]at l;cases l;refine⟨xs.set k (qbk j),⟨by rw [xp];exact f.1,?_⟩,fun v=>absurd v xz,fun _ m z=>?_⟩
  ·have:=(f.2.stored k (.string (qbk j))).1;rw [←map_set]at this;exact this
  ·rw [getElem?_set];by_cases d:k=m
   ·subst d;rw [zI rfl,zI (by have:=f.1;simp only at this;omega)]
   ·rw [zF d];exact r rfl m xz
 ·refine⟨xs,f.keep (Keep.setCell (C:=fun b=>b≠g) _ _ _ wB) (fun b s e=>?_),q,fun e=>absurd e p⟩;subst e;exact x i j _ _ hi l (Ne.symm p) b rfl s
def TRd (X:World)(t:Value×Nat)(x:ByteArray):Prop:= ∀g c,t.1=.slice (some ⟨g,0,none⟩) t.2 c-> ∀m,m<t.2->X.cell? ⟨g,m,none⟩=some (.string x)
theorem TRd.keep {C:Nat->Prop}{X Y:World}{t:Value×Nat}{x:ByteArray}(h:TRd X t x)(hK:Keep C X Y)(d: ∀b,t.1.ownBlock=some b->C b):TRd Y t x:=fun g c e m f=>
 hK.cell (h g c e m f) (d g (by rw [e];rfl))
theorem TRow.rd {X:World}{t:Value×Nat}{x:ByteArray}(h:TRow X t (List.replicate t.2 x)):TRd X t x:=fun g c e m d=>by
 have b:=h.2;rw [e]at b;exact qau b m _ (by rw [map_replicate,xT,zI d])
theorem qya {X:World}{g n c k:Nat}{x:ByteArray}(h:X.ownsRow 0 9 1 (.slice (some ⟨g,0,none⟩) (n+k) c) (n+k) ((List.replicate (n+k) x).map .string)): ∀m,m<n->X.cell? ⟨g,m,none⟩=some (.string x):=fun m b=>
 qau h m _ (by rw [map_replicate,xT,zI xz])
theorem qp2 {X:World}{k l:Nat}{h i:TypeId}{r s n1 n2:Nat}{j v2:Value}{t u:List Value}(m:X.ownsRow k h r j n1 t)(p:X.ownsRow l i s v2 n2 u)(q:h≠i): ∀b,j.ownBlock=some b->v2.ownBlock≠some b:=fun b f d=>by
 rcases m.2 with ⟨e,_⟩ |⟨g,c,cur,rfl,-,hg,-⟩
 ·rw [e]at f;cases f
 ·rcases p.2 with ⟨e,_⟩ |⟨g',c',cur',rfl,-,hg',-⟩
  ·rw [e]at d;cases d
  ·cases f;cases d;rw [hg]at hg';injection hg' with hg'
   injection hg' with _ e
   exact q e
structure Lg (ts:List (Value×Nat))(H i:Nat)(X:World)(ls:List Value):Prop where
 rest: ∀j t,ts[j]?=some t->i<=j->TRow X t (List.replicate t.2 (qbk j))
 rd: ∀j t,ts[j]?=some t->j<i->TRd X t (qbk j)
 fin: ∀j t,ts[j]?=some t->j<i-> ∃l,ls[j]?=some l/\X.ownsRow 0 9 1 l (t.2+20) ((List.replicate (t.2+20) (qbk j)).map .string)/\ ∀b,l.ownBlock=some b->t.1.ownBlock=some b∨H<=b
theorem Lg.start {X:World}{ts:List (Value×Nat)}{H:Nat}(h:MkO X ts ts.length):Lg ts H 0 X []:=by
 refine⟨fun j t d _=>?_,fun j t _ b=>absurd b xz,fun j t _ b=>absurd b xz⟩;obtain⟨xs,c,e⟩:=h j t d;rw [e (zA.1 d).1]at c;exact c
theorem Lg.step {X Y:World}{ts:List (Value×Nat)}{H i:Nat}{ls:List Value}{t:Value×Nat}{l:Value}(h:Lg ts H i X ls)(hi:ts[i]?=some t)(r:ls.length=i)
  (s: ∀(i j:Nat) (t u:Value×Nat),ts[i]?=some t->ts[j]?=some u->i≠j-> ∀b,t.1.ownBlock=some b->u.1.ownBlock≠some b) (f: ∀t,t∈ts-> ∀b,t.1.ownBlock=some b->b<H)
  {C:Nat->Prop} (hK:Keep C X Y) (q: ∀b,b<X.heap.size->t.1.ownBlock≠some b->(b<H∨ ∃j l,j<i/\ls[j]?=some l/\l.ownBlock=some b)->C b)
  (h1:TRd Y t (qbk i)) (h2:Y.ownsRow 0 9 1 l (t.2+20) ((List.replicate (t.2+20) (qbk i)).map .string)) (h3: ∀b,l.ownBlock=some b->t.1.ownBlock=some b∨H<=b):Lg ts H (i+1) Y (ls++ [l]):=by
 refine⟨fun j u d z=>?_,fun j u d z=>?_,fun j u d z=>?_⟩
 ·have:=h.rest j u d xz;exact this.keep hK fun b k=>q b (zE this.2 b k).2 (s j i _ _ d hi xz b k) (.inl (f u (zH d) b k))
 ·by_cases p:j=i
  ·subst p;rw [hi]at d;cases d;exact h1
  ·have:=h.rd j u d xz;intro g c e m R;have k:u.1.ownBlock=some g:=by rw [e];rfl
   exact hK.cell (this g c e m R) (q g (zQ _ _ (this g c e m R)) (s j i _ _ d hi p g k) (.inl (f u (zH d) g k)))
 ·by_cases p:j=i
  ·subst p;rw [hi]at d;cases d;exact⟨l,by rw [yG xz];simp [r],h2,h3⟩
  ·obtain⟨U,v,x,y⟩:=h.fin j u d xz;refine⟨U,by rw [yQ xz];exact v,qf x hK fun b k=>q b (zE x b k).2 (fun e=>?_) (.inr ⟨j,U,xz,v,k⟩),y⟩;rcases y b k with h5 |h5
   ·exact s j i _ _ d hi p b h5 e
   ·have:=f t (zH hi) b e;omega
theorem qq8 {X:World}{B:Nat}{vT:Value}{ts:List (Value×Nat)}(h:BookIn X B vT ts)(hM:MkO X ts 0)(hT:Tab X)(hb: ∀b,qd4 ts b-> ∀Y,Keep (fun b=> ¬qd4 ts b) X Y->Tab Y):
  Calls prog 84 #[.pointer (some ⟨B,0,none⟩)] X fun e Y=>e=.returned (.bool true)/\Keep (fun b=> ¬qd4 ts b) X Y:=by
 obtain⟨aT,cT,rfl⟩:=qi h.own;have bO: ∀Y,Keep (fun b=> ¬qd4 ts b) X Y->Tab Y:=fun Y f=>by
  by_cases he: ∃b,qd4 ts b
  ·obtain⟨b,ah⟩:=he;exact hb b ah Y f
  ·exact hT.keep (f.mono fun b _ _ ah=>he ⟨b,ah⟩)
 have aH: ∀Y,Keep (fun b=> ¬qd4 ts b) X Y->BookIn Y B (.slice aT ts.length cT) ts:=fun Y f=>h.keep f fun b ah ⟨t,x,e⟩=>by
  rcases ah with rfl |ah
  ·exact(h.ne t x _ e).1 rfl
  ·exact(h.ne t x _ e).2 ah
 have ay: ∀Y,Keep (fun b=> ¬qd4 ts b) X Y->Y.cell? ⟨B,0,none⟩=some (.slice aT ts.length cT)/\B<Y.heap.size:=fun Y f=>by
  have:=qb (aH Y f).box 0 _ rfl;simp only [zD]at this;exact⟨this,qe (aH Y f).box⟩
 have cO: ∀i t,ts[i]?=some t-> ∃U,aT=some ⟨U,0,none⟩/\ts.length<=cT/\(∀Y,Keep (fun b=> ¬qd4 ts b) X Y->Y.cell? ⟨U,i,none⟩=some t.1/\U<Y.heap.size):=fun i t x=>by
  have s:=(zA.1 x).1;obtain⟨g,rfl⟩: ∃g,aT=some ⟨g,0,none⟩:=by
   rcases h.own.2 with ⟨_,h2⟩ |⟨g,c,cur,e,-⟩
   ·omega
   ·injection e with e1 e2 e3
    exact⟨g,e1⟩
  refine⟨g,rfl,(qcm h.own).1,fun Y f=>⟨qau (aH Y f).own i _ (by rw [zP,x];rfl),(qcm (aH Y f).own).2.2.1⟩⟩
 have c1: ∀(i:Nat) Y,i<ts.length->Keep (fun b=> ¬qd4 ts b) X Y->Calls prog 129 #[.int .i64 (i:Int)] Y fun e w'=>e=.returned (.string (qbk i))/\wD Y w':=fun i Y hi f=>q1g i (by have:=h.few;omega) Y (bO Y f);have dV:=h.few;have bg:=ay X (Keep.refl _ _);refine hd9 ?_ h hM hT hb bO aH cO c1 ay;clear h hM hT hb bO aH cO c1 ay;intro Xh ch d3 d4 dO dP aQ aE p;obtain⟨d0,l0⟩:=bg
 go_enter Tryz.func84,Tryz.ntmps84
 go_wp2_with fail
 go_loopw [3] (fun i' wr=> ∃i:Nat,i<=ts.length/\i'=.int .i64 (i:Int)/\Keep (fun b=> ¬qd4 ts b) X wr/\MkO wr ts i) (fun i _=>ts.length-(intOf i).toNat)
 case atStart=>exact⟨0,xz,rfl,Keep.refl _ _,ch.o⟩
 case round=>
  obtain⟨i,hi,rfl,hK,hO⟩:=hrel;clear d0 l0;obtain⟨d0,l0⟩:=p.o wr hK;by_cases s:i<ts.length
  ·have bx:(i:Int)<ts.length:=by omega
   have cV:(0:Int)<=i:=xz
   obtain⟨t,x⟩: ∃t,ts[i]?=some t:=⟨_,zB s⟩;obtain⟨U,rfl,cR,ad⟩:=aQ.o i t x;obtain⟨tv,n⟩:=t;obtain⟨dH,bF,-⟩:=hO i _ x;obtain⟨ta,tc,e⟩:=qi bF.2;simp only at e;subst e;have hn:=Xh.o.fews _ (zH x);simp only at hn;clear bF d0;have d0:=(p.o wr hK).1;obtain⟨d1,l1⟩:=ad wr hK;simp only at d1;obtain⟨Wo,dB⟩: ∃Wo,Wo=wr:=⟨_,rfl⟩;subst dB;refine hd4 ?_ hK hO ad x;clear hK hO ad x;intro bH du bp an;go_wp2_with fail
   go_loopw [4] (fun k' wr=> ∃k:Nat,k<=n/\k'=.int .i64 (k:Int)/\Keep (fun b=> ¬qd4 ts b) X wr/\MkI wr ts i k) (fun k _=>n-(intOf k).toNat)
   case atStart=>exact⟨0,xz,rfl,bH.o,du.o.start⟩
   case round=>
    obtain⟨k,hk,rfl,r,hI⟩:=hrel;clear d0 d1 l0 l1;obtain⟨d0,l0⟩:=p.o wr r;obtain⟨d1,l1⟩:=bp.o wr r;have cW:(0:Int)<=k:=xz
    by_cases aI:k<n
    ·have aZ:(k:Int)<n:=by omega
     obtain⟨xs,hx,-⟩:=hI i _ an.o;have aA:=hx.2;simp only at aA;obtain⟨g,rfl⟩: ∃g,ta=some ⟨g,0,none⟩:=by
      rcases aA.2 with ⟨_,h2⟩ |⟨g,c,cur,e,-⟩
      ·omega
      ·injection e with e1 e2 e3
       exact⟨g,e1⟩
     obtain⟨Wd,ag⟩:=ex (wr.drew);have kd:wD wr Wd:=by rw [←ag];exact kDr
     have hS: ∀Y,wD wr Y->(Y.cell? ⟨B,0,none⟩=some (.slice (some ⟨U,0,none⟩) ts.length cT)/\Y.cell? ⟨U,i,none⟩=some (.slice (some ⟨g,0,none⟩) n tc)):=fun Y f=>⟨f.cell d0 wE,f.cell d1 wE⟩;have ap:=hS Wd kd;have hm:=aE.o i Wd s (r.trans kd.mt);have cQ:qd4 ts g:=⟨_,zH an.o,rfl⟩;have cU: ∀Y,wD wr Y->(∃u,Y.cell? ⟨g,k,none⟩=some u)/\Y.frozen? ⟨g,k,none⟩=false/\g<Y.heap.size:=fun Y f=>by
      have hy:=hx.keep f (fun _ _=>wE);have h1:=hy.1;have hy:=hy.2;simp only at hy h1;refine⟨⟨_,qau hy k _ (zB (by rw [zL];omega))⟩,hy.frozenAt k,(qcm hy).2.2.1⟩
     clear hx aA;refine hd9 ?_ r hI hS ap hm cU ag kd cQ;clear r hI hS ap hm cU ag kd cQ;intro q dt aF ak aw cp al bK co;go_wp2_with fail;refine qba rfl (fun Y=>Y.cell? ⟨B,0,none⟩=some (.slice (some ⟨U,0,none⟩) ts.length cT)/\Y.cell? ⟨U,i,none⟩=some (.slice (some ⟨g,0,none⟩) n tc)) [11] ?_;rw [al.o];refine qab [0,1,2,3,4,5,6,7,8] ?_
     iterate 9
      refine tkA rfl ak.o ?_
      try simp only [qac]
     refine qk ?_;refine ho 9 rfl fun K z=>?_;go_wp2_with fail;refine aw.o.mono ?_;rintro e W1 ⟨rfl,k1⟩;have bm:=bK.o.trans k1;obtain⟨⟨u0,c5⟩,c6,c7⟩:=cp.o W1 bm;have aq:=aF.o W1 bm;refine hd3 ?_ k1 bm aq;clear k1 bm aq;intro cC br d;go_wp2_with fail;refine z.o _ _ (fun _=>d.o) ?_;refine ho 10 rfl fun K aj=>?_;go_wp2_with fail;refine aj.o _ _ (fun _=>d.o) ?_;refine ho 11 rfl fun K q=>?_;go_wp2_with fail;refine q.o _ _ (fun h=>absurd h wC) ?_;refine qbq wA ?_;clear z aj q;have cF:=(dt.o.keep br.o).put an.o aI Xh.o.pair;have y:=(q.o.trans br.o.mt).trans (Keep.setCell (C:=fun b=> ¬qd4 ts b) W1 ⟨g,k,none⟩ (.string (qbk i)) (by simpa using co.o));refine hd2 ?_ cF y;clear cF y;intro cc R;go_wp2_with fail;go_roundw
     case rel=>exact⟨k+1,xz,by go_num,R.o,cc.o⟩
     case measure=>simp [intOf];omega
    ·obtain rfl:k=n:=by omega
     have cM:=hI.done an.o;refine hd2 ?_ r cM;clear r cM;intro q ck;go_wp2_with fail;go_roundw
     case rel=>exact⟨i+1,xz,by go_num,q.o,ck.o⟩
     case measure=>simp [intOf];omega
  ·obtain rfl:i=ts.length:=by omega
   obtain⟨H,hH⟩:=ex (wr.heap.size);have bw: ∀t,t∈ts-> ∀b,t.1.ownBlock=some b->b<H:=fun t x b hb=>by
    obtain⟨j,hj⟩:=zw.1 x;obtain⟨xs,hx,-⟩:=hO j t hj;have:=(zE hx.2 b hb).2;omega
   have cJ:=Lg.start (H:=H) hO;have dE:H<=wr.heap.size:=xz
   have d9:X.heap.size<=H:=by have:=hK.size;omega
   clear hH hO s hi;refine hd3 ?_ hK cJ bw;clear hK cJ bw;intro bH cf aV;obtain⟨Wa,dy⟩: ∃Wa,Wa=wr:=⟨_,rfl⟩;subst dy;go_wp2_with fail
   go_loopw [5,6] (fun vL i' wr=> ∃(i:Nat) (ls:List Value),i<=ts.length/\i'=.int .i64 (i:Int)/\ls.length=i/\Keep (fun b=> ¬qd4 ts b) X wr/\Lg ts H i wr ls/\wr.ownsRow H 60 1 vL i ls/\H<=wr.heap.size) (fun _ i _=>ts.length-(intOf i).toNat)
   case atStart=>exact⟨0,[],xz,rfl,rfl,bH.o,cf.o,zj _ _ _ _,dE⟩
   case round=>
    obtain⟨i,ls,hi,rfl,bl,r,hL,hv,hw⟩:=hrel;clear d0 l0;obtain⟨d0,l0⟩:=p.o wr r;obtain⟨aL,cL,rfl⟩:=qi hv;by_cases s:i<ts.length
    ·have bx:(i:Int)<ts.length:=by omega
     have cV:(0:Int)<=i:=xz
     obtain⟨t,x⟩: ∃t,ts[i]?=some t:=⟨_,zB s⟩;obtain⟨U,rfl,cR,ad⟩:=aQ.o i t x;obtain⟨tv,n⟩:=t;have hx:=(hL.rest i _ x (zG _));obtain⟨ta,tc,e⟩:=qi hx.2;simp only at e;subst e;have hn:=Xh.o.fews _ (zH x);simp only at hn;obtain⟨d1,l1⟩:=ad wr r;simp only at d1;have db: ∀b,¬qd4 ts b->(Value.slice ta n tc).ownBlock≠some b:=fun b h e=>h ⟨_,zH x,e⟩;have aA:=hx.2;have dg:=hx.rd;simp only at aA;obtain⟨Wi,dA⟩: ∃Wi,Wi=wr:=⟨_,rfl⟩;obtain⟨Hi,cE⟩:=ex (Wi.heap.size);subst dA;clear hx;refine qc9 ?_ r hL hv x ad db aA dg cE bl;clear r hL hv x ad db aA dg cE bl;intro q aP ax an bp bq cA cB bo aU;go_wp2_with fail
     go_loopw [7,8] (fun l k' wq=> ∃k:Nat,k<=20/\k'=.int .i64 (k:Int)/\Keep (fun b=>(Value.slice ta n tc).ownBlock≠some b) Wi wq/\wq.ownsRow 0 9 1 l (n+k) ((List.replicate (n+k) (qbk i)).map .string)/\(∀b,l.ownBlock=some b->(Value.slice ta n tc).ownBlock=some b∨Hi<=b)/\TRd wq (.slice ta n tc,n) (qbk i)) (fun _ k _=>20-(intOf k).toNat)
     case atStart=>exact⟨0,xz,rfl,Keep.refl _ _,cA.o,fun b hb=>.inl hb,cB.o⟩
     case round=>
      obtain⟨k,hk,rfl,ao,hl,bk,az⟩:=hrel;obtain⟨la,lc,rfl⟩:=qi hl;have cW:(0:Int)<=k:=xz
      by_cases aI:k<20
      ·have aZ:(k:Int)<20:=by omega
       have hm:=aE.o i wr s (q.o.trans (ao.mono fun b _ h=>bq.o b h));have dF:=ao.size;have bu:=bo.o;refine hd5 ?_ ao hl bk az hm;clear ao hl bk az hm;intro ce cq cr cx aw;go_wp2_with fail;refine aw.o.mono ?_;rintro e W1 ⟨rfl,k1⟩;obtain⟨W2,bb⟩:=ex (W1.alloc (.cells #[.string (qbk i)] 9));obtain⟨N1,bM⟩:=ex (W1.heap.size);have k2:wD W1 W2:=by rw [←bb];exact kAl
       have n2:W2.heap[N1]?=some (.cells #[.string (qbk i)] 9 (0,0)):=by rw [←bb,←bM];exact qh _ _
       have a1:=k1.trans k2;have z1:=k1.size;have z2:=a1.size;obtain⟨v3,W3,c9,c4,g3,c3,rfl,cP,ec,bR⟩:=qly (P:=prog) q4y 60 (qf cq.o a1 fun _ _=>wE) ⟨N1,0,none⟩ 1 1 [.string (qbk i)] rfl (fun j u hj=>by
        cases j with
        |zero=>cases hj;exact qbb n2
        |succ j=>cases hj) (by simp [Value.oneCell']) wC xz (ya _)
       have bP: ∀b,(Value.slice (some ⟨g3,0,none⟩) (n+k+1) c3).ownBlock=some b->(Value.slice ta n tc).ownBlock=some b∨Hi<=b:=fun b hb=>by
        cases hb;rcases cP with h5 |h5
        ·exact cr.o _ h5
        ·exact .inr (by show Hi<=g3;omega)
       have y:Keep (fun b=>(Value.slice ta n tc).ownBlock≠some b) Wi W3:=by
        have h0:Keep (fun b=>(Value.slice ta n tc).ownBlock≠some b/\b<Hi) Wi W3:=(ce.o.mono fun b _ h=>h.1).trans (a1.mt.trans (bR.mono fun b _ h e=>by
         rcases bP b (by rw [e];rfl) with h5 |h5
         ·exact h.1 h5
         ·have:=h.2;omega))
        exact h0.mono fun b hb h=>⟨h,xz⟩
       have bS:W3.ownsRow 0 9 1 (.slice (some ⟨g3,0,none⟩) (n+(k+1)) c3) (n+(k+1)) ((List.replicate (n+(k+1)) (qbk i)).map .string):=by
        have e:(List.replicate (n+(k+1)) (qbk i)).map Value.string=(List.replicate (n+k) (qbk i)).map Value.string++ [.string (qbk i)]:=by
         rw [←xF,replicate_succ',zm];rfl
        rw [e];exact c4
       have bD:TRd W3 (.slice ta n tc,n) (qbk i):=fun g c e m hm=>by
        by_cases hg:g=g3
        ·subst hg;exact qya bS m hm
        ·exact bR.cell (a1.cell (cx.o g c e m hm) wE) hg
       clear k1 k2 n2 a1 c4 cP bR bu;refine hd7 ?_ bb bM c9 bP y bS bD;clear bb bM c9 bP y bS bD;intro cl ci cv cn R ct bJ;go_wp2_with (at_builtin;rw [cl.o,ci.o];refine qcd rfl _ _ _ rfl rfl rfl cv.o ?_);go_roundw
       case rel=>exact⟨k+1,xz,by go_num,R.o,ct.o,cn.o,bJ.o⟩
       case measure=>simp [intOf];omega
      ·obtain rfl:k=20:=by omega
       have ai:=aV.o _ (zH an.o);simp only at ai;have dF:=ao.size;have bu:=bo.o;have de:=qf ax.o ao (fun b hb e=>by have:=(zE ax.o b hb).1;have:=ai b e;omega);obtain⟨W4,bc⟩:=ex (wr.alloc (.cells #[.slice la (n+20) lc] 60));obtain⟨N4,bN⟩:=ex (wr.heap.size);have k4:wD wr W4:=by rw [←bc];exact kAl
       have n4:W4.heap[N4]?=some (.cells #[.slice la (n+20) lc] 60 (0,0)):=by rw [←bc,←bN];exact qh _ _
       have z4:=k4.size;have a0:=qf de k4 (fun _ _=>wE);have bj:=qf hl k4 (fun _ _=>wE);obtain⟨v5,W5,da,c8,g5,c5,rfl,bf,ed,bi⟩:=qly (P:=prog) qx9 69 a0 ⟨N4,0,none⟩ 1 1 [.slice la (n+20) lc] rfl (fun j u hj=>by
        cases j with
        |zero=>cases hj;exact qbb n4
        |succ j=>cases hj) (by simp [Value.oneCell']) wC xz xz
       have dX:H<=g5:=by
        rcases bf with h5 |h5
        ·exact(zE a0 _ h5).1
        ·omega
       have cY:=qf bj bi (fun b hb e=>by
        subst e;rcases bf with h5 |h5
        ·exact qp2 bj a0 wC b hb h5
        ·have:=(zE bj b hb).2;omega)
       have bz:TRd W5 (.slice ta n tc,n) (qbk i):=(az.keep k4 fun _ _=>wE).keep bi fun b hb e=>by have:=ai b hb;omega
       have kA:Keep (fun b=>(Value.slice ta n tc).ownBlock≠some b/\b≠g5) Wi W5:=(ao.mono fun b _ h=>h.1).trans (k4.mt.trans (bi.mono fun b _ h=>h.2));have cK:=aP.o.step (l:=.slice la (n+20) lc) an.o aU.o Xh.o.pair aV.o kA (fun b hb h1 h2=>⟨h1,fun e=>by
        subst e;rcases bf with h5 |h5
        ·rcases h2 with h2 |⟨j,l,hj,hl',ah⟩
         ·have:=(zE a0 _ h5).1;omega
         ·obtain⟨u,hu⟩: ∃u,ts[j]?=some u:=⟨_,zB (show j<ts.length from xz)⟩;obtain⟨l2,q1,q2,-⟩:=aP.o.fin j u hu hj;rw [hl']at q1;cases q1;exact qp2 q2 ax.o wC b ah h5
        ·omega⟩) bz cY (fun b hb=>by
        rcases bk b hb with h5 |h5
        ·exact .inl h5
        ·exact .inr xz)
       have cG:Keep (fun b=> ¬qd4 ts b) X W5:=by
        have h0:Keep (fun b=> ¬qd4 ts b/\b<H) X W5:=(q.o.mono fun b _ h=>h.1).trans (kA.mono fun b _ h=>⟨bq.o b h.1,by have:=h.2;omega⟩);exact h0.mono fun b hb h=>⟨h,xz⟩
       have df:H<=W5.heap.size:=by have:=kA.size;omega
       have bv:(ls++ [Value.slice la (n+20) lc]).length=i+1:=by rw [zR,aU.o];rfl
       clear de ai a0 bj n4 k4 bf bi cY bz kA bk az ao;refine hd9 ?_ bc bN da c8 cK cG df bv hl;clear bc bN da c8 cK cG df bv hl;intro cm cj cw cu cg cd cz bI cq;go_wp2_with (at_builtin;rw [cm.o,cj.o];refine qcd rfl _ _ _ rfl rfl rfl cw.o ?_);go_roundw
       case rel=>exact⟨i+1,_,xz,by go_num,bI.o,cd.o,cg.o,cu.o,cz.o⟩
       case measure=>simp [intOf];omega
    ·obtain rfl:i=ts.length:=by omega
     obtain⟨We,dz⟩: ∃We,We=wr:=⟨_,rfl⟩;subst dz;clear s hi hw;have cH: ∀Y,wD We Y->Keep (fun b=> ¬qd4 ts b) X Y:=fun Y f=>r.trans f.mt;refine hd5 ?_ r hL hv bl cH;clear r hL hv bl cH;intro q aP ax aU ae;go_wp2_with fail
     go_loopw [9] (fun i' wr=> ∃i:Nat,i<=ts.length/\i'=.int .i64 (i:Int)/\wD We wr) (fun i _=>ts.length-(intOf i).toNat)
     case atStart=>exact⟨0,xz,rfl,Keep.refl _ _⟩
     case round=>
      obtain⟨i,hi,rfl,y⟩:=hrel;clear d0 l0;obtain⟨d0,l0⟩:=p.o wr (ae.o wr y);by_cases s:i<ts.length
      ·have bx:(i:Int)<ts.length:=by omega
       have cV:(0:Int)<=i:=xz
       obtain⟨t,x⟩: ∃t,ts[i]?=some t:=⟨_,zB s⟩;obtain⟨U,rfl,cR,ad⟩:=aQ.o i t x;obtain⟨tv,n⟩:=t;have az:=aP.o.rd i _ x s;obtain⟨lv,cZ,aJ,-⟩:=aP.o.fin i _ x s;simp only at aJ;have hn:=Xh.o.fews _ (zH x);simp only at hn;obtain⟨dH,bV,-⟩:=ch.o i _ x;obtain⟨ta,tc,e⟩:=qi bV.2;simp only at e;subst e;obtain⟨la,lc,rfl⟩:=qi aJ;obtain⟨lg,rfl⟩: ∃g,la=some ⟨g,0,none⟩:=by
        rcases aJ.2 with ⟨_,h2⟩ |⟨g,c,cur,e,-⟩
        ·omega
        ·injection e with e1 e2 e3
         exact⟨g,e1⟩
       obtain⟨gL,rfl⟩: ∃g,aL=some ⟨g,0,none⟩:=by
        rcases ax.o.2 with ⟨_,h2⟩ |⟨g,c,cur,e,-⟩
        ·omega
        ·injection e with e1 e2 e3
         exact⟨g,e1⟩
       have dc: ∀k,k<n-> ∃tg,ta=some ⟨tg,0,none⟩/\ ∀Y,wD We Y->Y.cell? ⟨tg,k,none⟩=some (.string (qbk i)):=fun k hk=>by
        have h2:=bV.2;simp only at h2;rcases h2.2 with ⟨_,h2⟩ |⟨g,c,cur,e,-⟩
        ·omega
        ·injection e with e1 e2 e3
         subst e1;subst e3;exact⟨g,rfl,fun Y f=>f.cell (az g tc rfl k hk) wE⟩
       have bQ: ∀Y,wD We Y->Y.cell? ⟨gL,i,none⟩=some (.slice (some ⟨lg,0,none⟩) (n+20) lc)/\gL<Y.heap.size/\lg<Y.heap.size/\ ∀k,k<n+20->Y.cell? ⟨lg,k,none⟩=some (.string (qbk i)):=fun Y f=>by
        have q1:=qf ax.o f fun _ _=>trivial;have q2:=qf aJ f fun _ _=>trivial;exact⟨qau q1 i _ cZ,(qcm q1).2.2.1,(qcm q2).2.2.1,fun k hk=>qya (n:=n+20) (k:=0) q2 k hk⟩
       have ea:=(qcm ax.o).1;have eb:=(qcm aJ).1;have hd1: ∀Y,wD We Y->Y.cell? ⟨U,i,none⟩=some (.slice ta n tc)/\U<Y.heap.size:=fun Y f=>ad Y (ae.o Y f);have cS: ∀Y,wD We Y->Y.cell? ⟨B,0,none⟩=some (.slice (some ⟨U,0,none⟩) ts.length cT)/\B<Y.heap.size:=fun Y f=>p.o Y (ae.o Y f);obtain⟨e1,e2,e3,-⟩:=bQ wr y;obtain⟨d1,l1⟩:=hd1 wr y;obtain⟨Wz,dC⟩: ∃Wz,Wz=wr:=⟨_,rfl⟩;subst dC;clear bV aJ az cZ ad;refine hd6 ?_ y x dc bQ hd1 cS;clear y x dc bQ hd1 cS;intro R an cy am aS aR;go_wp2_with fail
       go_loopw [10] (fun k' wr=> ∃k:Nat,k<=n+20/\k'=.int .i64 (k:Int)/\wD We wr) (fun k _=>n+20-(intOf k).toNat)
       case atStart=>exact⟨0,xz,rfl,R.o⟩
       case round=>
        obtain⟨k,hk,rfl,aa⟩:=hrel;have cW:(0:Int)<=k:=xz
        clear d0 l0 d1 l1 e1 e2 e3;obtain⟨d0,l0⟩:=aR.o wr aa;obtain⟨d1,l1⟩:=aS.o wr aa;obtain⟨e1,e2,e3,e4⟩:=am.o wr aa;by_cases aI:k<n+20
        ·have aZ:(k:Int)<(n+20:Nat):=by omega
         have dY:(k:Int)<(n:Int)+20:=xz
         have e5:=e4 k aI;obtain⟨Wd,ag⟩:=ex (wr.drew);have kd:wD wr Wd:=by rw [←ag];exact kDr
         have aC:=aa.trans kd;have hm:=aE.o i Wd s (ae.o Wd aC);clear e4;by_cases dD:k<n
         ·obtain⟨tg,rfl,bU⟩:=cy.o k dD;have cX:(k:Int)<n:=by omega
          have hS: ∀Y,wD We Y->(Y.cell? ⟨gL,i,none⟩=some (.slice (some ⟨lg,0,none⟩) (n+20) lc)/\Y.cell? ⟨lg,k,none⟩=some (.string (qbk i))/\Y.cell? ⟨B,0,none⟩=some (.slice (some ⟨U,0,none⟩) ts.length cT)/\Y.cell? ⟨U,i,none⟩=some (.slice (some ⟨tg,0,none⟩) n tc)/\Y.cell? ⟨tg,k,none⟩=some (.string (qbk i))):=fun Y f=>⟨(am.o Y f).1,(am.o Y f).2.2.2 k aI,(aR.o Y f).1,(aS.o Y f).1,bU Y f⟩;have ap:=hS Wd aC;refine hd8 ?_ aa ag kd aC hm hS ap bU;clear aa ag kd aC hm hS ap bU;intro aO al bK aX aw aF ak dQ;go_wp2_with fail;refine qba rfl (fun Y=>Y.cell? ⟨gL,i,none⟩=some (.slice (some ⟨lg,0,none⟩) (n+20) lc)/\Y.cell? ⟨lg,k,none⟩=some (.string (qbk i))/\Y.cell? ⟨B,0,none⟩=some (.slice (some ⟨U,0,none⟩) ts.length cT)/\Y.cell? ⟨U,i,none⟩=some (.slice (some ⟨tg,0,none⟩) n tc)/\Y.cell? ⟨tg,k,none⟩=some (.string (qbk i))) [] ?_;rw [al.o];refine qab [0,1,2,3,4,5,6,7] ?_
          iterate 8
           refine tkA rfl ak.o ?_
           try simp only [qac]
          refine qk ?_;refine ho 8 rfl fun K z=>?_;go_wp2_with fail;refine aw.o.mono ?_;rintro e W1 ⟨rfl,k1⟩;have au:=aX.o.trans k1;have aq:=aF.o W1 au;have c0:=aE.o i W1 s (ae.o W1 au);refine hd4 ?_ k1 au aq c0;clear k1 au aq c0;intro cC aW d cs;go_wp2_with fail;refine z.o _ _ (fun _=>d.o) ?_;refine qax (i:=9) (v:=.bool false) rfl wA wA wA wA (fun _ _ _ h=>h) d.o (Or.inl ⟨by rfl,fun Wq ar=>(by go_simp;try simp)⟩) ?_
          try simp only [Act.put,getElem_toArray,getElem_cons_zero,getElem_cons_succ,yJ,set_cons_zero,set_cons_succ]
          refine qab [10,11,12,13,14,15,16,17,18,19] ?_
          iterate 10
           refine tkA rfl d.o ?_
           try simp only [qac]
          refine qk ?_;refine qax (i:=20) (v:=.bool true) rfl wA wA wA wA (fun _ _ _ h=>h) d.o (Or.inl ⟨by rfl,fun Wq ar=>(by go_simp;try simp)⟩) ?_
          try simp only [Act.put,getElem_toArray,getElem_cons_zero,getElem_cons_succ,yJ,set_cons_zero,set_cons_succ]
          refine qab [21,22,23,24,25,26,27,28,29,30,31,32] ?_
          iterate 12
           refine tkA rfl d.o ?_
           try simp only [qac]
          refine qk ?_;refine ho 33 rfl fun K aj=>?_;go_wp2_with fail;refine cs.o.mono ?_;rintro e W2 ⟨rfl,k2⟩;have b0:=aW.o.trans k2;have cN:=aF.o W2 b0;refine hd3 ?_ k2 b0 cN;clear k2 b0 cN;intro d5 cD aD;go_wp2_with fail;refine aj.o _ _ (fun _=>aD.o) ?_;refine qax (i:=34) (v:=.bool false) rfl wA wA wA wA (fun _ _ _ h=>h) aD.o (Or.inl ⟨by rfl,fun Wq ar=>(by go_simp;try simp)⟩) ?_
          try simp only [Act.put,getElem_toArray,getElem_cons_zero,getElem_cons_succ,yJ,set_cons_zero,set_cons_succ]
          refine qax (i:=35) (v:=.bool false) rfl wA wA wA wA (fun _ _ _ h=>h) aD.o (Or.inl ⟨by rfl,fun Wq ar=>(by go_simp;try simp)⟩) ?_
          try simp only [Act.put,getElem_toArray,getElem_cons_zero,getElem_cons_succ,yJ,set_cons_zero,set_cons_succ]
          refine qax (i:=36) (v:=.bool false) rfl wA wA wA wA (fun _ _ _ h=>h) aD.o (Or.inl ⟨by rfl,fun Wq ar=>(by go_simp;try simp)⟩) ?_
          try simp only [Act.put,getElem_toArray,getElem_cons_zero,getElem_cons_succ,yJ,set_cons_zero,set_cons_succ]
          refine qbq wA ?_;clear z aj;go_wp2_with fail;go_roundw
          case rel=>exact⟨k+1,xz,by go_num,cD.o⟩
          case measure=>simp [intOf];omega
         ·have cX: ¬(k:Int)<n:=by omega
          have hS: ∀Y,wD We Y->(Y.cell? ⟨gL,i,none⟩=some (.slice (some ⟨lg,0,none⟩) (n+20) lc)/\Y.cell? ⟨lg,k,none⟩=some (.string (qbk i))/\Y.cell? ⟨B,0,none⟩=some (.slice (some ⟨U,0,none⟩) ts.length cT)/\Y.cell? ⟨U,i,none⟩=some (.slice ta n tc)):=fun Y f=>⟨(am.o Y f).1,(am.o Y f).2.2.2 k aI,(aR.o Y f).1,(aS.o Y f).1⟩;have ap:=hS Wd aC;refine hd7 ?_ aa ag kd aC hm hS ap;clear aa ag kd aC hm hS ap;intro aO al bK aX aw aF ak;go_wp2_with fail;refine qba rfl (fun Y=>Y.cell? ⟨gL,i,none⟩=some (.slice (some ⟨lg,0,none⟩) (n+20) lc)/\Y.cell? ⟨lg,k,none⟩=some (.string (qbk i))/\Y.cell? ⟨B,0,none⟩=some (.slice (some ⟨U,0,none⟩) ts.length cT)/\Y.cell? ⟨U,i,none⟩=some (.slice ta n tc)) [] ?_;rw [al.o];refine qab [0,1,2,3,4,5,6,7] ?_
          iterate 8
           refine tkA rfl ak.o ?_
           try simp only [qac]
          refine qk ?_;refine ho 8 rfl fun K z=>?_;go_wp2_with fail;refine aw.o.mono ?_;rintro e W1 ⟨rfl,k1⟩;have au:=aX.o.trans k1;have aq:=aF.o W1 au;refine hd3 ?_ k1 au aq;clear k1 au aq;intro cC aW d;go_wp2_with fail;refine z.o _ _ (fun _=>d.o) ?_;refine qax (i:=9) (v:=.bool false) rfl wA wA wA wA (fun _ _ _ h=>h) d.o (Or.inl ⟨by rfl,fun Wq ar=>(by go_simp;try simp)⟩) ?_
          try simp only [Act.put,getElem_toArray,getElem_cons_zero,getElem_cons_succ,yJ,set_cons_zero,set_cons_succ]
          refine qab [10,11,12,13,14,15,16,17,18,19] ?_
          iterate 10
           refine tkA rfl d.o ?_
           try simp only [qac]
          refine qk ?_;refine qax (i:=20) (v:=.bool false) rfl wA wA wA wA (fun _ _ _ h=>h) d.o (Or.inl ⟨by rfl,fun Wq ar=>(by go_simp;try simp)⟩) ?_
          try simp only [Act.put,getElem_toArray,getElem_cons_zero,getElem_cons_succ,yJ,set_cons_zero,set_cons_succ]
          refine qab [21] ?_
          iterate 1
           refine tkA rfl d.o ?_
           try simp only [qac]
          refine qk ?_;refine qax (i:=22) (v:=undef) rfl wA wA wA wA (fun _ _ _ h=>h) d.o (Or.inr ⟨wA,rfl⟩) ?_
          try simp only [Act.put,getElem_toArray,getElem_cons_zero,getElem_cons_succ,yJ,set_cons_zero,set_cons_succ]
          refine qax (i:=23) (v:=undef) rfl wA wA wA wA (fun _ _ _ h=>h) d.o (Or.inr ⟨wA,rfl⟩) ?_
          try simp only [Act.put,getElem_toArray,getElem_cons_zero,getElem_cons_succ,yJ,set_cons_zero,set_cons_succ]
          refine qax (i:=24) (v:=undef) rfl wA wA wA wA (fun _ _ _ h=>h) d.o (Or.inr ⟨wA,rfl⟩) ?_
          try simp only [Act.put,getElem_toArray,getElem_cons_zero,getElem_cons_succ,yJ,set_cons_zero,set_cons_succ]
          refine qax (i:=25) (v:=undef) rfl wA wA wA wA (fun _ _ _ h=>h) d.o (Or.inr ⟨wA,rfl⟩) ?_
          try simp only [Act.put,getElem_toArray,getElem_cons_zero,getElem_cons_succ,yJ,set_cons_zero,set_cons_succ]
          refine qax (i:=26) (v:=undef) rfl wA wA wA wA (fun _ _ _ h=>h) d.o (Or.inr ⟨wA,rfl⟩) ?_
          try simp only [Act.put,getElem_toArray,getElem_cons_zero,getElem_cons_succ,yJ,set_cons_zero,set_cons_succ]
          refine qax (i:=27) (v:=undef) rfl wA wA wA wA (fun _ _ _ h=>h) d.o (Or.inr ⟨wA,rfl⟩) ?_
          try simp only [Act.put,getElem_toArray,getElem_cons_zero,getElem_cons_succ,yJ,set_cons_zero,set_cons_succ]
          refine qax (i:=28) (v:=undef) rfl wA wA wA wA (fun _ _ _ h=>h) d.o (Or.inr ⟨wA,rfl⟩) ?_
          try simp only [Act.put,getElem_toArray,getElem_cons_zero,getElem_cons_succ,yJ,set_cons_zero,set_cons_succ]
          refine qax (i:=29) (v:=undef) rfl wA wA wA wA (fun _ _ _ h=>h) d.o (Or.inr ⟨wA,rfl⟩) ?_
          try simp only [Act.put,getElem_toArray,getElem_cons_zero,getElem_cons_succ,yJ,set_cons_zero,set_cons_succ]
          refine qax (i:=30) (v:=undef) rfl wA wA wA wA (fun _ _ _ h=>h) d.o (Or.inr ⟨wA,rfl⟩) ?_
          try simp only [Act.put,getElem_toArray,getElem_cons_zero,getElem_cons_succ,yJ,set_cons_zero,set_cons_succ]
          refine qax (i:=31) (v:=undef) rfl wA wA wA wA (fun _ _ _ h=>h) d.o (Or.inr ⟨wA,rfl⟩) ?_
          try simp only [Act.put,getElem_toArray,getElem_cons_zero,getElem_cons_succ,yJ,set_cons_zero,set_cons_succ]
          refine qax (i:=32) (v:=undef) rfl wA wA wA wA (fun _ _ _ h=>h) d.o (Or.inr ⟨wA,rfl⟩) ?_
          try simp only [Act.put,getElem_toArray,getElem_cons_zero,getElem_cons_succ,yJ,set_cons_zero,set_cons_succ]
          refine qax (i:=33) (v:=undef) rfl wA wA wA wA (fun _ _ _ h=>h) d.o (Or.inr ⟨wA,rfl⟩) ?_
          try simp only [Act.put,getElem_toArray,getElem_cons_zero,getElem_cons_succ,yJ,set_cons_zero,set_cons_succ]
          refine qax (i:=34) (v:=undef) rfl wA wA wA wA (fun _ _ _ h=>h) d.o (Or.inr ⟨wA,rfl⟩) ?_
          try simp only [Act.put,getElem_toArray,getElem_cons_zero,getElem_cons_succ,yJ,set_cons_zero,set_cons_succ]
          refine qax (i:=35) (v:=.bool false) rfl wA wA wA wA (fun _ _ _ h=>h) d.o (Or.inl ⟨by rfl,fun Wq ar=>(by go_simp;try simp)⟩) ?_
          try simp only [Act.put,getElem_toArray,getElem_cons_zero,getElem_cons_succ,yJ,set_cons_zero,set_cons_succ]
          refine qax (i:=36) (v:=.bool false) rfl wA wA wA wA (fun _ _ _ h=>h) d.o (Or.inl ⟨by rfl,fun Wq ar=>(by go_simp;try simp)⟩) ?_
          try simp only [Act.put,getElem_toArray,getElem_cons_zero,getElem_cons_succ,yJ,set_cons_zero,set_cons_succ]
          refine qbq wA ?_;clear z;go_wp2_with fail;go_roundw
          case rel=>exact⟨k+1,xz,by go_num,aW.o⟩
          case measure=>simp [intOf];omega
        ·obtain rfl:k=n+20:=by omega
         have aZ: ¬((n+20:Nat):Int)<(n:Int)+20:=xz
         clear e4;refine hd1 ?_ aa;clear aa;intro aO;go_wp2_with fail;go_roundw
         case rel=>exact⟨i+1,xz,by go_num,aO.o⟩
         case measure=>simp [intOf];omega
      ·obtain rfl:i=ts.length:=by omega
       clear s hi;refine hd1 ?_ y;clear y;intro R;go_wp2_with fail;go_ret;exact⟨rfl,ae.o _ R.o⟩
end Go.Proofs
