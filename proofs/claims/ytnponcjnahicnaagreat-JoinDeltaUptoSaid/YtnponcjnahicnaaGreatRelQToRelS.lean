/- Parts of the proof. -/
import Derived.Test.YtnponcjnahicnaaGreatRelOToRelP
set_option linter.unusedSimpArgs false
set_option linter.unusedVariables false
set_option maxRecDepth 100000
set_option maxHeartbeats 4000000
open Go.Proofs.Tryz(prog)
open List(filter_eq_nil_iff find?_some nil_append pairwise_cons pairwise_iff_getElem)
namespace Go.Proofs.R4
open Go.RowKit Go.Ink
attribute [local go_sem] Oper.semAt_some
theorem q3e: ∀w:World,(zeroValue 180).run prog w=.ok (.pointer none) w:=fun w=>wD
theorem q5x {tag d:qcg}{x Y:World}{B n:Nat}{ts:List (List Int)}{vD:Value}{P K:Nat}{lm:List (List Bool×Nat)}(h:qcl tag x B n ts vD P K lm){c:List Bool}{L:Nat}{l:List Int}{vl:Value}{M:Nat}{m:List (List Int×Value)}
  (hl:LookAt d x n ts c L l vl M m) (t: ∀b T,d b=some T->tag b=none/\b<x.heap.size/\qci (some T)=some c) (hc:c∉lm.map (·.1)) (hm:qyo Y K (setK lm c L)) (s:Keep (fun b=>b≠K) x Y) (hold: ∀b T,tag b=some T->qci (some T)≠some c):
  qcl (fun b=>match d b with |some T=>some T |none=>tag b) Y B n ts vD P K (lm++ [(c,L)])/\TagLe tag (fun b=>match d b with |some T=>some T |none=>tag b):=by
 have hz:=s.size;have y: ∀b T,tag b=some T->d b=none:=fun b T g=>by
  cases hT:d b with
  |none=>rfl
  |some T'=>have:=(t b T' hT).1;rw [g] at this;cases this
 have p: ∀b T,tag b=some T->(fun b=>match d b with |some T=>some T |none=>tag b) b=some T:=fun b T g=>by simp only [y b T g];exact g
 have r: ∀b T,tag b=some T->T≠.kmap->b≠K:=fun b T g hT e=>hT (by rw [e,h.tagK] at g;cases g;rfl);refine⟨⟨p B _ h.tagB,s.heap h.box (r B _ h.tagB (fun e=>(by cases e))),h.n16,h.nodup,h.right,h.ok,qf h.own s (fun b g=>r b _ (h.tagD b g) (fun e=>(by cases e))),fun b g=>p b _ (h.tagD b g),p P _ h.tagP,h.pmap.keep s (r P _ h.tagP (fun e=>(by cases e))),p K _ h.tagK,?_,?_,?_,?_⟩,fun b T g=>.inl (p b T g)⟩
 ·have:setK lm c L=lm++ [(c,L)]:=by unfold setK;rw [zF hc]
  rw [←this];exact hm
 ·intro v U q;rcases zr.1 q with q |q
  ·obtain⟨l',X,M',m',R⟩:=h.looks v U q;have z:v≠c:=fun e=>hc (e▸yL.2 ⟨_,q,rfl⟩);refine⟨l',X,M',m',R.keep s (fun b g e=>?_) (fun b g=>?_) (fun b g=>?_)⟩
   ·subst e;rw [h.tagK] at g;cases g
   ·cases hT:tag b with
    |none=>rw [hT] at g;cases g
    |some T=>rw [←hT];exact(p b T hT).trans hT.symm
   ·cases hT:d b with
    |none=>simp only [hT]
    |some T=>
     simp only [hT]at g;exact absurd ((yI (g.symm.trans (t b T hT).2.2))) z
  ·simp only [zm,Prod.mk.injEq]at q;obtain⟨rfl,rfl⟩:=q;refine⟨l,vl,M,m,hl.keep s (fun b g e=>?_) (fun b g=>?_) (fun b g=>?_)⟩
   ·subst e;cases hT:d b with
    |none=>rw [hT] at g;cases g
    |some T=>have:=(t b T hT).1;rw [h.tagK] at this;cases this
   ·cases hT:d b with
    |none=>rw [hT] at g;cases g
    |some T=>simp only [hT]
   ·cases hT:d b with
    |none=>
     simp only [hT]at g⊢;cases u:tag b with
     |none=>rfl
     |some T2=>rw [u] at g;exact absurd g (hold b T2 u)
    |some T=>simp only [hT]
 ·intro b v g;cases hT:d b with
  |none=>
   simp only [hT]at g;obtain⟨U,h1⟩:=h.ents b v g;exact⟨U,xf _ h1⟩
  |some T=>
   simp only [hT]at g;have e:v=c:=yI (g.symm.trans (t b T hT).2.2);exact⟨L,by rw [e];simp⟩
 ·intro b T g;cases hT:d b with
  |none=>simp only [hT] at g;have:=h.lt b T g;omega
  |some T'=>have:=(t b T' hT).2.1;omega
theorem q81 {tag:qcg}{w:World}{B n:Nat}{ts:List (List Int)}{vD:Value}{P K:Nat}{lm:List (List Bool×Nat)}(h:qcl tag w B n ts vD P K lm)(hl:ts.length<=134217728)(m:Nat)(v:Value)(l:List Int)(hs:qat m w v l)(hm:m<=w.heap.size)(ay:qd8 n l=true):
  Calls prog 180 #[.pointer (some ⟨B,0,none⟩),qio (qav l),v] w fun e w'=> ∃L tag' lm',e=.returned (.pointer (some ⟨L,0,none⟩))/\
   Keep (fun b=>tag b=none) w w'/\qcl tag' w' B n ts vD P K lm'/\(qav l,L)∈lm'/\TagLe tag tag'/\TagNew tag tag' w/\ ∀p,p∈lm->p∈lm':=by
 obtain⟨a,cc,rfl,aL,da,bI⟩:=id hs;have hB:=qe h.box;have b7:=h.n16;have cL:l.length<=16:=by have:=qpv ay;omega
 have ar:=q80 (qkf l);obtain⟨k0,k1,k2,k3,k4,k5,k6,k7,k8,k9,X,ad,U,aa,af,ae,aZ⟩: ∃k0 k1 k2 k3 k4 k5 k6 k7 k8 k9 X ad U aa af ae,qav l= [k0,k1,k2,k3,k4,k5,k6,k7,k8,k9,X,ad,U,aa,af,ae]:=by
  have cr:=qkf l
  match h:qav l,cr with
  | [k0,k1,k2,k3,k4,k5,k6,k7,k8,k9,X,ad,U,aa,af,ae],_=>exact⟨k0,k1,k2,k3,k4,k5,k6,k7,k8,k9,X,ad,U,aa,af,ae,rfl⟩
 have bh:qio (qav l)=.agg #[.bool k0,.bool k1,.bool k2,.bool k3,.bool k4,.bool k5,.bool k6,.bool k7,.bool k8,.bool k9,.bool X,.bool ad,.bool U,.bool aa,.bool af,.bool ae]:=by rw [aZ];rfl
 obtain⟨Wb,aI⟩:=ex (w.alloc (.cells #[.bool k0,.bool k1,.bool k2,.bool k3,.bool k4,.bool k5,.bool k6,.bool k7,.bool k8,.bool k9,.bool X,.bool ad,.bool U,.bool aa,.bool af,.bool ae] 179));obtain⟨y,aF⟩:=ex (Wb.drew);have bp:wG w y:=by rw [←aF,←aI];exact kAl.trans kDr
 have d:y.heap[w.heap.size]?=some (.cells #[.bool k0,.bool k1,.bool k2,.bool k3,.bool k4,.bool k5,.bool k6,.bool k7,.bool k8,.bool k9,.bool X,.bool ad,.bool U,.bool aa,.bool af,.bool ae] 179 (0,0)):=by rw [←aF,←aI];exact qh _ _
 have a2:y.heap.size=w.heap.size+1:=by rw [←aF,←aI];simp
 have hd:=h.keep bp (fun _ _ _ _=>wH);have r0:=qb d 0 _ rfl;have r1:=qb d 1 _ rfl;have r2:=qb d 2 _ rfl;have r3:=qb d 3 _ rfl;have r4:=qb d 4 _ rfl;have r5:=qb d 5 _ rfl;have r6:=qb d 6 _ rfl;have r7:=qb d 7 _ rfl;have r8:=qb d 8 _ rfl;have r9:=qb d 9 _ rfl;have ao:=qb d 10 _ rfl;have ak:=qb d 11 _ rfl;have ag:=qb d 12 _ rfl;have ap:=qb d 13 _ rfl;have ai:=qb d 14 _ rfl;have ah:=qb d 15 _ rfl;have b4:=qb hd.box 4 _ rfl;simp only [zD]at b4 r0 r1 r2 r3 r4 r5 r6 r7 r8 r9 ao ak ag ap ai ah;have ab:=qef (P:=prog) Tryz.underlying169 qrw.law qve q3e hd.kmap (qav l) ar false;rw [bh]at ab⊢;have bR:B<y.heap.size:=qe hd.box;have bi:w.heap.size<y.heap.size:=wC
 clear aZ;refine hd8 ?_ h hs bI ay ar bh d bp;clear h hs bI ay ar bh d bp;intro Xh cz c0 a6 bd ci aP z
 go_enter Tryz.func180,Tryz.ntmps180
 cases s:qdj lm (qav l) with
 |some L=>
  have bQ:(qav l,L)∈lm:=by
   unfold qdj at s;cases hf:lm.find? (fun p=>decide (p.1=qav l)) with
   |none=>rw [hf] at s;cases s
   |some p=>
    rw [hf]at s;have h1:=find?_some hf;have h2:=xd hf;simp only [zT]at h1;cases s;rw [←h1];exact h2
  rw [s]at ab;simp only [zz,xA]at ab;refine hd3 ?_ s bQ hd;clear s bQ hd;intro cs co aj;go_wp2_with fail;subst aF
  go_region
  clear r0 r1 r2 r3 r4 r5 r6 r7 r8 r9 ao ak ag ap ai ah b4 ab a2 bR bi;go_wp2_with fail;go_ret;exact⟨L,tag,lm,rfl,z.o.mono (fun _ _ _=>wH),aj.o,co.o,TagLe.refl _,TagNew.refl _ _,fun _ h=>h⟩
 |none=>
  have b9:qav l∉lm.map (·.1):=fun cF=>by
   obtain⟨p,hp,he⟩:=yL.1 cF;have:=yp.1 (Option.map_eq_none_iff.1 s) p hp;simp [he]at this
  rw [s]at ab;simp only [zz,xA]at ab;refine hd3 ?_ s b9 hd;clear s b9 hd;intro cs aU aj;go_wp2_with fail;subst aF
  go_region
  generalize Wb.drew=y at*;clear r0 r1 r2 r3 r4 r5 r6 r7 r8 r9 ao ak ag ap ai ah b4 ab aI;obtain⟨W1,aM⟩:=ex (y.alloc (.cells #[] 3));have k1:wG y W1:=by rw [←aM];exact kAl
  have z1:W1.heap.size=y.heap.size+1:=by rw [←aM];simp
  have cv:W1.ownsRow 0 3 1 (.slice (some ⟨y.heap.size,0,none⟩) 0 0) 0 []:=by rw [←aM];exact xg y #[] 0 (yc _) (by simp [maxLen]) rfl
  have bK:wG w W1:=z.o.trans k1;have bS:=qeg cz.o (m:=m) bK.mt (zG _);have bn:=qgo (sz:=1) ic (fun _=>rfl) wC (E:=qgc) (fun b o x h j u hj=>by
   have cM:j=0:=by have:=(zA.1 hj).1;simp [ic] at this;exact this
   subst cM;simp [ic]at hj;subst hj;exact h) bS rfl
  obtain⟨vl,W2,ce,az,ck,bb⟩:=qhz (P:=prog) qnm 86 cv a l.length cc (l.flatMap ic) (qa4 _ 1 (fun _=>rfl) _) bn.1 bn.2 (qj9 _ (by simp [ic,Value.oneCell']) _) wC (yc _);rw [qnl,nil_append,zD]at az;obtain⟨al,cl,rfl⟩:=qj az;have aN: ∀g,Value.ownBlock (.slice al l.length cl)=some g->y.heap.size<=g/\g<W2.heap.size:=fun g b3=>⟨by
   rcases ck g b3 with h1 |h1
   ·simp only [Value.ownBlock,yd]at h1;omega
   ·omega,(zE az g b3).2⟩
  have cD:= @run_makeMap prog;obtain⟨M,hM⟩:=ex (W2.heap.size);obtain⟨W3,aG⟩:=ex (W2.alloc (.map #[] 0));obtain⟨L,hL⟩:=ex (W3.heap.size);obtain⟨W4,aK⟩:=ex (W3.alloc (.cells #[.slice al l.length cl,.map (some M)] 229));have k3:wG W2 W3:=by rw [←aG];exact kAl
  have k4:wG W3 W4:=by rw [←aK];exact kAl
  have z3:W3.heap.size=W2.heap.size+1:=by rw [←aG];simp
  have z4:W4.heap.size=W3.heap.size+1:=by rw [←aK];simp
  have cH:=bb.size;have aH:Keep (fun b=>b<y.heap.size) y W4:=k1.mt.trans ((bb.mono fun b _ h e=>by have:=(aN b e).1;omega).trans (k3.mt.trans k4.mt));have bU:=aH;have aY:LookAt (fun b=>if b=L then some (.lbox (qav l)) else if b=M then some (.lmap (qav l)) else if Value.ownBlock (.slice al l.length cl)=some b then some (.llist (qav l)) else none) W4 n (ts.take 0) (qav l) L l (.slice al l.length cl) M []:=by
   refine⟨a6.o,rfl,zI rfl,by rw [←aK,←hL];exact qh _ _,by rw [zF wC,zI rfl],?_,qf (qf az k3 (fun _ _=>wH)) k4 (fun _ _=>wH),fun b c=>?_,fun k=>wE,wE,fun k v cI=>(by cases cI),fun b k p c j hj=>?_⟩
   ·have:=(qh7 (P:=prog) (K:=176) (ek:=qhl) (ev:=fun v:Value=>v) W2).keep (w':=W4) (C:=fun _=>True) (by rw [aG];exact k4) trivial;rw [hM]at this;exact this
   ·have:=aN b c;rw [zF wC,zF wC,zI c]
   ·split at c
    ·cases c
    ·split at c
     ·cases c
     ·split at c<;>cases c
  have cm: ∀b T,(fun b=>if b=L then some (Tag.lbox (qav l)) else if b=M then some (.lmap (qav l)) else if Value.ownBlock (.slice al l.length cl)=some b then some (.llist (qav l)) else none) b=some T->y.heap.size<=b/\b<W4.heap.size/\qci (some T)=some (qav l):=by
   intro b T c;simp only at c;split at c
   ·cases c;exact⟨wC,wC,rfl⟩
   ·split at c
    ·cases c;exact⟨wC,wC,rfl⟩
    ·split at c
     ·rename_i e;have:=aN b e;cases c;exact⟨wC,wC,rfl⟩
     ·cases c
  have cn:=aH.heap aP.o bi;have hd4:=aj.o.keep aH (fun b T c aL=>aL);have b2:=qb hd4.box 2 _ rfl;simp only [zD]at b2;have c8:=qe hd4.box;clear k1 cv bK bS bn az ck bb aN k3 k4 aH cH z1 z3 z4 bR;refine hd7 ?_ ce bU aY cm cn hd4 a2;clear ce bU aY cm cn hd4 a2;intro aT bL bj bO cQ cU cW;go_wp2_with (at_builtin;refine qbu (v:=.slice (some ⟨y.heap.size,0,none⟩) 0 0) (u:=.slice a l.length cc) (v':=.slice al l.length cl) (w':=W2) rfl (.tmp 19) (.tmp 20) 86 rfl rfl rfl aT.o ?_);clear aM hM aG hL aK cD b2 aT
  go_loopw [29] (fun i wr=> ∃(k:Nat) (r:qcg) (mk:List (List Int×Value)),k<=ts.length/\i=.int .i64 k/\LookAt r wr n (ts.take k) (qav l) L l (.slice al l.length cl) M mk/\(∀b T,r b=some T->y.heap.size<=b/\b<wr.heap.size/\qci (some T)=some (qav l))/\Keep (fun b=>b<y.heap.size) y wr) (fun i _=>ts.length-(intOf i).toNat)
  case atStart=>exact⟨0,_,_,wC,rfl,bj.o,bO.o,bL.o⟩
  case round=>
   obtain⟨k,r,mk,hk,rfl,aB,hN,hK⟩:=hrel;have ax:=aj.o.keep hK (fun b T c aL=>aL);have c6:=qe ax.box;by_cases cd:k<ts.length
   ·obtain⟨t,ht⟩: ∃t,ts[k]?=some t:=⟨_,zB cd⟩;have cP:(k:Int)<ts.length:=by omega
    have c4:(0:Int)<=k:=wC
    have b6:ts.take (k+1)=ts.take k++ [t]:=by rw [zh,ht];rfl
    have bM:(ts.take k).length=k:=by rw [yC];omega
    refine hd7 ?_ aB hN hK ax ht b6 bM;clear aB hN hK ax ht b6 bM;intro cf bk b0 aW bN cq aR;go_wp2_with fail;refine(qsy aW.o wC k t bN.o).mono ?_;rintro e w1 ⟨vt,rfl,an,cG,b8,bJ⟩;have aC:qat w1.heap.size w1 vt t:=qqp (qeg b8 (m:=wr.heap.size) an.mt (zG _)) an.size;have aX:=cf.o.keep an (tag':=r) (fun _ _=>wH) (fun _ _=>rfl) (fun _ _=>rfl);have hj:=qvg aX (fun b T c=>zk (bk.o b T c).2.1 an.size) b7 (by rw [aR.o];omega) vt t aC bJ (aW.o.ok t (zH bN.o)) cL;rw [aR.o]at hj;clear b8 aX cG bJ;refine hd3 ?_ hj an aC;clear hj an aC;intro cK a0 cy;go_wp2_with fail;refine cK.o.mono ?_;rintro e w2 ⟨rfl,aS,m2,aD,av,bP⟩;have ct: ∀b T,aS b=some T->y.heap.size<=b/\b<w2.heap.size/\qci (some T)=some (qav l):=fun b T c=>by
     have ca:=(av.new b T c).1;rcases y7 b w1.heap.size with hb1 |hb1
     ·cases hT:r b with
      |none=>
       have:=av.old b hb1 (by rw [hT];exact fun e=>(by cases e));rw [c,hT]at this;cases this
      |some T'=>
       have h3:=bk.o b T' hT;refine⟨h3.1,ca,?_⟩;rcases av.le b T' hT with h4 |⟨c2,k2,p2,p3,rfl,h4,_⟩
       ·rw [c]at h4;cases h4;exact h3.2.2
       ·rw [c]at h4;cases h4;exact h3.2.2
     ·have h5:=(av.new b T c).2 hb1;refine⟨?_,ca,h5⟩;have:=b0.o.size;have:=a0.o.size;omega
    have cj:Keep (fun b=>b<y.heap.size) y w2:=b0.o.trans (a0.o.mt.trans (bP.mono fun b _ h=>by
     cases hT:r b with
     |none=>exact fun e=>(by cases e)
     |some T=>have:=(bk.o b T hT).1;omega))
    rw [←cq.o]at aD;clear av bP;refine hd3 ?_ aD ct cj;clear aD ct cj;intro a4 bV cp;go_wp2_with fail;go_roundw
    case rel=>exact⟨k+1,aS,m2,wC,by go_num,a4.o,bV.o,cp.o⟩
    case measure=>simp [intOf];omega
   ·obtain rfl:k=ts.length:=by omega
    rw [zi]at aB;obtain⟨We,cb⟩:=ex (wr.drew);have aE:wG wr We:=by rw [←cb];exact kDr
    have am:=ax.keep aE (fun _ _ _ _=>wH);have aO:=aB.keep aE (tag':=r) (fun _ _=>wH) (fun _ _=>rfl) (fun _ _=>rfl);have R:Keep (fun b=>b<y.heap.size) y We:=hK.trans aE.mt;have q:=R.heap aP.o bi;have r0:=qb q 0 _ rfl;have r1:=qb q 1 _ rfl;have r2:=qb q 2 _ rfl;have r3:=qb q 3 _ rfl;have r4:=qb q 4 _ rfl;have r5:=qb q 5 _ rfl;have r6:=qb q 6 _ rfl;have r7:=qb q 7 _ rfl;have r8:=qb q 8 _ rfl;have r9:=qb q 9 _ rfl;have ao:=qb q 10 _ rfl;have ak:=qb q 11 _ rfl;have ag:=qb q 12 _ rfl;have ap:=qb q 13 _ rfl;have ai:=qb q 14 _ rfl;have ah:=qb q 15 _ rfl;have b4:=qb am.box 4 _ rfl;simp only [zD]at b4 r0 r1 r2 r3 r4 r5 r6 r7 r8 r9 ao ak ag ap ai ah;obtain⟨W6,b1,ch,Y,cA⟩:=qi0 (P:=prog) Tryz.underlying169 qrw.law qve am.kmap (qav l) bd.o L;rw [ci.o]at b1;obtain⟨cg,a1⟩:=q5x am aO (fun b T c=>⟨by
     cases hT:tag b with
     |none=>rfl
     |some T'=>have:=aj.o.lt b T' hT;have:=(hN b T c).1;omega,by have:=(hN b T c).2.1;have:=aE.size;omega,(hN b T c).2.2⟩) aU.o ch Y (fun b T c e=>by
      obtain⟨L',h1⟩:=am.ents b (qav l) (by rw [c];exact e);exact aU.o (yL.2 ⟨_,h1,rfl⟩))
    have aw:TagNew tag (fun b=>match r b with |some T=>some T |none=>tag b) w:=fun b T c=>by
     cases hT:r b with
     |none=>simp only [hT] at c;exact .inl ⟨T,c⟩
     |some T'=>have:=(hN b T' hT).1;exact .inr wC
    have cu:Keep (fun b=>tag b=none) w W6:=by
     refine⟨Y.os.trans (R.os.trans z.o.os),Y.tape.trans (R.tape.trans z.o.tape),Y.output.trans (R.output.trans z.o.output),?_,fun b c hC=>?_⟩
     ·have:=Y.size;have:=R.size;omega
     ·rw [Y.block b (by have:=R.size;omega) (fun e=>by rw [e,aj.o.tagK]at hC;cases hC),R.block b wC wC];exact z.o.block b c trivial
    have dc:=qe am.box;have cY:=qe q;clear am aO R q ch Y cA hN aB hK ax aE;refine hd4 ?_ cg a1 aw cu;clear cg a1 aw cu;intro b5 bm aJ bW;subst cb;go_wp2_with fail
    go_region
    clear r0 r1 r2 r3 r4 r5 r6 r7 r8 r9 ao ak ag ap ai ah b4 b1;go_wp2_with fail;go_ret;exact⟨L,_,_,rfl,bW.o,b5.o,wE,bm.o,aJ.o,fun p hp=>xf _ hp⟩
theorem qsz {P:Program}{ops:Array Oper}{Q:Exit->Act->World->Prop}{md:Region.Mode}{S S':World->Prop}{late:List Nat}(hS: ∀w,S' w->S w): ∀(fuel:Nat) (listed:Array Bool) (a:Act) (w:World),qc6 P md ops Q S' late fuel listed a w->qc6 P md ops Q S late fuel listed a w
 |0,_,_,_,h=>h
 |fuel+1,_,_,_,h=>⟨h.1,fun i hi=>wpOp_mono (fun a' w' h'=>⟨fun hl=>hS _ (h'.1 hl),qsz hS fuel _ a' w' h'.2⟩) (h.2 i hi)⟩
def qvk (tag:qcg)(w:World)(ts:List (List Int))(cols key:List Int)(v:Value):Prop:=
 w.ownsRow 0 3 1 v (idx ts cols (qbc key)).length ((idx ts cols (qbc key)).map qip)/\ ∀b,v.ownBlock=some b->tag b=some (.ent (qav cols) (qbc key) (idx ts cols (qbc key)).length)
theorem q7y {tag:qcg}{w:World}{n:Nat}{ts:List (List Int)}{c:List Bool}{L M:Nat}{l:List Int}{b:Value}{m:List (List Int×Value)}(h:LookAt tag w n ts c L l b M m){k:List Int}(d:k∉m.map (·.1)):idx ts l k= []:=by
 refine filter_eq_nil_iff.2 fun i hi=>?_;rw [yk]at hi;simp only [zT];intro e;refine d ((h.keys _).2 ⟨ts.getD i [],?_,e⟩);rw [zJ,zB hi];exact xG hi
theorem qs0 {n:Nat}{l u:List Int}(h:qd8 n l=true)(h':qd8 n u=true)(hn:n<=16)(hm:qav l=qav u):l=u:=by
 have q: ∀x:Int,0<=x->x<16->(x∈l↔x∈u):=fun x h0 p=>by
  have:=yO (fun m=>m[x.toNat]?) hm;simp only [qav,zP]at this;rw [xu wC]at this;have r:((x.toNat:Nat):Int)=x:=wC
  simpa [r]using this
 have s: ∀x:Int,x∈l↔x∈u:=fun x=>by
  constructor
  ·intro r;have:=qof h x r;exact(q x this.1 wC).1 r
  ·intro r;have:=qof h' x r;exact(q x this.1 wC).2 r
 have hs: ∀{l:List Int},qd8 n l=true->l.Pairwise (· < ·):=fun {l} h=>by
  rw [pairwise_iff_getElem];have g: ∀i,(hi:i+1<l.length)->l[i]<l[i+1]:=fun i hi=>by
   have:=yM.1 h (i+1) (by simpa using hi);simp only [qif,zV,zT,ya,xE]at this;have t:=this.2.resolve_left wC;rw [Nat.add_sub_cancel,zJ,zJ,zB hi,zB wC]at t;exact t
  have v: ∀d i,(hi:i+d+1<l.length)->l[i]<l[i+d+1]:=fun d=>by
   induction d with
   |zero=>exact fun i hi=>g i hi
   |succ d ih=>exact fun i hi=>Int.lt_trans (ih i wC) (g (i+d+1) hi)
  intro i j hi hj ad;have:=v (j-i-1) i wC;have e:i+(j-i-1)+1=j:=wC
  simpa only [e]using this
 have go: ∀(a b:List Int),a.Pairwise (· < ·)->b.Pairwise (· < ·)->(∀x,x∈a↔x∈b)->a=b:=fun a=>by
  induction a with
  |nil=>
   intro b _ _ c;cases b with
   |nil=>rfl
   |cons y b=>exact absurd ((c y).2 wE) wE
  |cons x a ih=>
   intro b U X c;cases b with
   |nil=>exact absurd ((c x).1 wE) wE
   |cons y b=>
    rw [pairwise_cons]at U X;have Y:x=y:=by
     rcases zw.1 ((c x).1 wE) with p |p
     ·exact p
     ·rcases zw.1 ((c y).2 wE) with t |t
      ·exact t.symm
      ·have:=U.1 y t;have:=X.1 x p;omega
    subst Y;rw [ih b U.2 X.2 (fun z=>by
     constructor
     ·intro R;rcases zw.1 ((c z).1 (by simp [R])) with p |p
      ·have:=U.1 z R;omega
      ·exact p
     ·intro R;rcases zw.1 ((c z).2 (by simp [R])) with p |p
      ·have:=X.1 z R;omega
      ·exact p)]
 exact go l u (hs h) (hs h') s
theorem q3g {tag:qcg}{w:World}{B n:Nat}{ts:List (List Int)}{vD:Value}{P K:Nat}{lm:List (List Bool×Nat)}(h:qcl tag w B n ts vD P K lm)(hl:ts.length<=134217728)(m:Nat)(vc vk:Value)(c key:List Int)(hs:qat m w vc c)(aY:qat m w vk key)(hm:m<=w.heap.size)
  (bz:okT key) (bL:qq3 tag vk):
  Calls prog 153 #[.pointer (some ⟨B,0,none⟩),vc,vk] w fun e w'=> ∃v tag' lm',e=.returned (.tuple #[v,.bool (qd8 n c&&decide (key.length=c.length))])/\
   Keep (fun b=>tag b=none) w w'/\qcl tag' w' B n ts vD P K lm'/\TagLe tag tag'/\TagNew tag tag' w/\(∀p,p∈lm->p∈lm')/\
   (qd8 n c=true->key.length=c.length->qvk tag' w' ts c key v/\ ∃L,(qav c,L)∈lm')/\((qd8 n c&&decide (key.length=c.length))=false->v=.slice none 0 0):=by
 obtain⟨a,cc,rfl,ap,db,bk⟩:=id hs;obtain⟨ak,ck,rfl,cO,cV,aT⟩:=id aY;have hB:=qe h.box;have aO:=h.n16;refine hd7 ?_ h hs bk aY aT bz bL;clear h hs bk aY aT bz bL;intro Xh bs cY bt ci b5 b1
 go_enter Tryz.func153,Tryz.ntmps153
 go_wp2_with fail;refine(ql6 Xh.o.box).mono ?_;rintro e w1 ⟨rfl,ba⟩;have ba:=ba.symm;subst ba;by_cases x:key.length=c.length
 ·have b9:((key.length:Int) !=c.length)=false:=by simp [x]
  have hd:decide (key.length=c.length)=true:=zS x;refine hd2 ?_ x hd;clear x hd;intro Y aC;go_wp2_with fail;refine(q7x Xh.o.box aO m _ c bs.o hm).mono ?_;rintro e W1 ⟨rfl,bc⟩;obtain⟨k0,k1,k2,k3,U,z,k6,k7,k8,k9,q,s,g,r,u,t,aU⟩: ∃k0 k1 k2 k3 U z k6 k7 k8 k9 q s g r u t,qkg n c= [k0,k1,k2,k3,U,z,k6,k7,k8,k9,q,s,g,r,u,t]:=by
   have x:(qkg n c).length=16:=by unfold qkg;split<;>exact qkf _
   match h:qkg n c,x with
   | [k0,k1,k2,k3,U,z,k6,k7,k8,k9,q,s,g,r,u,t],_=>exact⟨k0,k1,k2,k3,U,z,k6,k7,k8,k9,q,s,g,r,u,t,rfl⟩
  have a8:qio (qkg n c)=.agg #[.bool k0,.bool k1,.bool k2,.bool k3,.bool U,.bool z,.bool k6,.bool k7,.bool k8,.bool k9,.bool q,.bool s,.bool g,.bool r,.bool u,.bool t]:=by rw [aU];rfl
  rw [a8];obtain⟨W0,aF⟩:=ex (W1.alloc (.cells #[.bool false,.bool false,.bool false,.bool false,.bool false,.bool false,.bool false,.bool false,.bool false,.bool false,.bool false,.bool false,.bool false,.bool false,.bool false,.bool false] 179));obtain⟨d,aH⟩:=ex (W1.heap.size);have n1:W0.heap[d]?=some (.cells #[.bool false,.bool false,.bool false,.bool false,.bool false,.bool false,.bool false,.bool false,.bool false,.bool false,.bool false,.bool false,.bool false,.bool false,.bool false,.bool false] 179 (0,0)):=by rw [←aF,←aH];exact qh _ _
  have b2:Keep (fun b=>b<w.heap.size) w W0:=by rw [←aF];exact bc.trans kAl
  have s0:d<W0.heap.size:=qe n1;have c7:w.heap.size<=d:=by rw [←aH];exact bc.size
  have z0:=qb n1 0 _ rfl;have f0:=qg n1 0;have z1:=qb n1 1 _ rfl;have f1:=qg n1 1;have z2:=qb n1 2 _ rfl;have f2:=qg n1 2;have z3:=qb n1 3 _ rfl;have f3:=qg n1 3;have z4:=qb n1 4 _ rfl;have f4:=qg n1 4;have z5:=qb n1 5 _ rfl;have f5:=qg n1 5;have z6:=qb n1 6 _ rfl;have f6:=qg n1 6;have z7:=qb n1 7 _ rfl;have f7:=qg n1 7;have z8:=qb n1 8 _ rfl;have f8:=qg n1 8;have z9:=qb n1 9 _ rfl;have f9:=qg n1 9;have a0:=qb n1 10 _ rfl;have bw:=qg n1 10;have a1:=qb n1 11 _ rfl;have bx:=qg n1 11;have aX:=qb n1 12 _ rfl;have b3:=qg n1 12;have a6:=qb n1 13 _ rfl;have bV:=qg n1 13;have bd:=qb n1 14 _ rfl;have bD:=qg n1 14;have aW:=qb n1 15 _ rfl;have bO:=qg n1 15;simp only [zD]at z0 z1 z2 z3 z4 z5 z6 z7 z8 z9 a0 a1 aX a6 bd aW;obtain⟨rd,a5⟩:=ex (qd8 n c);rw [a5];clear bc aU;refine hd4 ?_ n1 b2 a8 a5;clear n1 b2 a8 a5;intro aZ al bK y;cases rd with
  |false=>
   go_wp2_with fail;refine qiv (fun W=>Keep (fun k=>k<w.heap.size) w W) (w:=qhg d [.bool k0,.bool k1,.bool k2,.bool k3,.bool U,.bool z,.bool k6,.bool k7,.bool k8,.bool k9,.bool q,.bool s,.bool g,.bool r,.bool u,.bool t] 0 W0) (al.o.trans ((qfh _ _ _ _).mono (fun b _ h=>wC))) ?_;clear z0 z1 z2 z3 z4 z5 z6 z7 z8 z9 a0 a1 aX a6 bd aW f0 f1 f2 f3 f4 f5 f6 f7 f8 f9 bw bx b3 bV bD bO aZ al s0 aH aF;rintro W3 an;have hT:=Xh.o.keep an (fun b T hb ap=>ap);refine hd2 ?_ an hT;clear an hT;intro bI co
   go_ret2
   exact⟨.slice none 0 0,tag,lm,by rw [y.o];rfl,bI.o.mono (fun b hb _=>hb),co.o,TagLe.refl _,TagNew.refl _ _,fun _ h=>h,fun h=>(by rw [y.o] at h;cases h),fun _=>rfl⟩
  |true=>
   go_wp2_with fail;refine q0e (fun W=>W.heap[d]?=some (.cells #[.bool k0,.bool k1,.bool k2,.bool k3,.bool U,.bool z,.bool k6,.bool k7,.bool k8,.bool k9,.bool q,.bool s,.bool g,.bool r,.bool u,.bool t] 179 (0,0))/\Keep (fun k=>k<w.heap.size) w W) (w:=qhg d [.bool k0,.bool k1,.bool k2,.bool k3,.bool U,.bool z,.bool k6,.bool k7,.bool k8,.bool k9,.bool q,.bool s,.bool g,.bool r,.bool u,.bool t] 0 W0) ⟨qhh [.bool k0,.bool k1,.bool k2,.bool k3,.bool U,.bool z,.bool k6,.bool k7,.bool k8,.bool k9,.bool q,.bool s,.bool g,.bool r,.bool u,.bool t] aZ.o rfl,al.o.trans ((qfh _ _ _ _).mono (fun b _ h=>wC))⟩ ?_;clear z0 z1 z2 z3 z4 z5 z6 z7 z8 z9 a0 a1 aX a6 bd aW f0 f1 f2 f3 f4 f5 f6 f7 f8 f9 bw bx b3 bV bD bO aZ al s0 aH aF;rintro W3 ⟨hq,an⟩;have bi:qio (qav c)=.agg #[.bool k0,.bool k1,.bool k2,.bool k3,.bool U,.bool z,.bool k6,.bool k7,.bool k8,.bool k9,.bool q,.bool s,.bool g,.bool r,.bool u,.bool t]:=by
    have:=bK.o;unfold qkg at this;rw [y.o,zI rfl]at this;exact this
   obtain⟨Wd,bf⟩:=ex (W3.drew);have az:Keep (fun k=>k<w.heap.size) w Wd:=by rw [←bf];exact an.trans kDr
   have aE:Wd.heap[d]?=some (.cells #[.bool k0,.bool k1,.bool k2,.bool k3,.bool U,.bool z,.bool k6,.bool k7,.bool k8,.bool k9,.bool q,.bool s,.bool g,.bool r,.bool u,.bool t] 179 (0,0)):=by rw [←bf];exact hq
   have hT:=Xh.o.keep az (fun b T hb ap=>ap);have bQ:=qeg bs.o (m:=m) (az.mono fun _ _ h=>wC) (zG _);have a4:=q81 hT hl m _ c bQ (by have:=az.size;omega) y.o;rw [bi]at a4;have br:tag d=none:=by
    cases aA:tag d with
    |none=>rfl
    |some T=>have:=Xh.o.lt d T aA;omega
   have c4:=qe hT.box;have cW:=qe aE;have aq: ∀W:World,W.heap[d]?=some (.cells #[.bool k0,.bool k1,.bool k2,.bool k3,.bool U,.bool z,.bool k6,.bool k7,.bool k8,.bool k9,.bool q,.bool s,.bool g,.bool r,.bool u,.bool t] 179 (0,0))->W.cell? ⟨d,0,none⟩=some (.bool k0)/\W.cell? ⟨d,1,none⟩=some (.bool k1)/\W.cell? ⟨d,2,none⟩=some (.bool k2)/\W.cell? ⟨d,3,none⟩=some (.bool k3)/\W.cell? ⟨d,4,none⟩=some (.bool U)/\W.cell? ⟨d,5,none⟩=some (.bool z)/\W.cell? ⟨d,6,none⟩=some (.bool k6)/\W.cell? ⟨d,7,none⟩=some (.bool k7)/\W.cell? ⟨d,8,none⟩=some (.bool k8)/\W.cell? ⟨d,9,none⟩=some (.bool k9)/\W.cell? ⟨d,10,none⟩=some (.bool q)/\W.cell? ⟨d,11,none⟩=some (.bool s)/\W.cell? ⟨d,12,none⟩=some (.bool g)/\W.cell? ⟨d,13,none⟩=some (.bool r)/\W.cell? ⟨d,14,none⟩=some (.bool u)/\W.cell? ⟨d,15,none⟩=some (.bool t):=fun W hW=>by
    refine⟨?_,?_,?_,?_,?_,?_,?_,?_,?_,?_,?_,?_,?_,?_,?_,?_⟩<;>simp [World.cell?,hW]
   have bj:=aq Wd aE;clear an hq hT bQ bi;refine hd6 ?_ az aE a4 br aq bj;clear az aE a4 br aq bj;intro aK bl bq bF au bn;subst bf;refine qa5 rfl (fun W=>W.cell? ⟨d,0,none⟩=some (.bool k0)/\W.cell? ⟨d,1,none⟩=some (.bool k1)/\W.cell? ⟨d,2,none⟩=some (.bool k2)/\W.cell? ⟨d,3,none⟩=some (.bool k3)/\W.cell? ⟨d,4,none⟩=some (.bool U)/\W.cell? ⟨d,5,none⟩=some (.bool z)/\W.cell? ⟨d,6,none⟩=some (.bool k6)/\W.cell? ⟨d,7,none⟩=some (.bool k7)/\W.cell? ⟨d,8,none⟩=some (.bool k8)/\W.cell? ⟨d,9,none⟩=some (.bool k9)/\W.cell? ⟨d,10,none⟩=some (.bool q)/\W.cell? ⟨d,11,none⟩=some (.bool s)/\W.cell? ⟨d,12,none⟩=some (.bool g)/\W.cell? ⟨d,13,none⟩=some (.bool r)/\W.cell? ⟨d,14,none⟩=some (.bool u)/\W.cell? ⟨d,15,none⟩=some (.bool t)) [10,11] ?_;refine qy [0,1,2,7] ?_
   iterate 4
    refine tkN (v:=?_) rfl bn.o ?_ ?_;rotate_left
    ·rintro Wq ⟨x0,x1,x2,x3,x4,x5,x6,x7,x8,x9,cq,cp,cj,cd,cb,cf⟩;go_simp
     try with_reducible rfl
    try simp only [qz]
   refine qm ?_;refine ho 3 rfl fun K b0=>?_;go_wp2_with fail;refine bq.o.mono ?_;rintro e W4 ⟨L,X,cy,rfl,U,aV,aw,aL,av,aN⟩;obtain⟨l,vl,M,mm,ao⟩:=aV.looks _ L aw;have cx:l=c:=qs0 ao.row y.o aO ao.mask;subst cx;have a9:=U.heap bl.o bF.o;have e1:W4.cell? ⟨L,1,none⟩=some (.map (some M)):=by have:=qb ao.box 1 _ rfl;simpa using this
   have di:=qe ao.box;have aG:Keep (fun b=>tag b=none/\b<w.heap.size) w W4:=(aK.o.mono fun _ _ h=>h.2).trans (U.mono fun _ _ h=>h.1);have aR:=qnz bt.o b1.o aG (fun b hb dg=>⟨hb,wC⟩);have ar:key.length<=16:=by have:=qpv y.o;have:=Y.o;omega
   have aP:=au.o W4 a9;have b4:=And.intro aP e1;have cC:m<=W4.heap.size:=by have:=aG.size;omega
   clear aP e1;refine qhu ?_ U aV aw aL av aN ao a9 aG aR b4;clear U aV aw aL av aN ao a9 aG aR b4;intro df aS a2 bb aD a7 bJ aM aJ a3 aQ;go_wp2_with fail;refine b0.o _ _ (fun _=>aQ.o.1) ?_;refine qsz (S':=fun W=>(W.cell? ⟨d,0,none⟩=some (.bool k0)/\W.cell? ⟨d,1,none⟩=some (.bool k1)/\W.cell? ⟨d,2,none⟩=some (.bool k2)/\W.cell? ⟨d,3,none⟩=some (.bool k3)/\W.cell? ⟨d,4,none⟩=some (.bool U)/\W.cell? ⟨d,5,none⟩=some (.bool z)/\W.cell? ⟨d,6,none⟩=some (.bool k6)/\W.cell? ⟨d,7,none⟩=some (.bool k7)/\W.cell? ⟨d,8,none⟩=some (.bool k8)/\W.cell? ⟨d,9,none⟩=some (.bool k9)/\W.cell? ⟨d,10,none⟩=some (.bool q)/\W.cell? ⟨d,11,none⟩=some (.bool s)/\W.cell? ⟨d,12,none⟩=some (.bool g)/\W.cell? ⟨d,13,none⟩=some (.bool r)/\W.cell? ⟨d,14,none⟩=some (.bool u)/\W.cell? ⟨d,15,none⟩=some (.bool t))/\W.cell? ⟨L,1,none⟩=some (.map (some M))) (fun _ h=>h.1) _ _ _ _ ?_;refine qy [4,5,6] ?_
   iterate 3
    refine tkN (v:=?_) rfl aQ.o ?_ ?_;rotate_left
    ·rintro Wq ⟨⟨x0,x1,x2,x3,x4,x5,x6,x7,x8,x9,cq,cp,cj,cd,cb,cf⟩,y0⟩;go_simp
     try with_reducible rfl
    try simp only [qz]
   refine qm ?_;refine ho 8 rfl fun K bR=>?_;go_wp2_with fail;refine(qny m _ key W4 a3.o cC ar).mono ?_;rintro e W5 ⟨rfl,z⟩;have bv:=aS.o.keep z (fun b T hb ap=>ap);have am:=bJ.o.keep z (tag':=X) (fun b hb=>by
    cases aA:X b with
    |none=>rw [aA] at hb;cases hb
    |some T=>exact aS.o.lt b T aA) (fun _ _=>rfl) (fun _ _=>rfl)
   have bM:=z.heap aM.o (qe aM.o);have e5:W5.cell? ⟨L,1,none⟩=some (.map (some M)):=by have:=qb am.box 1 _ rfl;simpa using this
   have bG:=And.intro (au.o W5 bM) e5;have bm:Keep (fun b=>tag b=none) w W5:=(aJ.o.trans (z.mono fun b hb h=>by have:=aJ.o.size;omega)).mono (fun b hb h=>⟨h,hb⟩);have cu:=qq1 (qh4 ar) (qok b5.o);have bH:=qef (P:=prog) Tryz.underlying227 qlk.law qkd qvf am.map (qbc key) cu false;have ax:TagNew tag X w:=TagNew.trans (TagNew.refl _ _) aD.o aK.o.size;clear e5 bM z;refine hd5 ?_ bG bm bv am ax;clear bG bm bv am ax;intro aI bo bu ay aB;go_wp2_with fail;refine bR.o _ _ (fun _=>aI.o) ?_;obtain⟨vr,bU,hF⟩: ∃vr,(match qdj mm (qbc key) with |some v=>v |none=>Value.slice none 0 0)=vr/\qvk X W5 ts l key vr:=by
    cases R:qdj mm (qbc key) with
    |some v=>
     refine⟨v,rfl,ay.o.ents (qbc key) v ?_⟩;unfold qdj at R;cases hf:mm.find? (fun p=>decide (p.1=qbc key)) with
     |none=>rw [hf] at R;cases R
     |some p=>
      rw [hf]at R;have h1:=find?_some hf;have h2:=xd hf;simp only [zT]at h1;cases R;rw [←h1];exact h2
    |none=>
     have cn:qbc key∉mm.map (·.1):=fun cr=>by
      obtain⟨p,hp,he⟩:=yL.1 cr;have:=yp.1 (Option.map_eq_none_iff.1 R) p hp;simp [he]at this
     refine⟨_,rfl,?_⟩;unfold qvk;rw [q7y ay.o cn];exact⟨zj _ _ _ _,fun b hb=>by simp [Value.ownBlock] at hb⟩
   have cU:(Instr.lookup 227 (.map (some M)) (qhl (qbc key)) false).run prog W5=.ok vr W5:=by
    rw [bH,←bU];cases qdj mm (qbc key)<;>rfl
   clear bH bU;refine hd1 ?_ hF;clear hF;intro cz;refine ho 9 rfl fun K bS=>?_;go_wp2_with fail;refine bS.o _ _ (fun _=>aI.o) ?_;refine ho 10 rfl fun K bN=>?_;go_wp2_with fail;refine bN.o _ _ (fun h=>by simp at h) ?_;refine ho 11 rfl fun K bp=>?_;go_wp2_with fail;refine bp.o _ _ (fun h=>by simp at h) ?_;refine qbh wD ?_;go_wp2_with fail
   go_ret2
   exact⟨vr,X,cy,by rw [y.o,aC.o];rfl,bo.o,bu.o,bb.o,aB.o,a7.o,fun _ _=>⟨cz.o,L,a2.o⟩,fun h=>by rw [y.o,aC.o] at h;cases h⟩
 ·have b9:((key.length:Int) !=c.length)=true:=by simp;omega
  have hd:decide (key.length=c.length)=false:=zM x;refine hd2 ?_ x hd;clear x hd;intro Y aC;go_wp2_with fail
  go_ret2
  exact⟨.slice none 0 0,tag,lm,by rw [aC.o,yP];rfl,Keep.refl _ _,Xh.o,TagLe.refl _,TagNew.refl _ _,fun _ h=>h,fun _ h=>absurd h Y.o,fun _=>rfl⟩
structure qe4 where
 tag:qcg
 ts:List (List Int)
 vD:Value
 lm:List (List Bool×Nat)
structure RelInv (B n P K:Nat)(s:qe4)(w:World):Prop where
 own:qcl s.tag w B n s.ts s.vD P K s.lm
 few:s.ts.length<=67108864
structure qtu (B n P K:Nat)(s:qe4)(X:World)(s':qe4)(Y:World):Prop where
 keep:Keep (fun b=>s.tag b=none) X Y
 same:s'.ts=s.ts
 le:TagLe s.tag s'.tag
 new:TagNew s.tag s'.tag X
 sub: ∀p,p∈s.lm->p∈s'.lm
 inv:RelInv B n P K s' Y
structure RelBd (s:qe4)(m:Nat)(s':qe4):Prop where
 more: ∃us,s'.ts=s.ts++us
 le:TagLe s.tag s'.tag
 new: ∀b T,s'.tag b=some T->(∃T',s.tag b=some T')∨m<=b
 sub: ∀p,p∈s.lm->p∈s'.lm
theorem RelBd.refl (s:qe4)(m:Nat):RelBd s m s:=⟨⟨[],wE⟩,TagLe.refl _,fun b T h=>.inl ⟨T,h⟩,fun _ h=>h⟩
theorem RelBd.mono {s d:qe4}{m c:Nat}(h:RelBd s m d)(g:c<=m):RelBd s c d:=⟨h.more,h.le,fun b T e=>(h.new b T e).imp id (fun h=>wC),h.sub⟩
theorem RelBd.trans {s e c:qe4}{m d:Nat}(h:RelBd s m e)(g:RelBd e d c)(x:m<=d):RelBd s m c:=by
 obtain⟨u,r⟩:=h.more;obtain⟨v,t⟩:=g.more;refine⟨⟨u++v,by rw [t,r,yu]⟩,h.le.trans g.le,fun b T q=>?_,fun p l=>g.sub p (h.sub p l)⟩;rcases g.new b T q with ⟨T',h1⟩ |h1
 ·exact h.new b T' h1
 ·exact .inr wC
theorem RelInv.keep {B n P K:Nat}{s:qe4}{X Y:World}(h:RelInv B n P K s X)(hK:Keep (fun b=> ¬s.tag b=none) X Y):RelInv B n P K s Y:=⟨h.own.keep hK (fun b T c _ e=>by rw [c] at e;cases e),h.few⟩
theorem q0g {B n P K:Nat}{s:qe4}{X Y:World}(h:RelInv B n P K s X)(hK:wG X Y):qtu B n P K s X s Y:=⟨hK.mt,rfl,TagLe.refl _,TagNew.refl _ _,fun _ h=>h,h.keep hK.mt⟩
def qfi (B n P K:Nat):qgm qe4 where
 inv:=RelInv B n P K
 free s b:=s.tag b=none
 istep:=qtu B n P K
 bstep:=RelBd
 ifree h:=h.keep
 inew:=fun {s X s' Y} h b hb hf=>by
  cases hT:s'.tag b with
  |none=>rfl
  |some T=>
   rcases h.new b T hT with ⟨T',h1⟩ |h1
   ·rw [hf]at h1;cases h1
   ·omega
 bnew:=fun {s m s'} h b hb hf=>by
  cases hT:s'.tag b with
  |none=>rfl
  |some T=>
   rcases h.new b T hT with ⟨T',h1⟩ |h1
   ·rw [hf]at h1;cases h1
   ·omega
 bmono hm h:=h.mono hm
 invk h hK:=h.keep hK
def q9e (i:Nat)(t:List Int)(m:Nat)(X:World)(args:Array Value):Prop:=
 ∃v,args= #[.int .i64 (i:Int),v]/\X.ownsRow m 3 1 v t.length (t.map (.int .i64))/\t.length<=1073741824
end Go.Proofs.R4
