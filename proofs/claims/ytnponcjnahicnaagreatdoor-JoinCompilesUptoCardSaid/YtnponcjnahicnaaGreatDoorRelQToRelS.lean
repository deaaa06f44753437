/- Parts of the proof. -/
import Derived.Test.YtnponcjnahicnaaGreatDoorRelOToRelP
set_option linter.unusedSimpArgs false
set_option linter.unusedVariables false
set_option maxRecDepth 100000
set_option maxHeartbeats 4000000
open Go.Proofs.Tryz(prog)
open List(filter_eq_nil_iff find?_some nil_append pairwise_cons pairwise_iff_getElem)
namespace Go.Proofs.R4
open Go.RowKit Go.Ink
attribute [local go_sem] Oper.semAt_some
theorem qz7: ∀w:World,(zeroValue 218).run prog w=.ok (.pointer none) w:=fun w=>wA
theorem q2j {tag d:qbu}{s z:World}{B n:Nat}{ts:List (List Int)}{vD:Value}{P K:Nat}{lm:List (List Bool×Nat)}(h:qb5 tag s B n ts vD P K lm){c:List Bool}{L:Nat}{l:List Int}{U:Value}{M:Nat}{m:List (List Int×Value)}
  (hl:LookAt d s n ts c L l U M m) (q: ∀b T,d b=some T->tag b=none/\b<s.heap.size/\qbw (some T)=some c) (R:c∉lm.map (·.1)) (hm:qvy z K (setK lm c L)) (k:Keep (fun b=>b≠K) s z) (hold: ∀b T,tag b=some T->qbw (some T)≠some c):
  qb5 (fun b=>match d b with |some T=>some T |none=>tag b) z B n ts vD P K (lm++ [(c,L)])/\TagLe tag (fun b=>match d b with |some T=>some T |none=>tag b):=by
 have hz:=k.size;have u: ∀b T,tag b=some T->d b=none:=fun b T f=>by
  cases hT:d b with
  |none=>rfl
  |some T'=>have:=(q b T' hT).1;rw [f] at this;cases this
 have g: ∀b T,tag b=some T->(fun b=>match d b with |some T=>some T |none=>tag b) b=some T:=fun b T f=>by simp only [u b T f];exact f
 have j: ∀b T,tag b=some T->T≠.kmap->b≠K:=fun b T f hT e=>hT (by rw [e,h.tagK] at f;cases f;rfl);refine⟨⟨g B _ h.tagB,k.heap h.box (j B _ h.tagB (fun e=>(by cases e))),h.n16,h.nodup,h.right,h.ok,qf h.own k (fun b f=>j b _ (h.tagD b f) (fun e=>(by cases e))),fun b f=>g b _ (h.tagD b f),g P _ h.tagP,h.pmap.keep k (j P _ h.tagP (fun e=>(by cases e))),g K _ h.tagK,?_,?_,?_,?_⟩,fun b T f=>.inl (g b T f)⟩
 ·have:setK lm c L=lm++ [(c,L)]:=by unfold setK;rw [zF R]
  rw [←this];exact hm
 ·intro p t i;rcases zn.1 i with i |i
  ·obtain⟨l',y,X,m',v⟩:=h.looks p t i;have x:p≠c:=fun e=>R (e▸yK.2 ⟨_,i,rfl⟩);refine⟨l',y,X,m',v.keep k (fun b f e=>?_) (fun b f=>?_) (fun b f=>?_)⟩
   ·subst e;rw [h.tagK] at f;cases f
   ·cases hT:tag b with
    |none=>rw [hT] at f;cases f
    |some T=>rw [←hT];exact(g b T hT).trans hT.symm
   ·cases hT:d b with
    |none=>simp only [hT]
    |some T=>
     simp only [hT]at f;exact absurd ((yH (f.symm.trans (q b T hT).2.2))) x
  ·simp only [zl,Prod.mk.injEq]at i;obtain⟨rfl,rfl⟩:=i;refine⟨l,U,M,m,hl.keep k (fun b f e=>?_) (fun b f=>?_) (fun b f=>?_)⟩
   ·subst e;cases hT:d b with
    |none=>rw [hT] at f;cases f
    |some T=>have:=(q b T hT).1;rw [h.tagK] at this;cases this
   ·cases hT:d b with
    |none=>rw [hT] at f;cases f
    |some T=>simp only [hT]
   ·cases hT:d b with
    |none=>
     simp only [hT]at f⊢;cases r:tag b with
     |none=>rfl
     |some T2=>rw [r] at f;exact absurd f (hold b T2 r)
    |some T=>simp only [hT]
 ·intro b p f;cases hT:d b with
  |none=>
   simp only [hT]at f;obtain⟨t,Y⟩:=h.ents b p f;exact⟨t,xd _ Y⟩
  |some T=>
   simp only [hT]at f;have e:p=c:=yH (f.symm.trans (q b T hT).2.2);exact⟨L,by rw [e];simp⟩
 ·intro b T f;cases hT:d b with
  |none=>simp only [hT] at f;have:=h.lt b T f;omega
  |some T'=>have:=(q b T' hT).2.1;omega
theorem q5m {tag:qbu}{w:World}{B n:Nat}{ts:List (List Int)}{vD:Value}{P K:Nat}{lm:List (List Bool×Nat)}(h:qb5 tag w B n ts vD P K lm)(hl:ts.length<=134217728)(m:Nat)(v:Value)(l:List Int)(hs:qan m w v l)(hm:m<=w.heap.size)(az:qdf n l=true):
  Calls prog 227 #[.pointer (some ⟨B,0,none⟩),qhx (qap l),v] w fun e w'=> ∃L tag' lm',e=.returned (.pointer (some ⟨L,0,none⟩))/\
   Keep (fun b=>tag b=none) w w'/\qb5 tag' w' B n ts vD P K lm'/\(qap l,L)∈lm'/\TagLe tag tag'/\TagNew tag tag' w/\ ∀p,p∈lm->p∈lm':=by
 obtain⟨a,cc,rfl,aL,dc,ca⟩:=id hs;have hB:=qe h.box;have cj:=h.n16;have cF:l.length<=16:=by have:=qn3 az;omega
 have av:=q5l (qjh l);obtain⟨k0,k1,k2,k3,k4,k5,k6,k7,k8,k9,U,X,Y,aa,ab,ad,aY⟩: ∃k0 k1 k2 k3 k4 k5 k6 k7 k8 k9 U X Y aa ab ad,qap l= [k0,k1,k2,k3,k4,k5,k6,k7,k8,k9,U,X,Y,aa,ab,ad]:=by
  have cg:=qjh l
  match h:qap l,cg with
  | [k0,k1,k2,k3,k4,k5,k6,k7,k8,k9,U,X,Y,aa,ab,ad],_=>exact⟨k0,k1,k2,k3,k4,k5,k6,k7,k8,k9,U,X,Y,aa,ab,ad,rfl⟩
 have bf:qhx (qap l)=.agg #[.bool k0,.bool k1,.bool k2,.bool k3,.bool k4,.bool k5,.bool k6,.bool k7,.bool k8,.bool k9,.bool U,.bool X,.bool Y,.bool aa,.bool ab,.bool ad]:=by rw [aY];rfl
 obtain⟨Wb,aJ⟩:=ex (w.alloc (.cells #[.bool k0,.bool k1,.bool k2,.bool k3,.bool k4,.bool k5,.bool k6,.bool k7,.bool k8,.bool k9,.bool U,.bool X,.bool Y,.bool aa,.bool ab,.bool ad] 217));obtain⟨s,au⟩:=ex (Wb.drew);have bq:wD w s:=by rw [←au,←aJ];exact kAl.trans kDr
 have d:s.heap[w.heap.size]?=some (.cells #[.bool k0,.bool k1,.bool k2,.bool k3,.bool k4,.bool k5,.bool k6,.bool k7,.bool k8,.bool k9,.bool U,.bool X,.bool Y,.bool aa,.bool ab,.bool ad] 217 (0,0)):=by rw [←au,←aJ];exact qh _ _
 have bi:s.heap.size=w.heap.size+1:=by rw [←au,←aJ];simp
 have hd:=h.keep bq (fun _ _ _ _=>wE);have r0:=qb d 0 _ rfl;have r1:=qb d 1 _ rfl;have r2:=qb d 2 _ rfl;have r3:=qb d 3 _ rfl;have r4:=qb d 4 _ rfl;have r5:=qb d 5 _ rfl;have r6:=qb d 6 _ rfl;have r7:=qb d 7 _ rfl;have r8:=qb d 8 _ rfl;have r9:=qb d 9 _ rfl;have ai:=qb d 10 _ rfl;have aj:=qb d 11 _ rfl;have ak:=qb d 12 _ rfl;have am:=qb d 13 _ rfl;have an:=qb d 14 _ rfl;have ao:=qb d 15 _ rfl;have b4:=qb hd.box 4 _ rfl;simp only [zD]at b4 r0 r1 r2 r3 r4 r5 r6 r7 r8 r9 ai aj ak am an ao;have R:=qdn (P:=prog) Tryz.underlying207 qpv.law qs7 qz7 hd.kmap (qap l) av false;rw [bf]at R⊢;have b1:B<s.heap.size:=qe hd.box;have bh:w.heap.size<s.heap.size:=xz
 clear aY;refine hd8 ?_ h hs ca az av bf d bq;clear h hs ca az av bf d bq;intro Xh cA cS a7 a5 bQ aP y
 go_enter Tryz.func227,Tryz.ntmps227
 cases r:qct lm (qap l) with
 |some L=>
  have ce:(qap l,L)∈lm:=by
   unfold qct at r;cases hf:lm.find? (fun p=>decide (p.1=qap l)) with
   |none=>rw [hf] at r;cases r
   |some p=>
    rw [hf]at r;have h1:=find?_some hf;have h2:=xa hf;simp only [zT]at h1;cases r;rw [←h1];exact h2
  rw [r]at R;simp only [zy,yx]at R;refine hd3 ?_ r ce hd;clear r ce hd;intro bS bR af;go_wp2_with fail;subst au
  go_region
  clear r0 r1 r2 r3 r4 r5 r6 r7 r8 r9 ai aj ak am an ao b4 R bi b1 bh;go_wp2_with fail;go_ret;exact⟨L,tag,lm,rfl,y.o.mono (fun _ _ _=>wE),af.o,bR.o,TagLe.refl _,TagNew.refl _ _,fun _ h=>h⟩
 |none=>
  have ck:qap l∉lm.map (·.1):=fun cG=>by
   obtain⟨p,hp,he⟩:=yK.1 cG;have:=ym.1 (Option.map_eq_none_iff.1 r) p hp;simp [he]at this
  rw [r]at R;simp only [zy,yx]at R;refine hd3 ?_ r ck hd;clear r ck hd;intro bS aO af;go_wp2_with fail;subst au
  go_region
  generalize Wb.drew=s at*;clear r0 r1 r2 r3 r4 r5 r6 r7 r8 r9 ai aj ak am an ao b4 R aJ;obtain⟨W1,aG⟩:=ex (s.alloc (.cells #[] 3));have k1:wD s W1:=by rw [←aG];exact kAl
  have z1:W1.heap.size=s.heap.size+1:=by rw [←aG];simp
  have cm:W1.ownsRow 0 3 1 (.slice (some ⟨s.heap.size,0,none⟩) 0 0) 0 []:=by rw [←aG];exact xe s #[] 0 (ya _) (by simp [maxLen]) rfl
  have cw:wD w W1:=y.o.trans k1;have cp:=qdo cA.o (m:=m) cw.mt (zG _);have bc:=qfo (sz:=1) ic (fun _=>rfl) xz (E:=qe8) (fun b o x h j u hj=>by
   have cD:j=0:=by have:=(zA.1 hj).1;simp [ic] at this;exact this
   subst cD;simp [ic]at hj;subst hj;exact h) cp rfl
  obtain⟨vl,W2,co,ay,cb,bp⟩:=qi0 (P:=prog) ql8 125 cm a l.length cc (l.flatMap ic) (qa1 _ 1 (fun _=>rfl) _) bc.1 bc.2 (qi2 _ (by simp [ic,Value.oneCell']) _) xz (ya _);rw [ql7,nil_append,zD]at ay;obtain⟨al,cl,rfl⟩:=qi ay;have aK: ∀g,Value.ownBlock (.slice al l.length cl)=some g->s.heap.size<=g/\g<W2.heap.size:=fun g cd=>⟨by
   rcases cb g cd with h1 |h1
   ·simp only [Value.ownBlock,yb]at h1;omega
   ·omega,(zE ay g cd).2⟩
  have cH:= @run_makeMap prog;obtain⟨M,hM⟩:=ex (W2.heap.size);obtain⟨W3,aH⟩:=ex (W2.alloc (.map #[] 0));obtain⟨L,hL⟩:=ex (W3.heap.size);obtain⟨W4,aI⟩:=ex (W3.alloc (.cells #[.slice al l.length cl,.map (some M)] 268));have k3:wD W2 W3:=by rw [←aH];exact kAl
  have k4:wD W3 W4:=by rw [←aI];exact kAl
  have z3:W3.heap.size=W2.heap.size+1:=by rw [←aH];simp
  have z4:W4.heap.size=W3.heap.size+1:=by rw [←aI];simp
  have cM:=bp.size;have aM:Keep (fun b=>b<s.heap.size) s W4:=k1.mt.trans ((bp.mono fun b _ h e=>by have:=(aK b e).1;omega).trans (k3.mt.trans k4.mt));have cv:=aM;have aT:LookAt (fun b=>if b=L then some (.lbox (qap l)) else if b=M then some (.lmap (qap l)) else if Value.ownBlock (.slice al l.length cl)=some b then some (.llist (qap l)) else none) W4 n (ts.take 0) (qap l) L l (.slice al l.length cl) M []:=by
   refine⟨a7.o,rfl,zI rfl,by rw [←aI,←hL];exact qh _ _,by rw [zF xz,zI rfl],?_,qf (qf ay k3 (fun _ _=>wE)) k4 (fun _ _=>wE),fun b c=>?_,fun k=>wB,wB,fun k v cE=>(by cases cE),fun b k p c j hj=>?_⟩
   ·have:=(qhf (P:=prog) (K:=214) (ek:=qgu) (ev:=fun v:Value=>v) W2).keep (w':=W4) (C:=fun _=>True) (by rw [aH];exact k4) trivial;rw [hM]at this;exact this
   ·have:=aK b c;rw [zF xz,zF xz,zI c]
   ·split at c
    ·cases c
    ·split at c
     ·cases c
     ·split at c<;>cases c
  have b6: ∀b T,(fun b=>if b=L then some (Tag.lbox (qap l)) else if b=M then some (.lmap (qap l)) else if Value.ownBlock (.slice al l.length cl)=some b then some (.llist (qap l)) else none) b=some T->s.heap.size<=b/\b<W4.heap.size/\qbw (some T)=some (qap l):=by
   intro b T c;simp only at c;split at c
   ·cases c;exact⟨xz,xz,rfl⟩
   ·split at c
    ·cases c;exact⟨xz,xz,rfl⟩
    ·split at c
     ·rename_i e;have:=aK b e;cases c;exact⟨xz,xz,rfl⟩
     ·cases c
  have cn:=aM.heap aP.o bh;have hd4:=af.o.keep aM (fun b T c aL=>aL);have b2:=qb hd4.box 2 _ rfl;simp only [zD]at b2;have c9:=qe hd4.box;clear k1 cm cw cp bc ay cb bp aK k3 k4 aM cM z1 z3 z4 b1;refine hd7 ?_ co cv aT b6 cn hd4 bi;clear co cv aT b6 cn hd4 bi;intro aQ bW a2 bO cT cR cU;go_wp2_with (at_builtin;refine qcd (v:=.slice (some ⟨s.heap.size,0,none⟩) 0 0) (u:=.slice a l.length cc) (v':=.slice al l.length cl) (w':=W2) rfl (.tmp 19) (.tmp 20) 125 rfl rfl rfl aQ.o ?_);clear aG hM aH hL aI cH b2 aQ
  go_loopw [29] (fun i wr=> ∃(k:Nat) (q:qbu) (mk:List (List Int×Value)),k<=ts.length/\i=.int .i64 k/\LookAt q wr n (ts.take k) (qap l) L l (.slice al l.length cl) M mk/\(∀b T,q b=some T->s.heap.size<=b/\b<wr.heap.size/\qbw (some T)=some (qap l))/\Keep (fun b=>b<s.heap.size) s wr) (fun i _=>ts.length-(intOf i).toNat)
  case atStart=>exact⟨0,_,_,xz,rfl,a2.o,bO.o,bW.o⟩
  case round=>
   obtain⟨k,q,mk,hk,rfl,aq,hN,hK⟩:=hrel;have aw:=af.o.keep hK (fun b T c aL=>aL);have db:=qe aw.box;by_cases ch:k<ts.length
   ·obtain⟨t,ht⟩: ∃t,ts[k]?=some t:=⟨_,zB ch⟩;have c0:(k:Int)<ts.length:=by omega
    have de:(0:Int)<=k:=xz
    have cq:ts.take (k+1)=ts.take k++ [t]:=by rw [zh,ht];rfl
    have cr:(ts.take k).length=k:=by rw [yB];omega
    refine hd7 ?_ aq hN hK aw ht cq cr;clear aq hN hK aw ht cq cr;intro bN a4 bL aN bU bV aR;go_wp2_with fail;refine(qqv aN.o xz k t bU.o).mono ?_;rintro e w1 ⟨vt,rfl,ah,cO,cu,cs⟩;have aB:qan w1.heap.size w1 vt t:=qop (qdo cu (m:=wr.heap.size) ah.mt (zG _)) ah.size;have aU:=bN.o.keep ah (tag':=q) (fun _ _=>wE) (fun _ _=>rfl) (fun _ _=>rfl);have hj:=qs9 aU (fun b T c=>zk (a4.o b T c).2.1 ah.size) cj (by rw [aR.o];omega) vt t aB cs (aN.o.ok t (zH bU.o)) cF;rw [aR.o]at hj;clear cu aU cO cs;refine hd3 ?_ hj ah aB;clear hj ah aB;intro cz aS cB;go_wp2_with fail;refine cz.o.mono ?_;rintro e w2 ⟨rfl,a0,m2,ar,aA,cf⟩;have b7: ∀b T,a0 b=some T->s.heap.size<=b/\b<w2.heap.size/\qbw (some T)=some (qap l):=fun b T c=>by
     have b9:=(aA.new b T c).1;rcases yX b w1.heap.size with hb1 |hb1
     ·cases hT:q b with
      |none=>
       have:=aA.old b hb1 (by rw [hT];exact fun e=>(by cases e));rw [c,hT]at this;cases this
      |some T'=>
       have h3:=a4.o b T' hT;refine⟨h3.1,b9,?_⟩;rcases aA.le b T' hT with h4 |⟨c2,k2,p2,p3,rfl,h4,_⟩
       ·rw [c]at h4;cases h4;exact h3.2.2
       ·rw [c]at h4;cases h4;exact h3.2.2
     ·have h5:=(aA.new b T c).2 hb1;refine⟨?_,b9,h5⟩;have:=bL.o.size;have:=aS.o.size;omega
    have b5:Keep (fun b=>b<s.heap.size) s w2:=bL.o.trans (aS.o.mt.trans (cf.mono fun b _ h=>by
     cases hT:q b with
     |none=>exact fun e=>(by cases e)
     |some T=>have:=(a4.o b T hT).1;omega))
    rw [←bV.o]at ar;clear aA cf;refine hd3 ?_ ar b7 b5;clear ar b7 b5;intro a3 bP bM;go_wp2_with fail;go_roundw
    case rel=>exact⟨k+1,a0,m2,xz,by go_num,a3.o,bP.o,bM.o⟩
    case measure=>simp [intOf];omega
   ·obtain rfl:k=ts.length:=by omega
    rw [zi]at aq;obtain⟨We,b8⟩:=ex (wr.drew);have aE:wD wr We:=by rw [←b8];exact kDr
    have ag:=aw.keep aE (fun _ _ _ _=>wE);have aV:=aq.keep aE (tag':=q) (fun _ _=>wE) (fun _ _=>rfl) (fun _ _=>rfl);have z:Keep (fun b=>b<s.heap.size) s We:=hK.trans aE.mt;have f:=z.heap aP.o bh;have r0:=qb f 0 _ rfl;have r1:=qb f 1 _ rfl;have r2:=qb f 2 _ rfl;have r3:=qb f 3 _ rfl;have r4:=qb f 4 _ rfl;have r5:=qb f 5 _ rfl;have r6:=qb f 6 _ rfl;have r7:=qb f 7 _ rfl;have r8:=qb f 8 _ rfl;have r9:=qb f 9 _ rfl;have ai:=qb f 10 _ rfl;have aj:=qb f 11 _ rfl;have ak:=qb f 12 _ rfl;have am:=qb f 13 _ rfl;have an:=qb f 14 _ rfl;have ao:=qb f 15 _ rfl;have b4:=qb ag.box 4 _ rfl;simp only [zD]at b4 r0 r1 r2 r3 r4 r5 r6 r7 r8 r9 ai aj ak am an ao;obtain⟨W6,ct,ci,ae,cL⟩:=qh3 (P:=prog) Tryz.underlying207 qpv.law qs7 ag.kmap (qap l) a5.o L;rw [bQ.o]at ct;obtain⟨b3,aX⟩:=q2j ag aV (fun b T c=>⟨by
     cases hT:tag b with
     |none=>rfl
     |some T'=>have:=af.o.lt b T' hT;have:=(hN b T c).1;omega,by have:=(hN b T c).2.1;have:=aE.size;omega,(hN b T c).2.2⟩) aO.o ci ae (fun b T c e=>by
      obtain⟨L',h1⟩:=ag.ents b (qap l) (by rw [c];exact e);exact aO.o (yK.2 ⟨_,h1,rfl⟩))
    have ax:TagNew tag (fun b=>match q b with |some T=>some T |none=>tag b) w:=fun b T c=>by
     cases hT:q b with
     |none=>simp only [hT] at c;exact .inl ⟨T,c⟩
     |some T'=>have:=(hN b T' hT).1;exact .inr xz
    have cx:Keep (fun b=>tag b=none) w W6:=by
     refine⟨ae.os.trans (z.os.trans y.o.os),ae.tape.trans (z.tape.trans y.o.tape),ae.output.trans (z.output.trans y.o.output),?_,fun b c hC=>?_⟩
     ·have:=ae.size;have:=z.size;omega
     ·rw [ae.block b (by have:=z.size;omega) (fun e=>by rw [e,af.o.tagK]at hC;cases hC),z.block b xz xz];exact y.o.block b c trivial
    have da:=qe ag.box;have c1:=qe f;clear ag aV z f ci ae cL hN aq hK aw aE;refine hd4 ?_ b3 aX ax cx;clear b3 aX ax cx;intro bK a6 aF b0;subst b8;go_wp2_with fail
    go_region
    clear r0 r1 r2 r3 r4 r5 r6 r7 r8 r9 ai aj ak am an ao b4 ct;go_wp2_with fail;go_ret;exact⟨L,_,_,rfl,b0.o,bK.o,wB,a6.o,aF.o,fun p hp=>xd _ hp⟩
theorem qqw {P:Program}{ops:Array Oper}{Q:Exit->Act->World->Prop}{md:Region.Mode}{S S':World->Prop}{late:List Nat}(hS: ∀w,S' w->S w): ∀(fuel:Nat) (listed:Array Bool) (a:Act) (w:World),qcz P md ops Q S' late fuel listed a w->qcz P md ops Q S late fuel listed a w
 |0,_,_,_,h=>h
 |fuel+1,_,_,_,h=>⟨h.1,fun i hi=>wpOp_mono (fun a' w' h'=>⟨fun hl=>hS _ (h'.1 hl),qqw hS fuel _ a' w' h'.2⟩) (h.2 i hi)⟩
def qtd (tag:qbu)(w:World)(ts:List (List Int))(cols key:List Int)(v:Value):Prop:=
 w.ownsRow 0 3 1 v (idx ts cols (qay key)).length ((idx ts cols (qay key)).map qhy)/\ ∀b,v.ownBlock=some b->tag b=some (.ent (qap cols) (qay key) (idx ts cols (qay key)).length)
theorem q4k {tag:qbu}{w:World}{n:Nat}{ts:List (List Int)}{c:List Bool}{L M:Nat}{l:List Int}{e:Value}{m:List (List Int×Value)}(h:LookAt tag w n ts c L l e M m){k:List Int}(d:k∉m.map (·.1)):idx ts l k= []:=by
 refine filter_eq_nil_iff.2 fun i hi=>?_;rw [yh]at hi;simp only [zT];intro b;refine d ((h.keys _).2 ⟨ts.getD i [],?_,b⟩);rw [zJ,zB hi];exact xD hi
theorem qqx {n:Nat}{l s:List Int}(h:qdf n l=true)(X:qdf n s=true)(hn:n<=16)(hm:qap l=qap s):l=s:=by
 have k: ∀x:Int,0<=x->x<16->(x∈l↔x∈s):=fun x h0 g=>by
  have:=yM (fun m=>m[x.toNat]?) hm;simp only [qap,zP]at this;rw [xr xz]at this;have q:((x.toNat:Nat):Int)=x:=xz
  simpa [q]using this
 have p: ∀x:Int,x∈l↔x∈s:=fun x=>by
  constructor
  ·intro q;have:=qmu h x q;exact(k x this.1 xz).1 q
  ·intro q;have:=qmu X x q;exact(k x this.1 xz).2 q
 have Y: ∀{l:List Int},qdf n l=true->l.Pairwise (· < ·):=fun {l} h=>by
  rw [pairwise_iff_getElem];have f: ∀i,(hi:i+1<l.length)->l[i]<l[i+1]:=fun i hi=>by
   have:=yL.1 h (i+1) (by simpa using hi);simp only [qhp,zV,zT,y8,xB]at this;have r:=this.2.resolve_left xz;rw [Nat.add_sub_cancel,zJ,zJ,zB hi,zB xz]at r;exact r
  have t: ∀d i,(hi:i+d+1<l.length)->l[i]<l[i+d+1]:=fun d=>by
   induction d with
   |zero=>exact fun i hi=>f i hi
   |succ d ih=>exact fun i hi=>Int.lt_trans (ih i xz) (f (i+d+1) hi)
  intro i j hi hj ab;have:=t (j-i-1) i xz;have e:i+(j-i-1)+1=j:=xz
  simpa only [e]using this
 have go: ∀(a b:List Int),a.Pairwise (· < ·)->b.Pairwise (· < ·)->(∀x,x∈a↔x∈b)->a=b:=fun a=>by
  induction a with
  |nil=>
   intro b _ _ c;cases b with
   |nil=>rfl
   |cons y b=>exact absurd ((c y).2 wB) wB
  |cons x a ih=>
   intro b v R c;cases b with
   |nil=>exact absurd ((c x).1 wB) wB
   |cons y b=>
    rw [pairwise_cons]at v R;have U:x=y:=by
     rcases zt.1 ((c x).1 wB) with g |g
     ·exact g
     ·rcases zt.1 ((c y).2 wB) with r |r
      ·exact r.symm
      ·have:=v.1 y r;have:=R.1 x g;omega
    subst U;rw [ih b v.2 R.2 (fun z=>by
     constructor
     ·intro u;rcases zt.1 ((c z).1 (by simp [u])) with g |g
      ·have:=v.1 z u;omega
      ·exact g
     ·intro u;rcases zt.1 ((c z).2 (by simp [u])) with g |g
      ·have:=R.1 z u;omega
      ·exact g)]
 exact go l s (Y h) (Y X) p
theorem qz8 {tag:qbu}{w:World}{B n:Nat}{ts:List (List Int)}{vD:Value}{P K:Nat}{lm:List (List Bool×Nat)}(h:qb5 tag w B n ts vD P K lm)(hl:ts.length<=134217728)(m:Nat)(vc vk:Value)(c key:List Int)(hs:qan m w vc c)(a3:qan m w vk key)(hm:m<=w.heap.size)
  (bW:okT key) (bS:qo8 tag vk):
  Calls prog 179 #[.pointer (some ⟨B,0,none⟩),vc,vk] w fun e w'=> ∃v tag' lm',e=.returned (.tuple #[v,.bool (qdf n c&&decide (key.length=c.length))])/\
   Keep (fun b=>tag b=none) w w'/\qb5 tag' w' B n ts vD P K lm'/\TagLe tag tag'/\TagNew tag tag' w/\(∀p,p∈lm->p∈lm')/\
   (qdf n c=true->key.length=c.length->qtd tag' w' ts c key v/\ ∃L,(qap c,L)∈lm')/\((qdf n c&&decide (key.length=c.length))=false->v=.slice none 0 0):=by
 obtain⟨a,cc,rfl,al,cU,bR⟩:=id hs;obtain⟨ak,ck,rfl,cJ,cH,aM⟩:=id a3;have hB:=qe h.box;have aO:=h.n16;refine hd7 ?_ h hs bR a3 aM bW bS;clear h hs bR a3 aM bW bS;intro Xh bw cs bx cb bu br
 go_enter Tryz.func179,Tryz.ntmps179
 go_wp2_with fail;refine(qks Xh.o.box).mono ?_;rintro e w1 ⟨rfl,a4⟩;have a4:=a4.symm;subst a4;by_cases s:key.length=c.length
 ·have ch:((key.length:Int) !=c.length)=false:=by simp [s]
  have hd:decide (key.length=c.length)=true:=zS s;refine hd2 ?_ s hd;clear s hd;intro R ax;go_wp2_with fail;refine(q4j Xh.o.box aO m _ c bw.o hm).mono ?_;rintro e W1 ⟨rfl,a5⟩;obtain⟨U,X,Y,k3,y,u,k6,k7,k8,k9,f,g,i,j,q,r,aP⟩: ∃U X Y k3 y u k6 k7 k8 k9 f g i j q r,qji n c= [U,X,Y,k3,y,u,k6,k7,k8,k9,f,g,i,j,q,r]:=by
   have s:(qji n c).length=16:=by unfold qji;split<;>exact qjh _
   match h:qji n c,s with
   | [U,X,Y,k3,y,u,k6,k7,k8,k9,f,g,i,j,q,r],_=>exact⟨U,X,Y,k3,y,u,k6,k7,k8,k9,f,g,i,j,q,r,rfl⟩
  have a0:qhx (qji n c)=.agg #[.bool U,.bool X,.bool Y,.bool k3,.bool y,.bool u,.bool k6,.bool k7,.bool k8,.bool k9,.bool f,.bool g,.bool i,.bool j,.bool q,.bool r]:=by rw [aP];rfl
  rw [a0];obtain⟨W0,aB⟩:=ex (W1.alloc (.cells #[.bool false,.bool false,.bool false,.bool false,.bool false,.bool false,.bool false,.bool false,.bool false,.bool false,.bool false,.bool false,.bool false,.bool false,.bool false,.bool false] 217));obtain⟨d,aC⟩:=ex (W1.heap.size);have n1:W0.heap[d]?=some (.cells #[.bool false,.bool false,.bool false,.bool false,.bool false,.bool false,.bool false,.bool false,.bool false,.bool false,.bool false,.bool false,.bool false,.bool false,.bool false,.bool false] 217 (0,0)):=by rw [←aB,←aC];exact qh _ _
  have b4:Keep (fun b=>b<w.heap.size) w W0:=by rw [←aB];exact a5.trans kAl
  have s0:d<W0.heap.size:=qe n1;have cZ:w.heap.size<=d:=by rw [←aC];exact a5.size
  have z0:=qb n1 0 _ rfl;have f0:=qg n1 0;have z1:=qb n1 1 _ rfl;have f1:=qg n1 1;have z2:=qb n1 2 _ rfl;have f2:=qg n1 2;have z3:=qb n1 3 _ rfl;have f3:=qg n1 3;have z4:=qb n1 4 _ rfl;have f4:=qg n1 4;have z5:=qb n1 5 _ rfl;have f5:=qg n1 5;have z6:=qb n1 6 _ rfl;have f6:=qg n1 6;have z7:=qb n1 7 _ rfl;have f7:=qg n1 7;have z8:=qb n1 8 _ rfl;have f8:=qg n1 8;have z9:=qb n1 9 _ rfl;have f9:=qg n1 9;have a6:=qb n1 10 _ rfl;have bF:=qg n1 10;have a7:=qb n1 11 _ rfl;have bG:=qg n1 11;have a8:=qb n1 12 _ rfl;have bH:=qg n1 12;have a9:=qb n1 13 _ rfl;have bI:=qg n1 13;have ba:=qb n1 14 _ rfl;have bJ:=qg n1 14;have bb:=qb n1 15 _ rfl;have bK:=qg n1 15;simp only [zD]at z0 z1 z2 z3 z4 z5 z6 z7 z8 z9 a6 a7 a8 a9 ba bb;obtain⟨rd,a2⟩:=ex (qdf n c);rw [a2];clear a5 aP;refine hd4 ?_ n1 b4 a0 a2;clear n1 b4 a0 a2;intro aW ag bq t;cases rd with
  |false=>
   go_wp2_with fail;refine qi1 (fun W=>Keep (fun k=>k<w.heap.size) w W) (w:=qgk d [.bool U,.bool X,.bool Y,.bool k3,.bool y,.bool u,.bool k6,.bool k7,.bool k8,.bool k9,.bool f,.bool g,.bool i,.bool j,.bool q,.bool r] 0 W0) (ag.o.trans ((qeh _ _ _ _).mono (fun b _ h=>xz))) ?_;clear z0 z1 z2 z3 z4 z5 z6 z7 z8 z9 a6 a7 a8 a9 ba bb f0 f1 f2 f3 f4 f5 f6 f7 f8 f9 bF bG bH bI bJ bK aW ag s0 aC aB;rintro W3 am;have hT:=Xh.o.keep am (fun b T hb al=>al);refine hd2 ?_ am hT;clear am hT;intro bD ca
   go_ret2
   exact⟨.slice none 0 0,tag,lm,by rw [t.o];rfl,bD.o.mono (fun b hb _=>hb),ca.o,TagLe.refl _,TagNew.refl _ _,fun _ h=>h,fun h=>(by rw [t.o] at h;cases h),fun _=>rfl⟩
  |true=>
   go_wp2_with fail;refine qxj (fun W=>W.heap[d]?=some (.cells #[.bool U,.bool X,.bool Y,.bool k3,.bool y,.bool u,.bool k6,.bool k7,.bool k8,.bool k9,.bool f,.bool g,.bool i,.bool j,.bool q,.bool r] 217 (0,0))/\Keep (fun k=>k<w.heap.size) w W) (w:=qgk d [.bool U,.bool X,.bool Y,.bool k3,.bool y,.bool u,.bool k6,.bool k7,.bool k8,.bool k9,.bool f,.bool g,.bool i,.bool j,.bool q,.bool r] 0 W0) ⟨qgl [.bool U,.bool X,.bool Y,.bool k3,.bool y,.bool u,.bool k6,.bool k7,.bool k8,.bool k9,.bool f,.bool g,.bool i,.bool j,.bool q,.bool r] aW.o rfl,ag.o.trans ((qeh _ _ _ _).mono (fun b _ h=>xz))⟩ ?_;clear z0 z1 z2 z3 z4 z5 z6 z7 z8 z9 a6 a7 a8 a9 ba bb f0 f1 f2 f3 f4 f5 f6 f7 f8 f9 bF bG bH bI bJ bK aW ag s0 aC aB;rintro W3 ⟨hq,am⟩;have bP:qhx (qap c)=.agg #[.bool U,.bool X,.bool Y,.bool k3,.bool y,.bool u,.bool k6,.bool k7,.bool k8,.bool k9,.bool f,.bool g,.bool i,.bool j,.bool q,.bool r]:=by
    have:=bq.o;unfold qji at this;rw [t.o,zI rfl]at this;exact this
   obtain⟨Wd,aY⟩:=ex (W3.drew);have av:Keep (fun k=>k<w.heap.size) w Wd:=by rw [←aY];exact am.trans kDr
   have aD:Wd.heap[d]?=some (.cells #[.bool U,.bool X,.bool Y,.bool k3,.bool y,.bool u,.bool k6,.bool k7,.bool k8,.bool k9,.bool f,.bool g,.bool i,.bool j,.bool q,.bool r] 217 (0,0)):=by rw [←aY];exact hq
   have hT:=Xh.o.keep av (fun b T hb al=>al);have b1:=qdo bw.o (m:=m) (av.mono fun _ _ h=>xz) (zG _);have aZ:=q5m hT hl m _ c b1 (by have:=av.size;omega) t.o;rw [bP]at aZ;have bV:tag d=none:=by
    cases aA:tag d with
    |none=>rfl
    |some T=>have:=Xh.o.lt d T aA;omega
   have cQ:=qe hT.box;have cK:=qe aD;have aw: ∀W:World,W.heap[d]?=some (.cells #[.bool U,.bool X,.bool Y,.bool k3,.bool y,.bool u,.bool k6,.bool k7,.bool k8,.bool k9,.bool f,.bool g,.bool i,.bool j,.bool q,.bool r] 217 (0,0))->W.cell? ⟨d,0,none⟩=some (.bool U)/\W.cell? ⟨d,1,none⟩=some (.bool X)/\W.cell? ⟨d,2,none⟩=some (.bool Y)/\W.cell? ⟨d,3,none⟩=some (.bool k3)/\W.cell? ⟨d,4,none⟩=some (.bool y)/\W.cell? ⟨d,5,none⟩=some (.bool u)/\W.cell? ⟨d,6,none⟩=some (.bool k6)/\W.cell? ⟨d,7,none⟩=some (.bool k7)/\W.cell? ⟨d,8,none⟩=some (.bool k8)/\W.cell? ⟨d,9,none⟩=some (.bool k9)/\W.cell? ⟨d,10,none⟩=some (.bool f)/\W.cell? ⟨d,11,none⟩=some (.bool g)/\W.cell? ⟨d,12,none⟩=some (.bool i)/\W.cell? ⟨d,13,none⟩=some (.bool j)/\W.cell? ⟨d,14,none⟩=some (.bool q)/\W.cell? ⟨d,15,none⟩=some (.bool r):=fun W hW=>by
    refine⟨?_,?_,?_,?_,?_,?_,?_,?_,?_,?_,?_,?_,?_,?_,?_,?_⟩<;>simp [World.cell?,hW]
   have bM:=aw Wd aD;clear am hq hT b1 bP;refine hd6 ?_ av aD aZ bV aw bM;clear av aD aZ bV aw bM;intro aK bv bp bt ao bo;subst aY;refine qba rfl (fun W=>W.cell? ⟨d,0,none⟩=some (.bool U)/\W.cell? ⟨d,1,none⟩=some (.bool X)/\W.cell? ⟨d,2,none⟩=some (.bool Y)/\W.cell? ⟨d,3,none⟩=some (.bool k3)/\W.cell? ⟨d,4,none⟩=some (.bool y)/\W.cell? ⟨d,5,none⟩=some (.bool u)/\W.cell? ⟨d,6,none⟩=some (.bool k6)/\W.cell? ⟨d,7,none⟩=some (.bool k7)/\W.cell? ⟨d,8,none⟩=some (.bool k8)/\W.cell? ⟨d,9,none⟩=some (.bool k9)/\W.cell? ⟨d,10,none⟩=some (.bool f)/\W.cell? ⟨d,11,none⟩=some (.bool g)/\W.cell? ⟨d,12,none⟩=some (.bool i)/\W.cell? ⟨d,13,none⟩=some (.bool j)/\W.cell? ⟨d,14,none⟩=some (.bool q)/\W.cell? ⟨d,15,none⟩=some (.bool r)) [10,11] ?_;refine qab [0,1,2,7] ?_
   iterate 4
    refine tkA rfl bo.o ?_
    try simp only [qac]
   refine qk ?_;refine ho 3 rfl fun K bi=>?_;go_wp2_with fail;refine bp.o.mono ?_;rintro e W4 ⟨L,z,cl,rfl,y,aX,ap,aN,ar,aR⟩;obtain⟨l,vl,M,mm,aj⟩:=aX.looks _ L ap;have ce:l=c:=qqx aj.row t.o aO aj.mask;subst ce;have a1:=y.heap bv.o bt.o;have e1:W4.cell? ⟨L,1,none⟩=some (.map (some M)):=by have:=qb aj.box 1 _ rfl;simpa using this
   have cR:=qe aj.box;have aE:Keep (fun b=>tag b=none/\b<w.heap.size) w W4:=(aK.o.mono fun _ _ h=>h.2).trans (y.mono fun _ _ h=>h.1);have aQ:=qmk bx.o br.o aE (fun b hb cT=>⟨hb,xz⟩);have aq:key.length<=16:=by have:=qn3 t.o;have:=R.o;omega
   have aL:=ao.o W4 a1;have bN:=And.intro aL e1;have cg:m<=W4.heap.size:=by have:=aE.size;omega
   clear aL e1;refine qg5 ?_ y aX ap aN ar aR aj a1 aE aQ bN;clear y aX ap aN ar aR aj a1 aE aQ bN;intro cO aF aS aT ay aV bn aI aJ aU aG;go_wp2_with fail;refine bi.o _ _ (fun _=>aG.o.1) ?_;refine qqw (S':=fun W=>(W.cell? ⟨d,0,none⟩=some (.bool U)/\W.cell? ⟨d,1,none⟩=some (.bool X)/\W.cell? ⟨d,2,none⟩=some (.bool Y)/\W.cell? ⟨d,3,none⟩=some (.bool k3)/\W.cell? ⟨d,4,none⟩=some (.bool y)/\W.cell? ⟨d,5,none⟩=some (.bool u)/\W.cell? ⟨d,6,none⟩=some (.bool k6)/\W.cell? ⟨d,7,none⟩=some (.bool k7)/\W.cell? ⟨d,8,none⟩=some (.bool k8)/\W.cell? ⟨d,9,none⟩=some (.bool k9)/\W.cell? ⟨d,10,none⟩=some (.bool f)/\W.cell? ⟨d,11,none⟩=some (.bool g)/\W.cell? ⟨d,12,none⟩=some (.bool i)/\W.cell? ⟨d,13,none⟩=some (.bool j)/\W.cell? ⟨d,14,none⟩=some (.bool q)/\W.cell? ⟨d,15,none⟩=some (.bool r))/\W.cell? ⟨L,1,none⟩=some (.map (some M))) (fun _ h=>h.1) _ _ _ _ ?_;refine qab [4,5,6] ?_
   iterate 3
    refine tkN (v:=?_) rfl aG.o ?_ ?_;rotate_left
    ·rintro Wq ⟨⟨x0,x1,x2,x3,x4,x5,x6,x7,x8,x9,c0,c1,c2,c3,c4,c5⟩,y0⟩;go_simp
     try with_reducible rfl
    try simp only [qac]
   refine qk ?_;refine ho 8 rfl fun K bj=>?_;go_wp2_with fail;refine(ql9 m _ key W4 aU.o cg aq).mono ?_;rintro e W5 ⟨rfl,u⟩;have bL:=aF.o.keep u (fun b T hb al=>al);have ah:=bn.o.keep u (tag':=z) (fun b hb=>by
    cases aA:z b with
    |none=>rw [aA] at hb;cases hb
    |some T=>exact aF.o.lt b T aA) (fun _ _=>rfl) (fun _ _=>rfl)
   have b0:=u.heap aI.o (qe aI.o);have e5:W5.cell? ⟨L,1,none⟩=some (.map (some M)):=by have:=qb ah.box 1 _ rfl;simpa using this
   have bO:=And.intro (ao.o W5 b0) e5;have b3:Keep (fun b=>tag b=none) w W5:=(aJ.o.trans (u.mono fun b hb h=>by have:=aJ.o.size;omega)).mono (fun b hb h=>⟨h,hb⟩);have cd:=qo6 (qg6 aq) (qm0 bu.o);have bU:=qdn (P:=prog) Tryz.underlying266 qki.law qi3 qs8 ah.map (qay key) cd false;have au:TagNew tag z w:=TagNew.trans (TagNew.refl _ _) ay.o aK.o.size;clear e5 b0 u;refine hd5 ?_ bO b3 bL ah au;clear bO b3 bL ah au;intro aH bz bh an az;go_wp2_with fail;refine bj.o _ _ (fun _=>aH.o) ?_;obtain⟨vr,b2,hF⟩: ∃vr,(match qct mm (qay key) with |some v=>v |none=>Value.slice none 0 0)=vr/\qtd z W5 ts l key vr:=by
    cases x:qct mm (qay key) with
    |some v=>
     refine⟨v,rfl,an.o.ents (qay key) v ?_⟩;unfold qct at x;cases hf:mm.find? (fun p=>decide (p.1=qay key)) with
     |none=>rw [hf] at x;cases x
     |some p=>
      rw [hf]at x;have h1:=find?_some hf;have h2:=xa hf;simp only [zT]at h1;cases x;rw [←h1];exact h2
    |none=>
     have ci:qay key∉mm.map (·.1):=fun cf=>by
      obtain⟨p,hp,he⟩:=yK.1 cf;have:=ym.1 (Option.map_eq_none_iff.1 x) p hp;simp [he]at this
     refine⟨_,rfl,?_⟩;unfold qtd;rw [q4k an.o ci];exact⟨zj _ _ _ _,fun b hb=>by simp [Value.ownBlock] at hb⟩
   have cI:(Instr.lookup 266 (.map (some M)) (qgu (qay key)) false).run prog W5=.ok vr W5:=by
    rw [bU,←b2];cases qct mm (qay key)<;>rfl
   clear bU b2;refine hd1 ?_ hF;clear hF;intro b9;refine ho 9 rfl fun K bk=>?_;go_wp2_with fail;refine bk.o _ _ (fun _=>aH.o) ?_;refine ho 10 rfl fun K bl=>?_;go_wp2_with fail;refine bl.o _ _ (fun h=>by simp at h) ?_;refine ho 11 rfl fun K bm=>?_;go_wp2_with fail;refine bm.o _ _ (fun h=>by simp at h) ?_;refine qbq wA ?_;go_wp2_with fail
   go_ret2
   exact⟨vr,z,cl,by rw [t.o,ax.o];rfl,bz.o,bh.o,aT.o,az.o,aV.o,fun _ _=>⟨b9.o,L,aS.o⟩,fun h=>by rw [t.o,ax.o] at h;cases h⟩
 ·have ch:((key.length:Int) !=c.length)=true:=by simp;omega
  have hd:decide (key.length=c.length)=false:=zM s;refine hd2 ?_ s hd;clear s hd;intro R ax;go_wp2_with fail
  go_ret2
  exact⟨.slice none 0 0,tag,lm,by rw [ax.o,yN];rfl,Keep.refl _ _,Xh.o,TagLe.refl _,TagNew.refl _ _,fun _ h=>h,fun _ h=>absurd h R.o,fun _=>rfl⟩
structure qd1 where
 tag:qbu
 ts:List (List Int)
 vD:Value
 lm:List (List Bool×Nat)
structure RelInv (B n P K:Nat)(s:qd1)(w:World):Prop where
 own:qb5 s.tag w B n s.ts s.vD P K s.lm
 few:s.ts.length<=67108864
structure RelIt (B n P K:Nat)(s:qd1)(X:World)(s':qd1)(Y:World):Prop where
 keep:Keep (fun b=>s.tag b=none) X Y
 same:s'.ts=s.ts
 le:TagLe s.tag s'.tag
 new:TagNew s.tag s'.tag X
 sub: ∀p,p∈s.lm->p∈s'.lm
 inv:RelInv B n P K s' Y
structure RelBd (s:qd1)(m:Nat)(s':qd1):Prop where
 more: ∃us,s'.ts=s.ts++us
 le:TagLe s.tag s'.tag
 new: ∀b T,s'.tag b=some T->(∃T',s.tag b=some T')∨m<=b
 sub: ∀p,p∈s.lm->p∈s'.lm
theorem RelBd.refl (s:qd1)(m:Nat):RelBd s m s:=⟨⟨[],wB⟩,TagLe.refl _,fun b T h=>.inl ⟨T,h⟩,fun _ h=>h⟩
theorem RelBd.mono {s d:qd1}{m c:Nat}(h:RelBd s m d)(f:c<=m):RelBd s c d:=⟨h.more,h.le,fun b T e=>(h.new b T e).imp id (fun h=>xz),h.sub⟩
theorem RelBd.trans {s e c:qd1}{m d:Nat}(h:RelBd s m e)(g:RelBd e d c)(l:m<=d):RelBd s m c:=by
 obtain⟨u,j⟩:=h.more;obtain⟨v,k⟩:=g.more;refine⟨⟨u++v,by rw [k,j,yq]⟩,h.le.trans g.le,fun b T f=>?_,fun p i=>g.sub p (h.sub p i)⟩;rcases g.new b T f with ⟨T',h1⟩ |h1
 ·exact h.new b T' h1
 ·exact .inr xz
theorem RelIt.bd {B n P K:Nat}{s b:qd1}{X Y:World}(h:RelIt B n P K s X b Y):RelBd s X.heap.size b:=⟨⟨[],by simp [h.same]⟩,h.le,h.new,h.sub⟩
theorem RelInv.keep {B n P K:Nat}{s:qd1}{X Y:World}(h:RelInv B n P K s X)(hK:Keep (fun b=> ¬s.tag b=none) X Y):RelInv B n P K s Y:=⟨h.own.keep hK (fun b T c _ e=>by rw [c] at e;cases e),h.few⟩
theorem qxm {B n P K:Nat}{s:qd1}{X Y:World}(h:RelInv B n P K s X)(hK:wD X Y):RelIt B n P K s X s Y:=⟨hK.mt,rfl,TagLe.refl _,TagNew.refl _ _,fun _ h=>h,h.keep hK.mt⟩
def qem (B n P K:Nat):qfp qd1 where
 inv:=RelInv B n P K
 free s b:=s.tag b=none
 istep:=RelIt B n P K
 bstep:=RelBd
 ifree h:=h.keep
 inew:=fun {s X s' Y} h b hb hf=>by
  cases hT:s'.tag b with
  |none=>rfl
  |some T=>
   rcases h.new b T hT with ⟨T',h1⟩ |h1
   ·rw [hf]at h1;cases h1
   ·omega
 bnew:=fun {s m s'} h b hb hf=>by
  cases hT:s'.tag b with
  |none=>rfl
  |some T=>
   rcases h.new b T hT with ⟨T',h1⟩ |h1
   ·rw [hf]at h1;cases h1
   ·omega
 bmono hm h:=h.mono hm
 invk h hK:=h.keep hK
def q51 (i:Nat)(t:List Int)(m:Nat)(X:World)(args:Array Value):Prop:=
 ∃v,args= #[.int .i64 (i:Int),v]/\X.ownsRow m 3 1 v t.length (t.map (.int .i64))/\t.length<=1073741824
end Go.Proofs.R4
