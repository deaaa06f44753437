/- Parts of the proof. -/
import Derived.Test.YtnponcjnahicnaaGreatDoorDlFToDlJ
import Derived.Test.YtnponcjnahicnaaGreatDoorDlBToDlE
set_option linter.unusedSimpArgs false
set_option linter.unusedVariables false
set_option maxRecDepth 100000
set_option maxHeartbeats 8000000
open Go.Proofs.Tryz(prog)
open List(all_append all_cons all_nil filter_map filter_nil length_cons length_flatMap map_map mem_append_right mem_of_mem_drop)
namespace Go.Proofs
open Go.RowKit Go.Ink Go.Flt R4 P16
attribute [local go_sem] Oper.semAt_some
def qgy (J:qa7)(body:List LitD)(b:Asg)(i:Nat):Bool:=
 if qbg body i=3 then qab b (body.getD i default).left !=qab b (body.getD i default).right
  else if qbg body i=2 then !decide ((body.getD i default).atom.args.map (qa2 b)∈J.neg i) else true
theorem q7k (J:qa7)(body:List LitD)(b:Asg):qi4 J body b=(List.range body.length).all (qgy J body b):=rfl
theorem qp5 {vars:List ByteArray}{b:Asg}{t:TermD}(h:KnT vars b t):qab b t=some (qa2 b t):=by
 unfold qa2 qab;by_cases c:t.var=true
 ·obtain⟨-,y,d⟩:=h c;rw [zI c,d]
  rfl
 ·rw [zF c]
  rfl
theorem q1p {α:Type}{p:α->Bool}{l:List α}{x:α}(b:x∈l)(h:p x=false):l.all p=false:=by
 cases e:l.all p with
 |false=>rfl
 |true=>rw [yM.1 e x b] at h;cases h
theorem q1q {n:Nat}{w:World}{vv vl sh sb:Value}{vars vals:List ByteArray}{kn:List Bool}{b:Asg}{r:RuleD}{s:Option Nat}{neg:List qj}{pos:Nat->List qj}(hr:RuleIn n w sh sb r)(hA:qck vars vals kn b)(hv:qaf n w vv vars)(hl:qaf n w vl vals)(hn:n<=w.heap.size)(hs:RSt w s neg)
  (hk: ∀L,L∈r.body->L.kind=2∨L.kind=3-> ∀t,t∈qm L->KnT vars b t):
  Calls prog 160 #[qaq r sh sb,vv,vl,.pointer (s.map fun S=>⟨S,0,none⟩)] w fun e w'=>e=.returned (.bool (qi4 (qcx r.body pos neg) r.body b))/\Keep (fun b=>b<w.heap.size) w w':=by
 rw [q7k];unfold qaq;obtain⟨ps,bN⟩:=ex ((s.map fun S=>(⟨S,0,none⟩:Addr)));have bm:=fun W (hK:Keep (fun b=>b<w.heap.size) w W)=>fun f m v ht hm=>qt2 (hs.keep hK) f m v ht hm;rw [bN]at bm⊢;obtain⟨N,hN⟩:=ex (w.heap.size);obtain⟨av,cv,rfl,-,-,-⟩:=id hv;obtain⟨al,cl,rfl,-,-,-⟩:=id hl;obtain⟨⟨ah,bu,rfl,cm,ci,bz⟩,⟨ab,bt,rfl,ck,ch,bx⟩⟩:=id hr;obtain⟨W0,bn⟩:=ex (w.alloc (.cells #[.string r.head.pred,.slice ah r.head.args.length bu,.slice ab r.body.length bt] 27));have k0:wE w W0:=by rw [←bn];exact kAl
 have p0:W0.heap[N]?=some (.cells #[.string r.head.pred,.slice ah r.head.args.length bu,.slice ab r.body.length bt] 27 (0,0)):=by rw [←bn,←hN];exact qh _ _
 have z0:W0.heap.size=N+1:=by rw [←bn,←hN];simp
 refine qk2 ?_ hr bz bx hA hv hl hs hk bN bm hN bn k0 p0;clear hr bz bx hA hv hl hs hk bN bm hN bn k0 p0;intro cN b8 bH bD cb ca cO b9 cz bi a9 bS cc cd;refine qbr Tryz.func160 rfl ?_;simp only [Tryz.ntmps160,qdy,Nat.reduceAdd,Nat.reduceSub];gi_wp2;rw [bS.o,a9.o];gi_loopw [9] (fun ix wr=> ∃(k:Nat),k<=r.body.length/\ix=.int .i64 (k:Int)/\Keep (fun b=>b<N+1) W0 wr/\(List.range k).all (qgy (qcx r.body pos neg) r.body b)=true) (fun i _=>r.body.length-(intOf i).toNat)
 case atStart=>exact⟨0,wA,rfl,Keep.refl _ _,rfl⟩
 case round=>
  obtain⟨k,cY,rfl,hK,a5⟩:=hrel;have c7:=hK.size;have cX:(0:Int)<=k:=wA
  have bK:=hK.heap cd.o wA;have d2:=qb bK 2 _ rfl;have cV:=qe bK;simp only [zD]at d2;have kE:Keep (fun b=>b<N) w wr:=cc.o.mt.trans (hK.mono fun b _ h=>wA);clear bK;by_cases bL:k<r.body.length
  ·have cJ:(k:Int)<r.body.length:=by omega
   obtain⟨L,hL⟩: ∃L,r.body[k]?=some L:=⟨_,zB bL⟩;obtain⟨bb,off,rfl,hb,sa,p,bQ⟩:=bH.o k L hL;have kw:Keep (fun b=>b<n) w wr:=kE.mono fun b _ h=>by have:=a9.o;omega
   have f0:=kw.cell (p 0 _ rfl) hb;have f1:=kw.cell (p 1 _ rfl) hb;have f2:=kw.cell (p 2 _ rfl) hb;have f3:=kw.cell (p 3 _ rfl) hb;have f4:=kw.cell (p 4 _ rfl) hb;have f5:=kw.cell (p 5 _ rfl) hb;have f6:=kw.cell (p 6 _ rfl) hb;simp only [Nat.add_zero]at f0;have cW:bb<wr.heap.size:=by have:=a9.o;omega
   obtain⟨aU,aV,rfl,-,-,-⟩:=id bQ;have bV:=zH hL;have aw:=b9.o L bV;have bU:r.body.getD k default=L:=by rw [zJ,hL];rfl
   have R:qgy (qcx r.body pos neg) r.body b k=if L.kind=3 then qab b L.left !=qab b L.right else if L.kind=2 then !decide (L.atom.args.map (qa2 b)∈qv neg L.atom.pred L.atom.args.length) else true:=by
    unfold qgy qbg qcx;simp only [bU]
   have ai:(List.range (k+1)).all (qgy (qcx r.body pos neg) r.body b)=qgy (qcx r.body pos neg) r.body b k:=by rw [xx,all_append,a5,yU,all_cons,all_nil,xK]
   have u:qgy (qcx r.body pos neg) r.body b k=false->(List.range r.body.length).all (qgy (qcx r.body pos neg) r.body b)=false:=fun h=>q1p (yi.2 bL) h;obtain⟨M,hM⟩:=ex (wr.heap.size);obtain⟨W4,aa⟩:=ex (wr.alloc (.cells #[.int .i64 L.kind,.string L.atom.pred,.slice aU L.atom.args.length aV,.bool L.left.var,.string L.left.text,.bool L.right.var,.string L.right.text] 79));have k4:wE wr W4:=by rw [←aa];exact kAl
   have p4:W4.heap[M]?=some (.cells #[.int .i64 L.kind,.string L.atom.pred,.slice aU L.atom.args.length aV,.bool L.left.var,.string L.left.text,.bool L.right.var,.string L.right.text] 79 (0,0)):=by rw [←aa,←hM];exact qh _ _
   have hS: ∀X,Keep (fun b=>b<M+1) W4 X->X.cell? ⟨M,0,none⟩=some (.int .i64 L.kind)/\X.cell? ⟨M,1,none⟩=some (.string L.atom.pred)/\X.cell? ⟨M,2,none⟩=some (.slice aU L.atom.args.length aV)/\X.cell? ⟨M,3,none⟩=some (.bool L.left.var)/\X.cell? ⟨M,4,none⟩=some (.string L.left.text)/\X.cell? ⟨M,5,none⟩=some (.bool L.right.var)/\X.cell? ⟨M,6,none⟩=some (.string L.right.text):=fun X hX=>by
    have q:=hX.heap p4 wA;have c0:=qb q 0 _ rfl;have c1:=qb q 1 _ rfl;have c2:=qb q 2 _ rfl;have c3:=qb q 3 _ rfl;have c4:=qb q 4 _ rfl;have c5:=qb q 5 _ rfl;have c6:=qb q 6 _ rfl;simp only [zD]at c0 c1 c2 c3 c4 c5 c6;exact⟨c0,c1,c2,c3,c4,c5,c6⟩
   have cT:M<W4.heap.size:=qe p4;obtain⟨Wd,au⟩:=ex (W4.drew);have kd:wE W4 Wd:=by rw [←au];exact kDr
   have zd:Wd.heap.size=W4.heap.size:=by rw [←au];rfl
   have z4:W4.heap.size=M+1:=by rw [←aa,←hM];simp
   have cS:M<Wd.heap.size:=wA
   have ar:=hS Wd kd.mt;have aK:Keep (fun b=>b<N+1) W0 Wd:=hK.trans ((k4.trans kd).mt);have am:Keep (fun b=>b<n) w Wd:=kw.trans ((k4.trans kd).mt);have aL:Keep (fun b=>b<w.heap.size) w Wd:=(kE.mono fun b _ h=>by have:=a9.o;omega).trans ((k4.trans kd).mt);have aF:=qan bQ am;have aj:=qam cb.o am;have ag:=qam ca.o am;have b0:n<=Wd.heap.size:=by have:=a9.o;omega
   clear p bQ hL bU a5 p4;by_cases h2:L.kind=2
   ·rw [zF wA,zI h2]at R;have bW:decide (L.atom.args.map (qa2 b)∈qv neg L.atom.pred L.atom.args.length)=decide ((⟨L.atom.pred,L.atom.args.map (qa2 b)⟩:qj)∈neg):=by
     rw [yj,qcr];simp
    rw [bW]at R;have aX:qm L=L.atom.args:=by unfold qm;rw [zF wA]
    have ao:=aw (.inl h2);rw [aX]at ao;have p:=qr1 (w:=Wd) bD.o aj ag b0 L.atom aF ao;rw [h2]at f0 aa hS ar;clear bW aX ao;cases hc:decide ((⟨L.atom.pred,L.atom.args.map (qa2 b)⟩:qj)∈neg) with
    |true=>
     have bo:=u (by rw [R,hc];rfl);clear R h2;refine qby ?_ hK kE kw ai u hM aa k4 hS au kd ar aK am aL aF;clear hK kE kw ai u hM aa k4 hS au kd ar aK am aL aF;intro bj ba br a2 aP aO ad bq aq ae aT c af a4 an aM;refine hd6 ?_ aj ag aw p hc bo;clear aj ag aw p hc bo;intro a3 a0 aZ az bG bk;gi_wp2;rw [ad.o,aO.o];refine qag ?_;refine qw rfl (fun X=>X.cell? ⟨M,0,none⟩=some (.int .i64 2)/\X.cell? ⟨M,1,none⟩=some (.string L.atom.pred)/\X.cell? ⟨M,2,none⟩=some (.slice aU L.atom.args.length aV)/\X.cell? ⟨M,3,none⟩=some (.bool L.left.var)/\X.cell? ⟨M,4,none⟩=some (.string L.left.text)/\X.cell? ⟨M,5,none⟩=some (.bool L.right.var)/\X.cell? ⟨M,6,none⟩=some (.string L.right.text)) [] ?_;rw [ae.o];refine qq [0,1,2,3,4,5,6,7,8] ?_
     iterate 9
      refine tkB rfl c.o ?_
      try simp only [qr]
     refine ql ?_;refine hoR 9 rfl fun K x=>?_;gi_wp2;refine⟨wF,rfl,(zU.2 az.o).mono ?_⟩;rintro e W1 ⟨v1,rfl,o1,k1⟩;have g:Keep (fun b=>b<M+1) W4 W1:=(aT.o.trans k1).mt;have aD:=aq.o W1 g;have ak:Keep (fun b=>b<w.heap.size) w W1:=an.o.trans k1.mt;have bl:(L.atom.args.map (qa2 b)).length<=1073741824:=by rw [zL];obtain⟨_,_,_,h,_⟩:=id aM.o;exact h
     have bp:W1.ownsRow Wd.heap.size 9 1 v1 (L.atom.args.map (qa2 b)).length ((L.atom.args.map (qa2 b)).map .string):=by rw [zL];exact o1
     have l:=bi.o W1 ak ⟨L.atom.pred,L.atom.args.map (qa2 b)⟩ W1.heap.size v1 (qbj bp bl) (zG _);rw [bG.o]at l;obtain⟨a1,c1,rfl⟩:=qi o1;have aG:Keep (fun b=>b<N+1) W0 W1:=af.o.trans k1.mt;have bI:M<W1.heap.size:=by have:=k1.size;omega
     clear o1 bp bl k1;refine hd5 ?_ aD ak l aG g;clear aD ak l aG g;intro ay aC U aB Y;gi_wp2;refine x.o _ _ (fun _=>ay.o) ?_;refine hoR 10 rfl fun K z=>?_;gi_wp2;refine⟨wF,rfl,(zU.2 U.o).mono ?_⟩;rintro e W2 ⟨rfl,k2⟩;have aE:=aq.o W2 (Y.o.trans k2.mt);have bJ:M<W2.heap.size:=by have:=k2.size;omega
     have aH:Keep (fun b=>b<N+1) W0 W2:=aB.o.trans k2.mt;have aJ:Keep (fun b=>b<w.heap.size) w W2:=aC.o.trans k2.mt;clear k2;refine hd3 ?_ aE aH aJ;clear aE aH aJ;intro d aR aS;gi_wp2;refine z.o _ _ (fun _=>d.o) ?_;refine qq [11,12] ?_
     iterate 2
      refine tkB rfl d.o ?_
      try simp only [qr]
     refine ql ?_;refine qq [13,14,15,16,17,18,19,20,21,22,23,24,25,26,27,28] ?_
     iterate 16
      refine tkS rfl d.o ?_
      try simp only [qr]
     refine ql ?_;refine qq [29] ?_
     iterate 1
      refine tkB rfl d.o ?_
      try simp only [qr]
     refine ql ?_;refine qz wB (qah ?_);clear x z;gi_wp2;refine yA (v:=.bool false) (by simp [results,Tryz.results160,go_sem]) rfl ⟨by rw [bk.o],?_⟩;exact aS.o
    |false=>
     have ap:(List.range (k+1)).all (qgy (qcx r.body pos neg) r.body b)=true:=ai.trans (by rw [R,hc];rfl);clear R h2;refine qby ?_ hK kE kw ai u hM aa k4 hS au kd ar aK am aL aF;clear hK kE kw ai u hM aa k4 hS au kd ar aK am aL aF;intro bj ba br a2 aP aO ad bq aq ae aT c af a4 an aM;refine hd6 ?_ aj ag aw p hc ap;clear aj ag aw p hc ap;intro a3 a0 aZ az bG aA;gi_wp2;rw [ad.o,aO.o];refine qag ?_;refine qw rfl (fun X=>X.cell? ⟨M,0,none⟩=some (.int .i64 2)/\X.cell? ⟨M,1,none⟩=some (.string L.atom.pred)/\X.cell? ⟨M,2,none⟩=some (.slice aU L.atom.args.length aV)/\X.cell? ⟨M,3,none⟩=some (.bool L.left.var)/\X.cell? ⟨M,4,none⟩=some (.string L.left.text)/\X.cell? ⟨M,5,none⟩=some (.bool L.right.var)/\X.cell? ⟨M,6,none⟩=some (.string L.right.text)) [] ?_;rw [ae.o];refine qq [0,1,2,3,4,5,6,7,8] ?_
     iterate 9
      refine tkB rfl c.o ?_
      try simp only [qr]
     refine ql ?_;refine hoR 9 rfl fun K x=>?_;gi_wp2;refine⟨wF,rfl,(zU.2 az.o).mono ?_⟩;rintro e W1 ⟨v1,rfl,o1,k1⟩;have g:Keep (fun b=>b<M+1) W4 W1:=(aT.o.trans k1).mt;have aD:=aq.o W1 g;have ak:Keep (fun b=>b<w.heap.size) w W1:=an.o.trans k1.mt;have bl:(L.atom.args.map (qa2 b)).length<=1073741824:=by rw [zL];obtain⟨_,_,_,h,_⟩:=id aM.o;exact h
     have bp:W1.ownsRow Wd.heap.size 9 1 v1 (L.atom.args.map (qa2 b)).length ((L.atom.args.map (qa2 b)).map .string):=by rw [zL];exact o1
     have l:=bi.o W1 ak ⟨L.atom.pred,L.atom.args.map (qa2 b)⟩ W1.heap.size v1 (qbj bp bl) (zG _);rw [bG.o]at l;obtain⟨a1,c1,rfl⟩:=qi o1;have aG:Keep (fun b=>b<N+1) W0 W1:=af.o.trans k1.mt;have bI:M<W1.heap.size:=by have:=k1.size;omega
     clear o1 bp bl k1;refine hd5 ?_ aD ak l aG g;clear aD ak l aG g;intro ay aC U aB Y;gi_wp2;refine x.o _ _ (fun _=>ay.o) ?_;refine hoR 10 rfl fun K z=>?_;gi_wp2;refine⟨wF,rfl,(zU.2 U.o).mono ?_⟩;rintro e W2 ⟨rfl,k2⟩;have aE:=aq.o W2 (Y.o.trans k2.mt);have bJ:M<W2.heap.size:=by have:=k2.size;omega
     have aH:Keep (fun b=>b<N+1) W0 W2:=aB.o.trans k2.mt;have aJ:Keep (fun b=>b<w.heap.size) w W2:=aC.o.trans k2.mt;clear k2;refine hd3 ?_ aE aH aJ;clear aE aH aJ;intro d aR aS;gi_wp2;refine z.o _ _ (fun _=>d.o) ?_;refine qq [11,12,13,14,15,16] ?_
     iterate 6
      refine tkB rfl d.o ?_
      try simp only [qr]
     refine ql ?_;refine qq [17,18,19,20,21,22,23,24,25,26,27] ?_
     iterate 11
      refine tkS rfl d.o ?_
      try simp only [qr]
     refine ql ?_;refine qq [28,29] ?_
     iterate 2
      refine tkB rfl d.o ?_
      try simp only [qr]
     refine ql ?_;refine qz wB (qah ?_);clear x z;gi_wp2;go_roundw
     case rel=>exact⟨k+1,wA,by go_num,aR.o,aA.o⟩
     case measure=>simp [intOf];omega
   ·by_cases h3:L.kind=3
    ·rw [zI h3]at R;have aX:qm L= [L.left,L.right]:=by unfold qm;rw [zI h3]
     have ao:=aw (.inr h3);rw [aX]at ao;have bO:=ao L.left wC;have bP:=ao L.right wC;rw [qp5 bO,qp5 bP]at R;have p:=qm0 (w:=Wd) bD.o aj ag b0 L.left bO;have l:=fun W (hK:wE Wd W)=>qm0 (w:=W) bD.o (qam aj hK.mt) (qam ag hK.mt) (by have:=hK.size;omega) L.right bP;unfold qcy at p l;rw [h3]at f0 aa hS ar;obtain⟨y1,b1⟩: ∃y,qa2 b L.left=y:=⟨_,rfl⟩;obtain⟨y2,b2⟩: ∃y,qa2 b L.right=y:=⟨_,rfl⟩;rw [b1]at R p;simp only [b2]at R l;clear aX ao bO bP b1 b2;by_cases bd:y1=y2
     ·have bM:=qdn bd;have bo:=u (by rw [R,bd,bne_self_eq_false]);clear R h3 h2 bd;refine qby ?_ hK kE kw ai u hM aa k4 hS au kd ar aK am aL aF;clear hK kE kw ai u hM aa k4 hS au kd ar aK am aL aF;intro bj ba br a2 aP aO ad bq aq ae aT c af a4 an aM;refine hd6 ?_ aj ag aw p l bo;clear aj ag aw p l bo;intro a3 a0 aZ az U bk;gi_wp2;rw [ad.o,aO.o];refine qag ?_;refine qw rfl (fun X=>X.cell? ⟨M,0,none⟩=some (.int .i64 3)/\X.cell? ⟨M,1,none⟩=some (.string L.atom.pred)/\X.cell? ⟨M,2,none⟩=some (.slice aU L.atom.args.length aV)/\X.cell? ⟨M,3,none⟩=some (.bool L.left.var)/\X.cell? ⟨M,4,none⟩=some (.string L.left.text)/\X.cell? ⟨M,5,none⟩=some (.bool L.right.var)/\X.cell? ⟨M,6,none⟩=some (.string L.right.text)) [] ?_;rw [ae.o];refine qq [0,1,2,3] ?_
      iterate 4
       refine tkB rfl c.o ?_
       try simp only [qr]
      refine ql ?_;refine qq [4,5,6,7,8,9,10] ?_
      iterate 7
       refine tkS rfl c.o ?_
       try simp only [qr]
      refine ql ?_;refine qq [11,12,13,14,15,16,17,18,19,20,22,23,24,25] ?_
      iterate 14
       refine tkB rfl c.o ?_
       try simp only [qr]
      refine ql ?_;refine hoR 21 rfl fun K x=>?_;gi_wp2;refine⟨wF,rfl,(zU.2 az.o).mono ?_⟩;rintro e W1 ⟨rfl,k1⟩;have g:wE W4 W1:=aT.o.trans k1;have aD:=aq.o W1 g.mt;have ak:Keep (fun b=>b<w.heap.size) w W1:=an.o.trans k1.mt;have aG:Keep (fun b=>b<N+1) W0 W1:=af.o.trans k1.mt;have bI:M<W1.heap.size:=by have:=k1.size;omega
      have aW:=U.o W1 k1;clear k1;refine hd5 ?_ aD ak aW aG g;clear aD ak aW aG g;intro ay aC aY aB Y;gi_wp2;refine x.o _ _ (fun _=>ay.o) ?_;refine hoR 26 rfl fun K z=>?_;gi_wp2;refine⟨wF,rfl,(zU.2 aY.o).mono ?_⟩;rintro e W2 ⟨rfl,k2⟩;have aE:=aq.o W2 ((Y.o.trans k2).mt);have bJ:M<W2.heap.size:=by have:=k2.size;omega
      have aH:Keep (fun b=>b<N+1) W0 W2:=aB.o.trans k2.mt;have aJ:Keep (fun b=>b<w.heap.size) w W2:=aC.o.trans k2.mt;clear k2;refine hd3 ?_ aE aH aJ;clear aE aH aJ;intro d aR aS;gi_wp2;refine z.o _ _ (fun _=>d.o) ?_;refine qq [27,28,29] ?_
      iterate 3
       refine tkR (v:=?_) rfl d.o ?_ ?_;rotate_left
       ·rintro Wq ⟨x0,x1,x2,x3,x4,x5,x6⟩;go_simp
        try simp only [bM]
        try with_reducible rfl
       try simp only [qr]
      refine ql ?_;refine qz wB (qah ?_);clear x z;gi_wp2;refine yA (v:=.bool false) (by simp [results,Tryz.results160,go_sem]) rfl ⟨by rw [bk.o],?_⟩;exact aS.o
     ·have bM:=qcv bd;have ap:(List.range (k+1)).all (qgy (qcx r.body pos neg) r.body b)=true:=ai.trans (by rw [R];simpa using bd);clear R h3 h2 bd;refine qby ?_ hK kE kw ai u hM aa k4 hS au kd ar aK am aL aF;clear hK kE kw ai u hM aa k4 hS au kd ar aK am aL aF;intro bj ba br a2 aP aO ad bq aq ae aT c af a4 an aM;refine hd6 ?_ aj ag aw p l ap;clear aj ag aw p l ap;intro a3 a0 aZ az U aA;gi_wp2;rw [ad.o,aO.o];refine qag ?_;refine qw rfl (fun X=>X.cell? ⟨M,0,none⟩=some (.int .i64 3)/\X.cell? ⟨M,1,none⟩=some (.string L.atom.pred)/\X.cell? ⟨M,2,none⟩=some (.slice aU L.atom.args.length aV)/\X.cell? ⟨M,3,none⟩=some (.bool L.left.var)/\X.cell? ⟨M,4,none⟩=some (.string L.left.text)/\X.cell? ⟨M,5,none⟩=some (.bool L.right.var)/\X.cell? ⟨M,6,none⟩=some (.string L.right.text)) [] ?_;rw [ae.o];refine qq [0,1,2,3] ?_
      iterate 4
       refine tkB rfl c.o ?_
       try simp only [qr]
      refine ql ?_;refine qq [4,5,6,7,8,9,10] ?_
      iterate 7
       refine tkS rfl c.o ?_
       try simp only [qr]
      refine ql ?_;refine qq [11,12,13,14,15,16,17,18,19,20,22,23,24,25] ?_
      iterate 14
       refine tkB rfl c.o ?_
       try simp only [qr]
      refine ql ?_;refine hoR 21 rfl fun K x=>?_;gi_wp2;refine⟨wF,rfl,(zU.2 az.o).mono ?_⟩;rintro e W1 ⟨rfl,k1⟩;have g:wE W4 W1:=aT.o.trans k1;have aD:=aq.o W1 g.mt;have ak:Keep (fun b=>b<w.heap.size) w W1:=an.o.trans k1.mt;have aG:Keep (fun b=>b<N+1) W0 W1:=af.o.trans k1.mt;have bI:M<W1.heap.size:=by have:=k1.size;omega
      have aW:=U.o W1 k1;clear k1;refine hd5 ?_ aD ak aW aG g;clear aD ak aW aG g;intro ay aC aY aB Y;gi_wp2;refine x.o _ _ (fun _=>ay.o) ?_;refine hoR 26 rfl fun K z=>?_;gi_wp2;refine⟨wF,rfl,(zU.2 aY.o).mono ?_⟩;rintro e W2 ⟨rfl,k2⟩;have aE:=aq.o W2 ((Y.o.trans k2).mt);have bJ:M<W2.heap.size:=by have:=k2.size;omega
      have aH:Keep (fun b=>b<N+1) W0 W2:=aB.o.trans k2.mt;have aJ:Keep (fun b=>b<w.heap.size) w W2:=aC.o.trans k2.mt;clear k2;refine hd3 ?_ aE aH aJ;clear aE aH aJ;intro d aR aS;gi_wp2;refine z.o _ _ (fun _=>d.o) ?_;refine qq [27,28,29] ?_
      iterate 3
       refine tkR (v:=?_) rfl d.o ?_ ?_;rotate_left
       ·rintro Wq ⟨x0,x1,x2,x3,x4,x5,x6⟩;go_simp
        try simp only [bM]
        try with_reducible rfl
       try simp only [qr]
      refine ql ?_;refine qz wB (qah ?_);clear x z;gi_wp2;go_roundw
      case rel=>exact⟨k+1,wA,by go_num,aR.o,aA.o⟩
      case measure=>simp [intOf];omega
    ·rw [zF h3,zF h2]at R;have ap:(List.range (k+1)).all (qgy (qcx r.body pos neg) r.body b)=true:=ai.trans R;have cf:(L.kind==2)=false:=by simpa using h2
     have cg:(L.kind==3)=false:=by simpa using h3
     clear R;refine qby ?_ hK kE kw ai u hM aa k4 hS au kd ar aK am aL aF;clear hK kE kw ai u hM aa k4 hS au kd ar aK am aL aF;intro bj ba br a2 aP aO ad bq aq ae aT c af a4 an aM;refine hd4 ?_ aj ag aw ap;clear aj ag aw ap;intro a3 a0 aZ aA;gi_wp2;rw [ad.o,aO.o];refine qag ?_;refine qw rfl (fun X=>X.cell? ⟨M,0,none⟩=some (.int .i64 L.kind)/\X.cell? ⟨M,1,none⟩=some (.string L.atom.pred)/\X.cell? ⟨M,2,none⟩=some (.slice aU L.atom.args.length aV)/\X.cell? ⟨M,3,none⟩=some (.bool L.left.var)/\X.cell? ⟨M,4,none⟩=some (.string L.left.text)/\X.cell? ⟨M,5,none⟩=some (.bool L.right.var)/\X.cell? ⟨M,6,none⟩=some (.string L.right.text)) [] ?_;rw [ae.o];refine qq [0,1,2,3] ?_
     iterate 4
      refine tkR (v:=?_) rfl c.o ?_ ?_;rotate_left
      ·rintro Wq ⟨x0,x1,x2,x3,x4,x5,x6⟩;go_simp
       try simp only [cf]
       try with_reducible rfl
      try simp only [qr]
     refine ql ?_;refine qq [4,5,6,7,8,9,10] ?_
     iterate 7
      refine tkS rfl c.o ?_
      try simp only [qr]
     refine ql ?_;refine qq [11,12,13,14,15,16] ?_
     iterate 6
      refine tkR (v:=?_) rfl c.o ?_ ?_;rotate_left
      ·rintro Wq ⟨x0,x1,x2,x3,x4,x5,x6⟩;go_simp
       try simp only [cg]
       try with_reducible rfl
      try simp only [qr]
     refine ql ?_;refine qq [17,18,19,20,21,22,23,24,25,26,27] ?_
     iterate 11
      refine tkS rfl c.o ?_
      try simp only [qr]
     refine ql ?_;refine qq [28,29] ?_
     iterate 2
      refine tkB rfl c.o ?_
      try simp only [qr]
     refine ql ?_;refine qz wB (qah ?_);gi_wp2;go_roundw
     case rel=>exact⟨k+1,wA,by go_num,af.o,aA.o⟩
     case measure=>simp [intOf];omega
  ·obtain rfl:k=r.body.length:=by omega
   clear bL;refine hd3 ?_ hK kE a5;clear hK kE a5;intro bj ba bF;gi_wp2;refine yA (v:=.bool true) (by simp [results,Tryz.results160,go_sem]) rfl ⟨by rw [bF.o],?_⟩;exact ba.o.mono fun b hb _=>by have:=a9.o;omega
end Go.Proofs
namespace Go.Proofs
open Go.RowKit Go.Ink Go.Flt R4 P16
theorem qm1 (body:List LitD):qaw body=(qao body).map fun i=>(body.getD i default).atom:=by
 have b:body=(List.range body.length).map (fun i=>body.getD i default):=by
  refine xX fun i=>?_;rw [zP];by_cases h:i<body.length
  ·rw [xr h,zB h];simp [zJ,zB h]
  ·rw [xB wA,xB (by simp;omega)];rfl
 unfold qaw
 conv=>lhs;rw [b]
 rw [filter_map,map_map]
 rfl
theorem q7l {r:RuleD}(b:qat r=true):qok r=qu r:=by
 unfold qok qu;rw [qk0 b]
 rfl
def nxJ (body:List LitD)(Cs:Nat->List qj)(neg:List qj):qa7:=qcx body (fun i=>Cs (qc7 body i)) neg
def nxM (r:RuleD)(Cs:Nat->List qj)(neg:List qj)(n:Nat)(a:Asg):List qac:=
 ((qbe (nxJ r.body Cs neg) r.body ((qao r.body).drop n) a).filter (qi4 (nxJ r.body Cs neg) r.body)).map (qbl r)
def nxF (r:RuleD)(Cs:Nat->List qj)(neg:List qj)(n:Nat)(a:Asg)(A:qcg)(f:qj):List qac:=
 if f.pred=A.pred then (match qbb a A.args f.tuple with |some a'=>nxM r Cs neg (n+1) a' |none=> []) else []
theorem q1r (r:RuleD)(Cs:Nat->List qj)(neg:List qj):qd3 (nxM r Cs neg 0 qb1)=qd0 (nxJ r.body Cs neg) r:=rfl
theorem q85 (r:RuleD)(Cs:Nat->List qj)(neg:List qj)(a:Asg):nxM r Cs neg (qao r.body).length a=if qi4 (nxJ r.body Cs neg) r.body a=true then [qbl r a] else []:=by
 unfold nxM;rw [xo];show List.map (qbl r) (List.filter _ [a])=_;rw [ye,filter_nil];split<;>rfl
theorem q7m {α β γ:Type}(f:α->List β)(p:β->Bool)(g:β->γ)(l:List α):((l.flatMap f).filter p).map g=l.flatMap fun x=>((f x).filter p).map g:=by
 induction l with
 |nil=>rfl
 |cons x l ih=>rw [yF,yF,yT,zn,ih]
theorem q1s {α β:Type}(p:α->Bool)(f:α->List β)(l:List α):(l.filter p).flatMap f=l.flatMap fun x=>if p x=true then f x else []:=by
 induction l with
 |nil=>rfl
 |cons x l ih=>
  rw [ye,yF];split
  ·rw [yF,ih]
  ·rw [ih];rfl
theorem q7n {r:RuleD}{Cs:Nat->List qj}{neg:List qj}{n:Nat}{A:qcg}(hA:(qaw r.body)[n]?=some A)(a:Asg):nxM r Cs neg n a=(Cs n).flatMap (nxF r Cs neg n a A):=by
 rw [qm1,zP]at hA;cases hi:(qao r.body)[n]? with
 |none=>rw [hi] at hA;cases hA
 |some i=>
  rw [hi]at hA;have hA:(r.body.getD i default).atom=A:=yI hA;have h:=(qc9 (zH hi)).2;unfold qbg at h;have hrk:=q52 hi;have d:(qao r.body).drop n=i::(qao r.body).drop (n+1):=by
   obtain⟨g,e⟩:=zA.1 hi;rw [zt g,e]
  have b:qbe (nxJ r.body Cs neg) r.body ((qao r.body).drop n) a=((Cs n).filter fun f=>decide (f.pred=A.pred)).flatMap fun f=>match qbb a A.args f.tuple with |some a'=>qbe (nxJ r.body Cs neg) r.body ((qao r.body).drop (n+1)) a' |none=> []:=by
   rw [d,qbe,zF wA,zF wA];show(qv (Cs (qc7 r.body i)) (r.body.getD i default).atom.pred (r.body.getD i default).atom.args.length).flatMap _=_;rw [hrk,hA];exact(q5v (Cs n) A.pred A.args a fun a'=>qbe (nxJ r.body Cs neg) r.body ((qao r.body).drop (n+1)) a').symm
  unfold nxM;rw [b,q1s,q7m]
  congr 1
  funext f
  unfold nxF;by_cases c:f.pred=A.pred
  ·rw [zI (zS c),zI c];cases qbb a A.args f.tuple with
   |none=>rfl
   |some a'=>rfl
  ·rw [zF (by simpa using c),zF c]
   rfl
def RStB (n:Nat)(w:World)(s:Option Nat)(c:List qj):Prop:=match s with
 |none=>c= []
 |some S=>S<n/\ ∃v,w.heap[S]?=some (.cells #[v] 57 (0,0))/\FactsIn n w v c
theorem RStB.keep {n:Nat}{w w':World}{s:Option Nat}{c:List qj}(h:RStB n w s c)(hK:Keep (fun b=>b<n) w w'):RStB n w' s c:=by
 cases s with
 |none=>exact h
 |some S=>
  obtain⟨d,v,e,g⟩:=h;exact⟨d,v,hK.heap e d,g.keep hK⟩
theorem RStB.read {n:Nat}{w:World}{s:Option Nat}{c:List qj}(h:RStB n w s c)(e:n<=w.heap.size):RSt w s c:=by
 cases s with
 |none=>exact h
 |some S=>
  obtain⟨g,v,b,d⟩:=h;exact⟨v,b,d.wider e⟩
theorem RSt.low {w:World}{s:Option Nat}{c:List qj}(h:RSt w s c):RStB w.heap.size w s c:=by
 cases s with
 |none=>exact h
 |some S=>
  obtain⟨v,b,d⟩:=h;exact⟨qe b,v,b,d⟩
abbrev qm2 (n:Nat)(w:World)(v:Value)(ins:List (Option Nat)):Prop:=SliceIn n w 1 (fun w b o s=>w.cell? ⟨b,o,none⟩=some (.pointer (s.map fun S=>⟨S,0,none⟩))) v ins
structure NxC (B:Nat)(w:World)(r:RuleD)(sh sb vv va vi:Value)(sN:Option Nat)(ps:List (qcg×Value))(ins:List (Option Nat))(Cs:Nat->List qj)(neg:List qj):Prop where
 rule:RuleIn B w sh sb r
 vars:qaf B w vv (qu r)
 atoms:qyo B w va ps
 pmap:ps.map (·.1)=qaw r.body
 args: ∀p,p∈ps->qak B w p.2 p.1.args
 ptrs:qm2 B w vi ins
 len:ins.length=ps.length
 sts: ∀(k:Nat) (s:Option Nat),ins[k]?=some s->RStB B w s (Cs k)
 ok: ∀(k:Nat) (x:qj),x∈Cs k->okF x=true
 no:RStB B w sN neg
theorem NxC.keep {B:Nat}{w w':World}{r:RuleD}{sh sb vv g l:Value}{sN:Option Nat}{ps:List (qcg×Value)}{c:List (Option Nat)}{Cs:Nat->List qj}{neg:List qj}(h:NxC B w r sh sb vv g l sN ps c Cs neg)(hK:Keep (fun b=>b<B) w w'):NxC B w' r sh sb vv g l sN ps c Cs neg:=
 ⟨h.rule.keep hK,qam h.vars hK,h.atoms.mono fun b o p d e=>fun j u m=>hK.cell (e j u m) d,h.pmap,fun p q=>qan (h.args p q) hK,h.ptrs.mono fun b o s d e=>hK.cell e d,h.len,fun k s t=>(h.sts k s t).keep hK,h.ok,h.no.keep hK⟩
structure NxO (B:Nat)(X:World)(cs:Value->Array Value)(vo:Value)(qs:List MQ):Prop where
 box:X.heap[B]?=some (.cells (cs vo) 195 (0,0))
 own:X.ownsRow (B+1) 122 2 vo qs.length (qs.flatMap qad)
 rows: ∀q,q∈qs->X.ownsRow (B+1) 9 1 q.2.1 q.1.head.length (q.1.head.map .string)/\X.ownsRow (B+1) 9 1 q.2.2 q.1.vals.length (q.1.vals.map .string)
 few: ∀q,q∈qs->q.1.head.length<=1073741824/\q.1.vals.length<=1073741824
def NxK (B:Nat)(X:World)(vo:Value)(b:Nat):Prop:=b<X.heap.size/\b≠B/\vo.ownBlock≠some b
theorem NxO.keep {B:Nat}{X Y:World}{b:Value->Array Value}{e:Value}{d:List MQ}(h:NxO B X b e d)(hK:wE X Y):NxO B Y b e d:=
 ⟨hK.heap h.box wF,qf h.own hK fun _ _=>wF,fun q c=>⟨qf (h.rows q c).1 hK fun _ _=>wF,qf (h.rows q c).2 hK fun _ _=>wF⟩,h.few⟩
theorem NxO.row {B:Nat}{X Y:World}{g:Value->Array Value}{d:Value}{p:List MQ}(h:NxO B X g d p){base n:Nat}{e:TypeId}{v:Value}{xs:List Value}(ho:X.ownsRow base e 1 v n xs)(l:e≠122)(m:e≠195)(hK:Keep (NxK B X d) X Y):Y.ownsRow base e 1 v n xs:=
 qf ho hK fun b c=>⟨(zE ho b c).2,qff ho h.box m c,fun e=>qc4 ho h.own l c e⟩
theorem NxO.low {B:Nat}{X Y:World}{d:Value->Array Value}{c:Value}{l:List MQ}(h:NxO B X d c l)(hK:Keep (NxK B X c) X Y):Keep (fun b=>b<B) X Y:=
 hK.mono fun b g m=>⟨g,wA,fun e=>by have:=(zE h.own b e).1;omega⟩
theorem NxO.mq {B:Nat}{X:World}{d:Value->Array Value}{e:Value}{c:List MQ}(h:NxO B X d e c): ∀q,q∈c->MqOk X.heap.size X q:=fun q b=>⟨qbj (h.rows q b).1 (h.few q b).1,qbj (h.rows q b).2 (h.few q b).2⟩
theorem NxK.trans {B:Nat}{X Y Z:World}{c d:Value}(l:Keep (NxK B X c) X Y)(q: ∀g,d.ownBlock=some g->c.ownBlock=some g∨X.heap.size<=g)(m:Keep (NxK B Y d) Y Z):Keep (NxK B X c) X Z:=
 l.trans (m.mono fun b p h=>⟨p,h.2.1,fun e=>by
  rcases q b e with h3 |h3
  ·exact h.2.2 h3
  ·have:=h.1;omega⟩)
theorem q1t {B:Nat}{X Y:World}{b:Value}(h:wE X Y):Keep (NxK B X b) X Y:=h.mt
theorem NxO.put {B:Nat}{X:World}{s t u x y z R l vh vv:Value}{c:List MQ}(h:NxO B X (fun v=> #[s,t,u,x,y,z,R,v]) l c){m:qac}(hh:X.ownsRow (B+1) 9 1 vh m.head.length (m.head.map .string))(hv:X.ownsRow (B+1) 9 1 vv m.vals.length (m.vals.map .string))(p:m.head.length<=1073741824/\m.vals.length<=1073741824)(hl:c.length<1073741824):
  Calls prog 124 #[qk B,.agg #[vh,vv]] X fun e Y=> ∃v0 vo' qs',e=.returned v0/\NxO B Y (fun v=> #[s,t,u,x,y,z,R,v]) vo' qs'/\Keep (NxK B X l) X Y/\qs'.map (·.1)=qcw (c.map (·.1)) m/\(∀g,vo'.ownBlock=some g->l.ownBlock=some g∨X.heap.size<=g)/\qs'.length=c.length+1:=by
 refine(qyp (n:=X.heap.size) h.box h.own (Nat.lt_succ_self B) (zG _) (by have:=qe h.box;omega) h.mq ⟨qbj hh p.1,qbj hv p.2⟩ hl).mono ?_;rintro e Y ⟨v0,vo',k,rfl,h1,h2,h3,U,h5⟩;have hK:Keep (NxK B X l) X Y:=h2;have d: ∀q,q∈c.take k++(m,vh,vv)::c.drop k->q∈c∨q=(m,vh,vv):=fun q b=>by
  rcases zr.1 b with b |b
  ·exact .inl (xj b)
  ·rcases zw.1 b with b |b
   ·exact .inr b
   ·exact .inl (mem_of_mem_drop b)
 refine⟨v0,vo',_,rfl,⟨h1,h3,fun q b=>?_,fun q b=>?_⟩,hK,U.symm,h5,?_⟩
 ·rcases d q b with b |rfl
  ·exact⟨h.row (h.rows q b).1 wD wD hK,h.row (h.rows q b).2 wD wD hK⟩
  ·exact⟨h.row hh wD wD hK,h.row hv wD wD hK⟩
 ·rcases d q b with b |rfl
  ·exact h.few q b
  ·exact p
 ·rw [zR,length_cons,yC,xu];by_cases hk:k<=c.length
  ·omega
  ·have:=yN List.length U;rw [zL,zR,length_cons,yC,xu]at this;have h6:(qcw (c.map (·.1)) m).length=c.length+1:=by rw [qx8,zL]
   omega
end Go.Proofs
namespace Go.Proofs
open Go.RowKit Go.Ink Go.Flt R4 P16
attribute [local go_sem] Oper.semAt_some
theorem q46 {r:RuleD}{n i:Nat}{A:qcg}{a a':Asg}{xs:List ByteArray}(hi:(qao r.body)[n]?=some i)(hA:(r.body.getD i default).atom=A)(h: ∀x,x∈q8 r.body ((qao r.body).take n)-> ∃v,a x=some v)(c:qbb a A.args xs=some a'): ∀x,x∈q8 r.body ((qao r.body).take (n+1))-> ∃v,a' x=some v:=fun x b=>by
 obtain⟨-,hd,-⟩:=qfh c;have d:=(qc9 (zH hi)).2;unfold qbg at d;unfold q8 at b h;rw [zh,hi,yG]at b;rcases zr.1 b with b |b
 ·exact(hd x).2 (.inl (h x b))
 ·refine(hd x).2 (.inr ?_);simp only [Option.toList_some,yF,xn,yP]at b;rw [zF wA,hA]at b;exact b
theorem q1u {r:RuleD}(c:qc1 r){a:Asg}(h: ∀x,x∈q8 r.body (qao r.body)-> ∃v,a x=some v): ∀t,t∈qbu r->KnT (qu r) a t:=fun t d e=>by
 have b:t.text∈r.names:=by
  rw [qk0 c.formed];unfold qal;exact yL.2 ⟨t,yV.2 ⟨d,e⟩,rfl⟩
 exact⟨by unfold qu;exact(qeh _ _).2 b,h _ (c.bound _ b)⟩
theorem qy9 {r:RuleD}(b:qc1 r){a:Asg}(h: ∀x,x∈q8 r.body (qao r.body)-> ∃v,a x=some v): ∀x,x∈qu r-> ∃v,a x=some v:=fun x c=>h x (b.bound x ((qeh _ _).1 c))
theorem q47 {B:Nat}{w0:World}{r:RuleD}{sh sb vv va vi:Value}{sN:Option Nat}{ps:List (qcg×Value)}{b8:List (Option Nat)}{Cs:Nat->List qj}{neg:List qj}(hr:qc1 r)(hC:NxC B w0 r sh sb vv va vi sN ps b8 Cs neg)(fi:B<=w0.heap.size):
  ∀(m n:Nat),n+m=ps.length-> ∀(W:World) (vo vl vk:Value) (qs:List MQ) (vals:List ByteArray) (kn:List Bool) (a:Asg),
   Keep (fun b=>b<B) w0 W->NxO B W (fun v=> #[.string r.head.pred,sh,sb,vv,va,vi,.pointer (sN.map fun S=>⟨S,0,none⟩),v]) vo qs->qck (qu r) vals kn a->W.ownsRow (B+1) 9 1 vl vals.length (vals.map .string)->W.ownsRow 0 4 1 vk kn.length (kn.map .bool)->
   (∀x,x∈q8 r.body ((qao r.body).take n)-> ∃v,a x=some v)->qs.length+(nxM r Cs neg n a).length<=1000000->
   Calls prog 123 #[qk B,.int .i64 (n:Int),vl,vk] W fun e W'=> ∃v0 vo' qs',e=.returned v0/\NxO B W' (fun v=> #[.string r.head.pred,sh,sb,vv,va,vi,.pointer (sN.map fun S=>⟨S,0,none⟩),v]) vo' qs'/\Keep (NxK B W vo) W W'/\
    qs'.map (·.1)=(nxM r Cs neg n a).foldl qcw (qs.map (·.1))/\(∀g,vo'.ownBlock=some g->vo.ownBlock=some g∨W.heap.size<=g)/\qs'.length=qs.length+(nxM r Cs neg n a).length:=by
 obtain⟨pN,ah⟩:=ex ((sN.map fun S=>(⟨S,0,none⟩:Addr)));have aY:ps.length=(qao r.body).length:=by
  have:=yN List.length hC.pmap;rw [zL,qm1,zL]at this;exact this
 obtain⟨ba,bc,rfl,-,-,-⟩:=id hC.rule.1;obtain⟨a9,bb,rfl,-,-,-⟩:=id hC.rule.2;obtain⟨av,cv,rfl,-,-,-⟩:=id hC.vars;obtain⟨ap,cp,rfl,fs,fp,az⟩:=id hC.atoms;obtain⟨ai,ci,rfl,eB,ew,ay⟩:=id hC.ptrs;have bJ:=hC.len;rw [bJ]at eB ew;intro m
 induction m with
 |zero=>
  intro n hn W vo vl vk qs vals kn a hK hO hA aj aA q af;have hn:n=ps.length:=wA
  subst hn;rw [aY,q85]at af⊢;rw [aY,zi]at q;have bL:=q1u hr q;have ad:=hC.keep hK;have eo:=qe hO.box;have aL:vals=(qbl r a).vals:=qwh hA (qy9 hr q);have bP:=qbj aj (by rw [aL];unfold qbl;rw [zL];have:=qiq hr.formed r.body.length (zG _);rw [qhi hr.formed] at this;have:=qgw hr.formed;omega);obtain⟨al,cl,rfl⟩:=qi aj;have c0:=qb hO.box 0 _ rfl;have c1:=qb hO.box 1 _ rfl;have c2:=qb hO.box 2 _ rfl;have c3:=qb hO.box 3 _ rfl;have c4:=qb hO.box 4 _ rfl;have c6:=qb hO.box 6 _ rfl;simp only [zD]at c0 c1 c2 c3 c4 c6;rw [ah]at c6;have hS: ∀X,wE W X->X.cell? ⟨B,0,none⟩=some (.string r.head.pred)/\X.cell? ⟨B,1,none⟩=some (.slice ba r.head.args.length bc)/\X.cell? ⟨B,2,none⟩=some (.slice a9 r.body.length bb)/\X.cell? ⟨B,3,none⟩=some (.slice av (qu r).length cv)/\X.cell? ⟨B,6,none⟩=some (.pointer pN):=fun X hX=>⟨hX.cell c0 wF,hX.cell c1 wF,hX.cell c2 wF,hX.cell c3 wF,hX.cell c6 wF⟩;obtain⟨Wd,ax⟩:=ex (W.drew);have kd:wE W Wd:=by rw [←ax];exact kDr
  have zd:=kd.size;have ak:=hS Wd kd;have fk:B<Wd.heap.size:=wA
  have ae:=ad.keep kd.mt;have y:=q1q (n:=Wd.heap.size) (w:=Wd) (pos:=fun i=>Cs (qc7 r.body i)) (ae.rule.wider wA) hA (qb4 ae.vars wA) (qb4 (qam bP kd.mt) zd) (zG _) (ae.no.read wA) (fun L hL _ t ht=>bL t (by unfold qbu;exact mem_append_right _ (xD.2 ⟨L,hL,ht⟩)));unfold qaq at y;rw [ah]at y;obtain⟨bR,bh⟩:=ex (qi4 (nxJ r.body Cs neg) r.body a);rw [bh]at af⊢;rw [show qi4 (qcx r.body (fun i=>Cs (qc7 r.body i)) neg) r.body a=bR from bh]at y;rw [←aY];have e2:((ps.length:Int)==ps.length)=true:=wC
  cases bR with
  |false=>
   rw [zF wC];refine qby ?_ hr hC ah az ay hK hO hA aj aA q bL ad aL bP hS;clear hr hC ah az ay hK hO hA aj aA q bL ad aL bP hS;intro aR cs aG bv bu bV U aP aI a2 ar cd aF aT bz aD;refine hd6 ?_ ax kd ak ae y bh;clear ax kd ak ae y bh;intro aE cx bo cV au cU;unfold qk
   go_enter Tryz.func123,Tryz.ntmps123
   go_wp2_with fail;refine qau rfl (fun X=>X.cell? ⟨B,0,none⟩=some (.string r.head.pred)/\X.cell? ⟨B,1,none⟩=some (.slice ba r.head.args.length bc)/\X.cell? ⟨B,2,none⟩=some (.slice a9 r.body.length bb)/\X.cell? ⟨B,3,none⟩=some (.slice av (qu r).length cv)/\X.cell? ⟨B,6,none⟩=some (.pointer pN)) [] ?_;rw [aE.o];refine qq [0,1,2,3,4,5,6,7,8,9,10,11,12] ?_
   iterate 13
    refine tkA rfl bo.o ?_
    try simp only [qr]
   refine ql ?_;refine ho 13 rfl fun K d=>?_;go_wp2_with fail;refine au.o.mono ?_;rintro e W1 ⟨rfl,k1⟩;have aB:wE W W1:=cx.o.trans (k1.mono fun b hb _=>hb);have aJ:=aD.o W1 aB;have en:B<W1.heap.size:=by have:=aB.size;omega
   clear k1;refine hd2 ?_ aB aJ;clear aB aJ;intro ao bq;go_wp2_with fail;refine d.o _ _ (fun _=>bq.o) ?_;refine qa0 wB ?_;clear d;go_wp2_with fail;refine yA (yt rfl _ _ _) rfl ⟨_,vo,qs,rfl,U.o.keep ao.o,q1t ao.o,rfl,fun g h=>.inl h,rfl⟩
  |true=>
   rw [zI rfl]at af⊢;refine qby ?_ hr hC ah az ay hK hO hA aj aA q bL ad aL bP hS;clear hr hC ah az ay hK hO hA aj aA q bL ad aL bP hS;intro aR cs aG bv bu bV U aP aI a2 ar cd aF aT bz aD;refine hd6 ?_ ax kd ak ae y bh;clear ax kd ak ae y bh;intro aE cx bo cV au cU;unfold qk
   go_enter Tryz.func123,Tryz.ntmps123
   go_wp2_with fail;refine qau rfl (fun X=>X.cell? ⟨B,0,none⟩=some (.string r.head.pred)/\X.cell? ⟨B,1,none⟩=some (.slice ba r.head.args.length bc)/\X.cell? ⟨B,2,none⟩=some (.slice a9 r.body.length bb)/\X.cell? ⟨B,3,none⟩=some (.slice av (qu r).length cv)/\X.cell? ⟨B,6,none⟩=some (.pointer pN)) [] ?_;rw [aE.o];refine qq [0,1,2,3,4,5,6,7,8,9,10,11,12] ?_
   iterate 13
    refine tkA rfl bo.o ?_
    try simp only [qr]
   refine ql ?_;refine ho 13 rfl fun K d=>?_;go_wp2_with fail;refine au.o.mono ?_;rintro e W1 ⟨rfl,k1⟩;have aB:wE W W1:=cx.o.trans (k1.mono fun b hb _=>hb);have aJ:=aD.o W1 aB;have en:B<W1.heap.size:=by have:=aB.size;omega
   clear k1;refine hd2 ?_ aB aJ;clear aB aJ;intro ao bq;go_wp2_with fail;refine d.o _ _ (fun _=>bq.o) ?_;refine qa0 wB ?_;clear d;have z:=U.o.keep ao.o;have cC:=aF.o.keep ao.o.mt;obtain⟨We,cB⟩:=ex (W1.drew);have ke:wE W1 We:=by rw [←cB];exact kDr
   have bS:=ao.o.trans ke;have dt:=aD.o We bS;have fl:B<We.heap.size:=by have:=ke.size;omega
   have dA:=qr1 (n:=We.heap.size) (w:=We) aP.o (qb4 (cC.vars |>fun h=>qam h ke.mt) wA) (qb4 (qam bz.o bS.mt) bS.size) (zG _) r.head (qfj (qan cC.rule.1 ke.mt) wA) (fun t ht=>cd.o t (by unfold qbu;exact xd _ ht));clear cC;refine hd6 ?_ z cB ke bS dt dA;clear z cB ke bS dt dA;intro am cT fa dh cP cX;go_wp2_with fail;refine qau rfl (fun X=>X.cell? ⟨B,0,none⟩=some (.string r.head.pred)/\X.cell? ⟨B,1,none⟩=some (.slice ba r.head.args.length bc)/\X.cell? ⟨B,2,none⟩=some (.slice a9 r.body.length bb)/\X.cell? ⟨B,3,none⟩=some (.slice av (qu r).length cv)/\X.cell? ⟨B,6,none⟩=some (.pointer pN)) [] ?_;rw [cT.o];refine qq [0,1,2,3,4,5,6,7,8,9,10,13] ?_
   iterate 12
    refine tkA rfl cP.o ?_
    try simp only [qr]
   refine ql ?_;refine ho 11 rfl fun K d=>?_;go_wp2_with fail;refine cX.o.mono ?_;rintro e W2 ⟨v1,rfl,o1,k2⟩;have bl:=dh.o.trans k2;have dq:=aD.o W2 bl;have cA:=U.o.keep bl;have co:=qf aI.o bl fun _ _=>trivial;have cD:(qbl r a).head.length=r.head.args.length:=by unfold qbl;rw [zL]
   have dT:W2.ownsRow (B+1) 9 1 v1 (qbl r a).head.length ((qbl r a).head.map .string):=by rw [cD];exact o1.mono (by have:=qe U.o.box;omega)
   have cq:W2.ownsRow (B+1) 9 1 (.slice al vals.length cl) (qbl r a).vals.length ((qbl r a).vals.map .string):=by rw [←aT.o];exact co
   have a5:=cA.put dT cq ⟨by rw [cD];have:=qjv aR.o.formed;omega,by rw [←aT.o];obtain⟨_,_,_,h,_⟩:=id bz.o;exact h⟩ wA;rw [aG.o]at a5;obtain⟨a1,dl,rfl⟩:=qi o1;have ey: ∀w,(Instr.field 86 (.agg #[.string r.head.pred,.slice a1 r.head.args.length dl]) 1).run prog w=.ok (.slice a1 r.head.args.length dl) w:=fun _=>wB
   have fj:B<W2.heap.size:=by have:=bl.size;omega
   unfold qk at a5;clear o1 dT co cq cD k2;refine hd4 ?_ bl dq cA a5;clear bl dq cA a5;intro cg ca eN cu;go_wp2_with fail;refine d.o _ _ (fun _=>ca.o) ?_;refine qq [12,14] ?_
   iterate 2
    refine tkN (v:=?_) rfl ca.o ?_ ?_;rotate_left
    ·rintro Wq ⟨x1,x2,x3,x4,x5⟩;go_simp
     try simp only [ey]
     try with_reducible rfl
    try simp only [qr]
   refine ql ?_;refine ho 15 rfl fun K u=>?_;go_wp2_with fail;refine cu.o.mono ?_;rintro e W3 ⟨v0,vo',qs',rfl,aU,k3,dI,dC,ez⟩;have d0:=qb aU.box 0 _ rfl;have d1:=qb aU.box 1 _ rfl;have d2:=qb aU.box 2 _ rfl;have d3:=qb aU.box 3 _ rfl;have d6:=qb aU.box 6 _ rfl;simp only [zD]at d0 d1 d2 d3 d6;have dr:W3.cell? ⟨B,0,none⟩=some (.string r.head.pred)/\W3.cell? ⟨B,1,none⟩=some (.slice ba r.head.args.length bc)/\W3.cell? ⟨B,2,none⟩=some (.slice a9 r.body.length bb)/\W3.cell? ⟨B,3,none⟩=some (.slice av (qu r).length cv)/\W3.cell? ⟨B,6,none⟩=some (.pointer pN):=⟨d0,d1,d2,d3,d6⟩;have bK:Keep (NxK B W vo) W W3:=NxK.trans (q1t cg.o) (fun g h=>.inl h) k3;have bI: ∀g,vo'.ownBlock=some g->vo.ownBlock=some g∨W.heap.size<=g:=fun g h=>by
    rcases dC g h with h |h
    ·exact .inl h
    ·exact .inr (by have:=cg.o.size;omega)
   clear d0 d1 d2 d3 d6 dC k3;refine hd5 ?_ aU dr bK bI dI;clear aU dr bK bI dI;intro cQ cN bx bw da;go_wp2_with fail;refine u.o _ _ (fun _=>cN.o) ?_;refine qa0 wB ?_;clear d u;go_wp2_with fail;refine yA (yt rfl _ _ _) rfl ⟨_,vo',qs',rfl,by rw [aG.o];exact cQ.o,bx.o,da.o,bw.o,ez⟩
 |succ m ih=>
  intro n hn W vo vl vk qs vals kn a hK hO hA aj aA q af;have eD:n<ps.length:=wA
  obtain⟨p,hp⟩: ∃p,ps[n]?=some p:=⟨_,zB eD⟩;obtain⟨s,hs⟩: ∃s,b8[n]?=some s:=⟨_,zB wA⟩;have dM:=zH hp;have b6:(qaw r.body)[n]?=some p.1:=by rw [←hC.pmap,zP,hp];rfl
  have bN:=q7n (Cs:=Cs) (neg:=neg) b6 a;rw [bN]at af⊢;obtain⟨i,hi⟩: ∃i,(qao r.body)[n]?=some i:=⟨_,zB wA⟩;have bF:(r.body.getD i default).atom=p.1:=by
   rw [qm1,zP,hi]at b6;exact yI b6
  have b5: ∀t,t∈p.1.args->qeq (qu r) t:=fun t ht=>by
   obtain⟨hl,hk⟩:=qc9 (zH hi);unfold qbg at hk;refine qye hr (L:=r.body.getD i default) (by rw [zJ,zB hl];exact xE hl) ?_;unfold qm;rw [zF wA,bF];exact ht
  have ad:=hC.keep hK;have b7:=ad.sts n s hs;have eo:=qe hO.box;obtain⟨bp,op,es,b3,bG⟩:=az n p hp;obtain⟨bi,oi,er,dy,cm⟩:=ay n s hs;subst es;subst er;have p0:=hK.cell (bG 0 _ rfl) b3;have p1:=hK.cell (bG 1 _ rfl) b3;have i0:=hK.cell cm dy;simp only [Nat.add_zero,yB]at p0 i0;have ft:(0:Int)<=n:=wA
  have fu:(n:Int)<ps.length:=wA
  have fv:(n:Int)<b8.length:=wA
  have fw:((n:Int)==ps.length)=false:=y7.2 wA;rw [ah]at hO ih⊢;have c4:=qb hO.box 4 _ rfl;have c5:=qb hO.box 5 _ rfl;simp only [zD]at c4 c5;have eW:bp<W.heap.size:=wA
  have eV:bi<W.heap.size:=wA
  clear b6 bN bG cm;cases s with
  |none=>
   have cz:Cs n= []:=b7;rw [cz]at af⊢;simp only [Option.map_none]at i0;refine qby ?_ hr hC ah aY bJ az ay hK hO hA aj aA q b5 ad b7;clear hr hC ah aY bJ az ay hK hO hA aj aA q b5 ad b7;intro aR cs aG dd c7 bv bu bV U aP aI a2 ar cc aF eP;refine hd6 ?_ hi bF hp hs ih cz;clear hi bF hp hs ih cz;intro cZ b9 d5 d7 dg eM;unfold qk
   go_enter Tryz.func123,Tryz.ntmps123
   go_wp2_with fail
   go_loopw [8] (fun ix wr=>ix=.int .i64 0/\wr=W) (fun _ _=>0)
   case atStart=>exact⟨rfl,rfl⟩
   case round=>
    obtain⟨rfl,eF⟩:=hrel;subst eF;go_wp2_with fail;refine xy (yt rfl _ _ _) rfl ⟨_,vo,qs,rfl,U.o,Keep.refl _ _,rfl,fun g h=>.inl h,rfl⟩
  |some S=>
   obtain⟨dw,vS,hS,hF⟩:=b7;obtain⟨c,hc⟩:=ex (Cs n);have aX:=hC.ok n;rw [hc]at hF aX af⊢;obtain⟨aS,cS,rfl,fr,fo,dz⟩:=id hF;simp only [Option.map_some]at i0;have dP:=i0;refine qby ?_ hr hC ah aY bJ az ay hK hO hA aj aA q b5 ad hi;clear hr hC ah aY bJ az ay hK hO hA aj aA q b5 ad hi;intro aR cs aG dd c7 bv bu bV U aP aI a2 ar cc aF cZ;refine qlx ?_ bF hp hs ih hc aX hF dz hS p0 p1 dP dM;clear bF hp hs ih hc aX hF dz hS p0 p1 dP dM;intro b9 d5 d7 dg e9 dc e8 cW aD d9 ea df de;unfold qk
   go_enter Tryz.func123,Tryz.ntmps123
   go_wp2_with fail;clear c4 c5 i0
   go_loopw [8] (fun ix wr=> ∃(k:Nat) (a0:Value) (aN:List MQ),k<=c.length/\ix=.int .i64 (k:Int)/\Keep (NxK B W vo) W wr/\NxO B wr (fun v=> #[.string r.head.pred,.slice ba r.head.args.length bc,.slice a9 r.body.length bb,.slice av (qu r).length cv,.slice (some ⟨bp,op,none⟩) ps.length cp,.slice (some ⟨bi,oi,none⟩) b8.length ci,.pointer pN,v]) a0 aN/\aN.map (·.1)=((c.take k).flatMap (nxF r Cs neg n a p.1)).foldl qcw (qs.map (·.1))/\(∀g,a0.ownBlock=some g->vo.ownBlock=some g∨W.heap.size<=g)/\aN.length=qs.length+((c.take k).flatMap (nxF r Cs neg n a p.1)).length) (fun ix _=>c.length-(intOf ix).toNat)
   case atStart=>exact⟨0,vo,qs,wA,rfl,Keep.refl _ _,U.o,rfl,fun g h=>.inl h,wC⟩
   case round=>
    obtain⟨k,a0,aN,hk,rfl,aK,z,aW,bj,aV⟩:=hrel;have l:=U.o.low aK;have fx:=aK.size;have c3:=qb z.box 3 _ rfl;have c4:=qb z.box 4 _ rfl;have c5:=qb z.box 5 _ rfl;have fm:=qe z.box;have e0:=l.cell d9.o b3;have e1:=l.cell ea.o b3;have j0:=l.cell df.o dy;have ep:=qb (l.heap aD.o dw) 0 _ rfl;have lS:=qe (l.heap aD.o dw);simp only [zD]at c3 c4 c5 ep;have fI:bp<wr.heap.size:=wA
    have fH:bi<wr.heap.size:=wA
    have fq:(0:Int)<=k:=wA
    by_cases dH:k<c.length
    ·as_aux_lemma=>
      have eZ:(k:Int)<c.length:=wA
      obtain⟨f,bH⟩: ∃f,c[k]?=some f:=⟨_,zB dH⟩;obtain⟨bf,fJ,rfl,dx,sv,a3,bO⟩:=cW.o k f bH;have q0:=l.cell (a3 0 _ rfl) dx;have q1:=l.cell (a3 1 _ rfl) dx;have fG:bf<wr.heap.size:=wA
      simp only [Nat.add_zero]at q0;have bM:(c.take (k+1)).flatMap (nxF r Cs neg n a p.1)=(c.take k).flatMap (nxF r Cs neg n a p.1)++nxF r Cs neg n a p.1 f:=by rw [zh,bH,yG];simp
      have eA:((c.take (k+1)).flatMap (nxF r Cs neg n a p.1)).length<=(c.flatMap (nxF r Cs neg n a p.1)).length:=by
       conv=>rhs;rw [←yw (k+1) c,yG,zR]
       omega
      obtain⟨M,hM⟩:=ex (wr.heap.size);obtain⟨W3,bg⟩:=ex (wr.alloc (.cells #[.string f.pred,sv] 86));have k3:wE wr W3:=by rw [←bg];exact kAl
      have p3:W3.heap[M]?=some (.cells #[.string f.pred,sv] 86 (0,0)):=by rw [←bg,←hM];exact qh _ _
      have m0:=qb p3 0 _ rfl;have m1:=qb p3 1 _ rfl;simp only [zD]at m0 m1;have b4:=k3.cell c4 trivial;have g0:=k3.cell e0 trivial;have lM:=qe p3;have z3:=k3.size;have fB:B<W3.heap.size:=wA
      have fE:bp<W3.heap.size:=wA
      have b1: ∀X,wE W3 X->X.cell? ⟨B,3,none⟩=some (.slice av (qu r).length cv)/\X.cell? ⟨B,4,none⟩=some (.slice (some ⟨bp,op,none⟩) ps.length cp)/\X.cell? ⟨bp,op+n*2,none⟩=some (.string p.1.pred)/\X.cell? ⟨bp,op+n*2+1,none⟩=some p.2/\X.cell? ⟨M,0,none⟩=some (.string f.pred)/\X.cell? ⟨M,1,none⟩=some sv:=fun X hX=>⟨hX.cell (k3.cell c3 wF) wF,hX.cell b4 wF,hX.cell g0 wF,hX.cell (k3.cell e1 wF) wF,hX.cell m0 wF,hX.cell m1 wF⟩;obtain⟨ec,eg,rfl,-,-,-⟩:=id bO;by_cases bk:f.pred=p.1.pred
      ·have eE:=qdn bk;have dK:=zH bH;clear bH a3;refine qub ?_ bk aK z aW bj l bM b1 bg k3 p3 hM bO m1 e1;clear bk aK z aW bj l bM b1 bg k3 p3 hM bO m1 e1;intro ce u am an Y aa aH br bt bW eb ct cf d8 d4;go_wp2_with fail;rw [bt.o,ct.o]
       go_quiet (fail)
       go_wp2_with fail;obtain⟨W4,b2⟩:=ex (W3.drewN nq);rw [b2];have dS:wE W3 W4:=by rw [←b2];exact Keep.drewN' _ _ _
       obtain⟨Wd,ax⟩:=ex (W4.drew);have bU:wE W3 Wd:=by rw [←ax];exact dS.trans kDr
       have ds:=br.o Wd bU;have aZ:=bW.o.trans bU;have ae:=(aF.o.keep aa.o).keep aZ.mt;have dO:=qf (U.o.row aI.o wD wD u.o) aZ fun _ _=>trivial;have dE:=qf (U.o.row a2.o wD wD u.o) aZ fun _ _=>trivial;have fz:=aZ.size;have cG:(qu r).length<=1073741824:=by have:=qiq aR.o.formed r.body.length (zG _);rw [qhi aR.o.formed] at this;have:=qgw aR.o.formed;omega
       have dB:=q1o (n:=Wd.heap.size) (w:=Wd) aP.o (qz1 r) (qb4 ae.vars wA) (qbj dO (by rw [aP.o.lv];exact cG)) (q1n dE rfl (by rw [aP.o.lk];exact cG)) (qb4 (qam cf.o (aa.o.trans aZ.mt)) wA) (fun s hs=>qus (dc.o f dK) hs) (zG _) p.1 (qfj (ae.args p de.o) wA) cc.o;have fC:B<Wd.heap.size:=wA
       have fF:bp<Wd.heap.size:=wA
       have fD:M<Wd.heap.size:=by have:=bU.size;omega
       clear dO dE cG ae dS;refine hd6 ?_ b2 ax bU ds aZ dB;clear b2 ax bU ds aZ dB;intro eO aE di cO dk cY;go_wp2_with fail;refine qau rfl (fun X=>X.cell? ⟨B,3,none⟩=some (.slice av (qu r).length cv)/\X.cell? ⟨B,4,none⟩=some (.slice (some ⟨bp,op,none⟩) ps.length cp)/\X.cell? ⟨bp,op+n*2,none⟩=some (.string p.1.pred)/\X.cell? ⟨bp,op+n*2+1,none⟩=some p.2/\X.cell? ⟨M,0,none⟩=some (.string f.pred)/\X.cell? ⟨M,1,none⟩=some (.slice ec f.tuple.length eg)) [] ?_;rw [aE.o];refine qq [0,1,2,3,4,5,6,7,8,9,10,11,12,13,14] ?_
       iterate 15
        refine tkA rfl cO.o ?_
        try simp only [qr]
       refine ql ?_;refine ho 15 rfl fun K d=>?_;go_wp2_with fail;refine cY.o.mono ?_;rintro e W5 ⟨v',k',ok,rfl,k5,cE,bQ⟩;have aM:=dk.o.trans k5;have b0:=br.o W5 (di.o.trans k5);have bd:=am.o.keep aM;have fy:=aM.size;have a4:Keep (NxK B W vo) W W5:=u.o.trans aM.mt;cases ag:qbb a p.1.args f.tuple with
       |none=>
        have aX:=cE ag;subst aX;have ak:nxF r Cs neg n a p.1 f= []:=by unfold nxF;rw [zI ce.o,ag]
        have R:=aH.o;rw [ak,yP]at R;clear cE bQ ag ak k5;refine hd5 ?_ aM b0 bd a4 R;clear aM b0 bd a4 R;intro dj aC cb aQ ab;go_wp2_with fail;refine d.o _ _ (fun _=>aC.o) ?_;refine qq [16,17,18,19,20,21,22] ?_
        iterate 7
         refine tkA rfl aC.o ?_
         try simp only [qr]
        refine ql ?_;refine qa0 wB ?_;clear d;go_wp2_with fail;go_roundw
        case rel=>exact⟨k+1,a0,aN,wA,by go_num,aQ.o,cb.o,by rw [ab.o];exact an.o,Y.o,by rw [ab.o];exact aV⟩
        case measure=>simp [intOf];omega
       |some a'=>
        obtain⟨aX,us,bs,dp,oU,oB⟩:=bQ a' ag;subst aX;have aJ:nxF r Cs neg n a p.1 f=nxM r Cs neg (n+1) a':=by unfold nxF;rw [zI ce.o,ag]
        have R:=aH.o;rw [aJ]at R;rw [R,zR]at eA;have a7:=dg.o (n+1) wA W5 a0 v' k' aN us bs a' ((bV.o.trans aa.o).trans aM.mt) bd dp (oU.mono (by have:=qe bd.box;omega)) (oB.mono (ya _)) (q46 cZ.o b9.o ar.o ag) wA;rw [show((n+1:Nat):Int)=(n:Int)+1 from wA]at a7;unfold qk at a7;clear cE bQ ag aJ k5 dp oU oB;refine hd6 ?_ aM b0 bd a4 R a7;clear aM b0 bd a4 R a7;intro dj aC cb aQ ab cw;go_wp2_with fail;refine d.o _ _ (fun _=>aC.o) ?_;refine qq [16,17,18,19,20,21,22] ?_
        iterate 7
         refine tkA rfl aC.o ?_
         try simp only [qr]
        refine ql ?_;refine qa0 wB ?_;clear d;go_wp2_with fail;refine cw.o.mono ?_;rintro e W6 ⟨v0,dU,cJ,rfl,dv,k6,dJ,dD,dF⟩;have bK:=NxK.trans aQ.o Y.o k6;have dL:cJ.map (·.1)=((c.take (k+1)).flatMap (nxF r Cs neg n a p.1)).foldl qcw (qs.map (·.1)):=by rw [ab.o,yl,dJ,an.o]
        have bI: ∀g,dU.ownBlock=some g->vo.ownBlock=some g∨W.heap.size<=g:=fun g h=>by
         rcases dD g h with h |h
         ·exact Y.o g h
         ·exact .inr wA
        have dG:cJ.length=qs.length+((c.take (k+1)).flatMap (nxF r Cs neg n a p.1)).length:=by rw [ab.o,zR,dF,aV];omega
        clear k6 dJ dD dF;refine hd5 ?_ dv bK dL bI dG;clear dv bK dL bI dG;intro cR bx db bw c9;go_wp2_with fail;go_roundw
        case rel=>exact⟨k+1,dU,cJ,wA,by go_num,bx.o,cR.o,db.o,bw.o,c9.o⟩
        case measure=>simp [intOf];omega
      ·have eE:=qcv bk;have ak:nxF r Cs neg n a p.1 f= []:=by unfold nxF;rw [zF bk]
       rw [ak,yP]at bM;clear bH a3 bk ak;refine qk2 ?_ aK z aW bj l bM b1 bg k3 p3 hM bO m1 e1;clear aK z aW bj l bM b1 bg k3 p3 hM bO m1 e1;intro u am an Y aa aH br bt bW eb ct cf d8 d4;go_wp2_with fail;rw [bt.o,ct.o]
       go_quiet (fail)
       go_wp2_with fail;go_roundw
       case rel=>exact⟨k+1,a0,aN,wA,by go_num,u.o.trans ((bW.o.trans (Keep.drewN' _ _ _)).mt),am.o.keep (bW.o.trans (Keep.drewN' _ _ _)),by rw [aH.o];exact an.o,Y.o,by rw [aH.o];exact aV⟩
       case measure=>simp [intOf];omega
    ·as_aux_lemma=>
      obtain rfl:k=c.length:=wA
      rw [zi]at aW aV;clear dH;rw [length_flatMap]at aV;refine hd6 ?_ aK z aW bj l aV;clear aK z aW bj l aV;intro u am an Y aa c8;go_wp2_with fail;refine xy (yt rfl _ _ _) rfl ?_;exact⟨⟨_,rfl⟩,a0,aN,am.o,u.o,an.o,Y.o,c8.o⟩
end Go.Proofs
