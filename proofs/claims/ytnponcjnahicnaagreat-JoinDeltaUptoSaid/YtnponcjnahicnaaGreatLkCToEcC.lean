/- Parts of the proof. -/
import Derived.Test.YtnponcjnahicnaaGreatWkMToLkB
import Derived.Test.YtnponcjnahicnaaGreatPnX
set_option linter.unusedSimpArgs false
set_option linter.unusedVariables false
set_option maxRecDepth 100000
set_option maxHeartbeats 4000000
open Go.Proofs.Tryz(prog)
open List(all_eq_false any_append any_cons any_nil drop_zero eq_nil_iff_forall_not_mem getElem_range length_eq_zero_iff length_replicate map_map nodup_nil toList_toArray)
namespace Go.Proofs
open Go.RowKit Go.Ink Go.Flt R4 P16
attribute [local go_sem] Oper.semAt_some
theorem q8p {r:RuleD}{sizes:List qap}{first:Int}(g:qb6 sizes=true)(d:qej r=true)(c:qa3 r first=false)(j:Nat)(l:j<=r.body.length): ∀s,s∈(qb3 r sizes first j).steps->0<=s.lit:=by
 induction j with
 |zero=>intro s h;simp [qb3] at h
 |succ j ih=>
  obtain⟨k,b,-⟩:=qi6 (sizes:=sizes) d c (show j<r.body.length from wC) (qoi g d c j wC) (fun h=>by subst h;rfl);have e:qb3 r sizes first (j+1)=qik r sizes (k:Int) (qb3 r sizes first j):=by
   show qik r sizes (qhf r sizes first j (qb3 r sizes first j)) (qb3 r sizes first j)=_;rw [b]
  rw [e];intro s h;rcases zr.1 h with h |h
  ·exact ih wC s h
  ·rw [zm]at h;subst h;unfold qbo;split
   ·exact Int.natCast_nonneg k
   ·exact Int.natCast_nonneg k
def qdw (body:List LitD)(ks:List LookD):Nat->List qap
 |0=> []
 |i+1=>qdw body ks i++if (body.getD i default).kind=1 then [⟨(body.getD i default).atom.pred,((ks.getD i ⟨none,⟨#[]⟩,0,0⟩).upto:Int),[]⟩] else []
def qd5 (body:List LitD)(ks:List LookD):List qap:=qdw body ks body.length
def qup (s:qap):List Value:= [.string s.pred,.int .i64 s.rows,.slice none 0 0]
theorem qox (body:List LitD)(ks:List LookD)(i:Nat):(qdw body ks i).length<=i:=by
 induction i with
 |zero=>exact zG _
 |succ i ih=>
  unfold qdw;rw [zR];split
  ·simp;exact ih
  ·simp;omega
theorem quq (body:List LitD)(ks:List LookD)(i:Nat): ∀s,s∈qdw body ks i->s.dist= []:=by
 induction i with
 |zero=>intro s h;cases h
 |succ i ih=>
  intro s h;unfold qdw at h;rcases zr.1 h with h |h
  ·exact ih s h
  ·split at h
   ·rw [zm]at h;subst h;rfl
   ·cases h
theorem qzi {w:World}{base:Nat}{e:TypeId}{v:Value}{n:Nat}{ss:List qap}(h:w.ownsRow base e 3 v n (ss.flatMap qup))(p:ss.length<=1073741824)(hd: ∀s,s∈ss->s.dist= []):SizesIn w.heap.size w v ss:=
 qdb h ss (by have:=h.1;rw [qa4 _ 3 (fun _=>rfl)] at this;omega) p (q6n w.heap.size) fun b k d c q=>by
  refine⟨.slice none 0 0,fun j u l=>?_,?_⟩
  ·have g:j<3:=(zA.1 l).1;rw [q j g,qbj _ 3 (fun _=>rfl) _ k j d c g];exact l
  ·rw [hd d (zH c)];exact⟨none,0,rfl,wE,by simp [maxLen],fun k x m=>by simp at m⟩
theorem q7h:qcj prog 202 204 3 48:=qc2 (z:=.agg #[.string ⟨#[]⟩,.int .i64 0,.slice none 0 0]) wD wD rfl wF wF
theorem JoinAt.rule {U:Nat->Prop}{n:Nat}{w:World}{J:Nat}{r:RuleD}{vars:List ByteArray}{pos:List Int}{c e vv g m vh:Value}(h:JoinAt U n w J r vars pos c e vv g m vh):RuleIn n w c e r:=
 ⟨h.head.mono fun _ _ _ _ d=>d.2,h.body.mono fun b o L _ d=>by
  obtain⟨-,sa,l,p⟩:=d;exact⟨sa,l,p.mono fun _ _ _ _ q=>q.2⟩⟩
def qpl (ss:List qds):List Value:=ss.map fun s=>.int .i64 s.lit
theorem q2d {U:Nat->Prop}{n:Nat}{w:World}{J:Nat}{r:RuleD}{vars:List ByteArray}{pos:List Int}{cv vb vv va vt vh:Value}(hj:JoinAt U n w J r vars pos cv vb vv va vt vh)(hn:n<=w.heap.size){Lk:Nat}{ks:List LookD}
  (aS:w.heap[Lk]?=some (.cells (ks.flatMap LookD.cells).toArray 161 (0,0))) (bb:ks.length=r.body.length) (first:Int) (m:qeh r (qd5 r.body ks) (qa3 r first)=0):
  Calls prog 85 #[qi J,.slice (some ⟨Lk,0,none⟩) r.body.length r.body.length,.int .i64 first] w fun e w'=> ∃vo,e=.returned vo/\w'.ownsRow w.heap.size 3 1 vo (qg2 r (qd5 r.body ks) first).length ((qg2 r (qd5 r.body ks) first).map fun i:Nat=>.int .i64 (i:Int))/\Keep (fun b=>b<w.heap.size) w w':=by
 have hp:qaq r=true/\qb6 (qd5 r.body ks)=true/\qa3 r first=false/\qej r=true:=by
  unfold qeh at m;cases h1:qaq r<;>cases h2:qb6 (qd5 r.body ks)<;>cases h3:qej r<;>cases h4:qa3 r first<;>rw [h1,h2,h3,h4] at m<;>first |exact⟨rfl,rfl,rfl,rfl⟩ |(exfalso;revert m;decide)
 obtain⟨hF,hu,hf,hs⟩:=hp;have a5:=qoi hu hs hf r.body.length (zG _);have ad:=q8p hu hs hf r.body.length (zG _);have ap:qjr r (qd5 r.body ks) first=(⟨r,(qb3 r (qd5 r.body ks) first r.body.length).steps⟩,0):=by unfold qjr;rw [m,zF wE]
 have aU:=a5.stp;obtain⟨steps,ax⟩:=ex ((qb3 r (qd5 r.body ks) first r.body.length).steps);rw [ax]at ap aU ad;have aZ:(qg2 r (qd5 r.body ks) first).length=steps.length:=by unfold qg2;rw [ax,zL]
 have aW:((qg2 r (qd5 r.body ks) first).map fun i:Nat=>Value.int .i64 (i:Int))=qpl steps:=by
  unfold qg2 qpl;rw [ax,map_map];refine xC fun s hs=>?_;have:=ad s hs;simp only [Function.comp];rw [Int.toNat_of_nonneg this]
 rw [aZ,aW];have y:=hj.rule;obtain⟨ab,cb,aG,d8,eb,bo⟩:=id hj.body;obtain⟨ah,ch,ae,ei,dS,-⟩:=id hj.head;obtain⟨N,hN⟩:=ex (w.heap.size);have ak:=hj.box;rw [aG,ae]at ak;rw [aG,ae]at y;have c0:=qb ak 0 _ rfl;have c1:=qb ak 1 _ rfl;have c2:=qb ak 2 _ rfl;have lJ:=qe ak;have lL:=qe aS;simp only [zD]at c0 c1 c2;have b7: ∀X,Keep (fun b=>b<N) w X->X.cell? ⟨J,0,none⟩=some (.string r.head.pred)/\X.cell? ⟨J,1,none⟩=some (.slice ah r.head.args.length ch)/\X.cell? ⟨J,2,none⟩=some (.slice ab r.body.length cb)/\J<X.heap.size:=fun X hX=>⟨hX.cell c0 (show J<N from wC),hX.cell c1 (show J<N from wC),hX.cell c2 (show J<N from wC),by have:=hX.size;omega⟩;clear c0 c1 ak;refine qb5 ?_ hj aS bb m hF hu hf hs a5 ad ap aU ax aZ aW y;clear hj aS bb m hF hu hf hs a5 ad ap aU ax aZ aW y;intro ey b9 bR cV eB et eC ee dd cW aX aI du dx dq aB;refine hd5 ?_ bo aG ae hN b7;clear bo aG ae hN b7;intro bh dr cE g aJ;refine qbr Tryz.func85 rfl ?_;simp only [Tryz.ntmps85,qd0,Nat.reduceAdd,Nat.reduceSub];gi_wp2;gi_loopw [7,21] (fun x7 i' X=> ∃i:Nat,i<=r.body.length/\i'=.int .i64 (i:Int)/\Keep (fun b=>b<N) w X/\X.ownsRow N 204 3 x7 (qdw r.body ks i).length ((qdw r.body ks i).flatMap qup)) (fun _ i _=>r.body.length-(intOf i).toNat)
 case atStart=>exact⟨0,wC,rfl,Keep.refl _ _,zj _ _ _ _⟩
 case round=>
  obtain⟨i,hi,rfl,hK,ho⟩:=hrel;have dP:=hK.size;by_cases ag:i<r.body.length
  ·have br:(i:Int)<r.body.length:=by omega
   have cA:(0:Int)<=i:=wC
   obtain⟨L,hL⟩: ∃L,r.body[i]?=some L:=⟨_,zB ag⟩;have bi:r.body.getD i default=L:=by rw [zJ,hL];rfl
   obtain⟨k,hk⟩: ∃k,ks[i]?=some k:=⟨_,zB (by rw [bR.o];exact ag)⟩;have b0:ks.getD i ⟨none,⟨#[]⟩,0,0⟩=k:=by rw [zJ,hk];rfl
   have d:qdw r.body ks (i+1)=qdw r.body ks i++if L.kind=1 then [⟨L.atom.pred,(k.upto:Int),[]⟩] else []:=by
    show qdw r.body ks i++_=_;rw [bi,b0]
   have dT:=qox r.body ks i;obtain⟨b4,o4,rfl,dX,bw,sa,t,aT⟩:=bh.o i L hL;have l:b4<N:=by have:=g.o;omega
   have d0:=hK.cell (t 0 _ rfl) l;have d1:=hK.cell (t 1 _ rfl) l;have d2:=hK.cell (t 2 _ rfl) l;have d3:=hK.cell (t 3 _ rfl) l;have d4:=hK.cell (t 4 _ rfl) l;have d5:=hK.cell (t 5 _ rfl) l;have d6:=hK.cell (t 6 _ rfl) l;have df:b4<wr.heap.size:=by have:=g.o;omega
   obtain⟨aa,ca,rfl,cR,cS,-⟩:=id aT;have aY:wr.cell? ⟨Lk,i*4+3,none⟩=some (.int .i64 (k.upto:Int)):=by
    have c4:=hK.heap b9.o (by have:=g.o;omega);have:=qb c4 (i*4+3) (.int .i64 (k.upto:Int)) (by rw [toList_toArray,qwk (f:=LookD.cells) (n:=4) (fun _=>rfl) _ _ _ hk 3 wC];rfl)
    simpa using this
   have dG:Lk<wr.heap.size:=by have:=g.o;omega
   obtain⟨kd,⟨pr,args⟩,⟨lv,lt⟩,⟨rv,rt⟩⟩:=L;simp only at d0 d1 d2 d3 d4 d5 d6 cR cS d;simp only [Nat.add_zero]at d0;obtain⟨a7,c7,rfl⟩:=qj ho;have ay:=qf ho (Keep.alloc (fun _=>True) wr (.cells #[.int .i64 kd,.string pr,.slice aa args.length ca,.bool lv,.string lt,.bool rv,.string rt] 64)) (fun _ _=>wH);have ai:Keep (fun b=>b<N) w (wr.alloc (.cells #[.int .i64 kd,.string pr,.slice aa args.length ca,.bool lv,.string lt,.bool rv,.string rt] 64)):=hK.trans kAl;clear t hL bi hk b0;by_cases aV:kd=1
   ·subst aV;rw [zI rfl]at d;obtain⟨B,hB⟩:=ex (wr.heap.size);obtain⟨W1,am⟩:=ex (wr.alloc (.cells #[.int .i64 1,.string pr,.slice aa args.length ca,.bool lv,.string lt,.bool rv,.string rt] 64));rw [am]at ay ai;have nb:W1.heap[B]?=some (.cells #[.int .i64 1,.string pr,.slice aa args.length ca,.bool lv,.string lt,.bool rv,.string rt] 64 (0,0)):=by rw [←am,←hB];exact qh _ _
    have kW:wG wr W1:=by rw [←am];exact kAl
    have hS: ∀X,wG W1 X->X.cell? ⟨B,1,none⟩=some (.string pr)/\X.cell? ⟨Lk,i*4+3,none⟩=some (.int .i64 (k.upto:Int)):=fun X hX=>by
     have q:=qb (hX.heap nb wH) 1 _ rfl;simp only [zD]at q;exact⟨q,(kW.trans hX).cell aY wH⟩
    have aF:=hS _ kDr;obtain⟨W2,aA⟩:=ex (W1.drew);have z:wG W1 W2:=by rw [←aA];exact kDr
    have aq:=qf ay z (fun _ _=>wH);rw [aA]at aF;have zN:N<=W2.heap.size:=by have:=ai.size;have:=z.size;have:=g.o;omega
    obtain⟨v',W3,bp,bD,k3,g3,bW,c8,bO,b6⟩:=qc8 (P:=prog) q7h 202 aq [.string pr,.int .i64 (k.upto:Int),.slice none 0 0] rfl (by simp [Value.oneCell']) wC zN;subst c8;have bz:=hS (W2.alloc (.cells #[.string pr,.int .i64 (k.upto:Int),.slice none 0 0] 204)) (z.trans kAl);have b5:W3.cell? ⟨B,1,none⟩=some (.string pr)/\W3.cell? ⟨Lk,i*4+3,none⟩=some (.int .i64 (k.upto:Int)):=by
     obtain⟨q1,q2⟩:=aF;refine⟨k3.cell q1 (fun e=>?_),k3.cell q2 (fun e=>?_)⟩
     ·obtain⟨cs,aD⟩:=qa1 aq e.symm;rw [z.heap nb trivial]at aD;injection aD with aD
      injection aD with _ h2 _
      revert h2
      decide
     ·have h:=(zE aq _ e.symm).1;exact absurd (show N<=Lk from h) (by have:=g.o;omega)
    have bt:Keep (fun b=>b<N) w W3:=(ai.trans z.mt).trans (k3.mono fun b _ (hb:b<N) e=>by have:=(zE aq b e.symm).1;omega);have p:W3.ownsRow N 204 3 (.slice (some ⟨g3,0,none⟩) ((qdw r.body ks i).length+1) bW) (qdw r.body ks (i+1)).length ((qdw r.body ks (i+1)).flatMap qup):=by
     rw [d,zR,yG];exact bD
    have lB:=qe nb;clear aT bw ay aq bD k3 bO ho aY ai;refine qb5 ?_ hK d am hB aA nb kW hS aF bz b5 bt p bp z b6;clear hK d am hB aA nb kW hS aF bz b5 bt p bp z b6;intro aj ao bu cX b1 ez eg dK bn bK aK bM x b8 dj dh;gi_wp2;rw [bu.o,cX.o];refine qae ?_;refine qw rfl (fun X=>X.cell? ⟨B,1,none⟩=some (.string pr)/\X.cell? ⟨Lk,i*4+3,none⟩=some (.int .i64 (k.upto:Int))) [] ?_;rw [b1.o];refine qy [0,1,2,3,4,5,6,7,8,9] ?_
    iterate 10
     refine tkR (v:=?_) rfl bn.o ?_ ?_;rotate_left
     ·rintro Wq ⟨x1,x2⟩;go_simp
      try with_reducible rfl
     try simp only [qz]
    refine qm ?_;refine hoR 10 rfl fun K aM=>?_;gi_wp2;refine aM.o _ _ (fun _=>bK.o) ?_;refine hoR 11 rfl fun K Y=>?_;refine qck rfl (.tmp 29) (.tmp 39) 202 rfl rfl rfl b8.o ?_;gi_wp2;refine Y.o _ _ (fun _=>aK.o) ?_;refine qy [12] ?_
    iterate 1
     refine tkR (v:=?_) rfl aK.o ?_ ?_;rotate_left
     ·rintro Wq ⟨x1,x2⟩;go_simp
      try with_reducible rfl
     try simp only [qz]
    refine qm ?_;refine ql wD (qo ?_);clear aM Y;gi_wp2;go_roundw
    case rel=>exact⟨i+1,wC,by go_num,bM.o,x.o⟩
    case measure=>simp [intOf];omega
   ·rw [zF aV,yQ]at d;have ew: ¬kd=1:=aV;clear aT bw ho aY;refine hd4 ?_ hK d ay ai;clear hK d ay ai;intro aj ao ba Y;gi_wp2;go_roundw
    case rel=>exact⟨i+1,wC,by go_num,Y.o,by rw [ao.o];exact ba.o⟩
    case measure=>simp [intOf];omega
  ·obtain rfl:i=r.body.length:=by omega
   have bq:=qzi ho (by have:=qox r.body ks r.body.length;omega) (quq _ _ _);have aw:=q5s wr.heap.size r _ _ (qd5 r.body ks) u7 first wr ((aB.o.keep (hK.mono fun b _ h=>by have:=g.o;omega)).wider wC) bq (zG _)
   rw [aX.o]at aw;obtain⟨a7,c7,rfl⟩:=qj ho;obtain⟨q0,q1,q2,q3⟩:=aJ.o wr hK;unfold qam q6q at aw;clear bq ho ag;simp only at aw;refine hd2 ?_ aw hK;clear aw hK;intro bQ aj;gi_wp2;refine⟨wH,rfl,(zU.2 bQ.o).mono ?_⟩;rintro e Wp ⟨cC,cP,dD,rfl,af,kp⟩;obtain⟨qs,aC,au,bN⟩:=af.2;have dJ:=kp.size;simp only at aC au;obtain⟨bS,cM,rfl⟩:=qj au;have bk:qs.length=steps.length:=by rw [←aC,zL]
   have aP:=aI.o;have dl:steps.length<=1073741824:=wC
   obtain⟨ar,cr,rfl⟩: ∃a c,cC=.slice a r.head.args.length c:=qj af.1.1;have bs: ∃a c,cP=.slice a r.body.length c:=by
    obtain⟨ps,h1,h2,-⟩:=af.1.2;exact qj h2
   obtain⟨cU,cI,rfl⟩:=bs;clear af;have a2:Keep (fun b=>b<N) w Wp:=aj.o.trans (kp.mono fun b _ (h:b<N)=>by have:=g.o;have:=aj.o.size;omega);clear q0 q1 q2 q3;clear aP;obtain⟨W5,a4⟩:=ex (Wp.alloc (.cells #[.string r.head.pred,.slice ar r.head.args.length cr,.slice cU r.body.length cI,.slice bS steps.length cM] 207));have k5:wG Wp W5:=by rw [←a4];exact kAl
   have bj:Keep (fun b=>b<N) w W5:=a2.trans k5.mt;have aL:=qf au k5 (fun _ _=>wH);refine qdz ?_ aC au bk kp a2 a4 k5 bj aL bN;clear aC au bk kp a2 a4 k5 bj aL bN;intro bL di bG en dp bg er al R b3;gi_wp2;rw [bg.o];gi_loopw [12,55] (fun cL i' X=> ∃i:Nat,i<=steps.length/\i'=.int .i64 (i:Int)/\Keep (fun b=>b<W5.heap.size) W5 X/\X.ownsRow W5.heap.size 3 1 cL i (qpl (steps.take i))) (fun _ i _=>steps.length-(intOf i).toNat)
   case atStart=>exact⟨0,wC,rfl,Keep.refl _ _,zj _ _ _ _⟩
   case round=>
    obtain⟨i,hi,rfl,hK,ho⟩:=hrel;have c9:=hK.size;by_cases ag:i<steps.length
    ·have br:(i:Int)<steps.length:=by omega
     have cA:(0:Int)<=i:=wC
     obtain⟨q,hq⟩: ∃q,qs[i]?=some q:=⟨_,zB (by rw [bG.o];exact ag)⟩;have aH:steps[i]?=some q.1:=by rw [←bL.o,zP,hq];rfl
     obtain⟨gs,cx⟩: ∃gs,bS=some ⟨gs,0,none⟩:=by
      rcases R.o.2 with e |⟨gb',cap,cur,e1',_⟩
      ·have:=e.2;omega
      ·injection e1' with e1' _ _;exact⟨_,e1'⟩
     subst cx;have aE:=qf R.o hK (fun b hb=>(zE R.o b hb).2);have m0:=qcp aE (i*3) _ ((qbj qmb 3 (fun _=>rfl) qs i 0 q hq wF).trans rfl);have m1:=qcp aE (i*3+1) _ ((qbj qmb 3 (fun _=>rfl) qs i 1 q hq wF).trans rfl);have m2:=qcp aE (i*3+2) _ ((qbj qmb 3 (fun _=>rfl) qs i 2 q hq wF).trans rfl);have cy:=zQ _ _ m0;simp only at cy;have d:qpl (steps.take (i+1))=qpl (steps.take i)++ [.int .i64 q.1.lit]:=by unfold qpl;rw [zh,aH];simp
     have an:=b3.o q (zH hq);obtain⟨⟨bm,bd,nw⟩,bv,nv⟩:=q;obtain⟨cN,cQ,rfl⟩: ∃a c,bv=.slice a bd.length c:=qj an.1;obtain⟨c6,cH,rfl⟩: ∃a c,nv=.slice a nw.length c:=qj an.2;clear an;simp only [qmb]at m0 m1 m2 d;obtain⟨bP,bf,rfl⟩:=qj ho;obtain⟨W6,av⟩:=ex (wr.alloc (.cells #[.int .i64 bm,.slice cN bd.length cQ,.slice c6 nw.length cH] 211));have k6:wG wr W6:=by rw [←av];exact kAl
     have z6:W6.heap.size=wr.heap.size+1:=by rw [←av];simp
     have a0:=qf ho k6 (fun _ _=>wH);obtain⟨v',W7,aQ,bx,k7,g7,aO,cG,b2,bF⟩:=qc8 (P:=prog) qlo 86 a0 [.int .i64 bm] rfl (by simp [Value.oneCell']) wC wC;subst cG;rw [z6,←av]at aQ;have bl:Keep (fun b=>b<W5.heap.size) W5 W7:=(hK.trans k6.mt).trans (k7.mono fun b _ (hb:b<W5.heap.size) e=>by have:=(zE a0 b e.symm).1;omega);have p:W7.ownsRow W5.heap.size 3 1 (.slice (some ⟨g7,0,none⟩) (i+1) aO) (i+1) (qpl (steps.take (i+1))):=by rw [d];exact bx
     clear aE hq aH a0 bx k7 b2 ho;refine hd9 ?_ hK d av k6 z6 aQ bl p bF;clear hK d av k6 z6 aQ bl p bF;intro aj ao de dR dY bJ bH x dk
     gi_wp2_with (gi_at_builtin;refine qck (v:=.slice bP i bf) (u:=.slice (some ⟨wr.heap.size+1,0,none⟩) 1 1) (v':=.slice (some ⟨g7,0,none⟩) (i+1) aO) (w':=W7) rfl (.tmp 59) (.tmp 62) 86 rfl rfl rfl bJ.o ?_)
     go_roundw
     case rel=>exact⟨i+1,wC,by go_num,bH.o,x.o⟩
     case measure=>simp [intOf];omega
    ·obtain rfl:i=steps.length:=by omega
     rw [zi]at ho;obtain⟨bP,bf,rfl⟩:=qj ho;have a1:Keep (fun b=>b<N) w wr:=al.o.trans (hK.mono fun b _ (h:b<N)=>by have:=g.o;have:=al.o.size;omega);obtain⟨q0,q1,q2,q3⟩:=aJ.o wr a1;have c3:N<=W5.heap.size:=by have:=g.o;have:=al.o.size;omega
     have aN:=ho.mono c3;have aP:(steps.length:Int)=r.body.length:=by rw [aI.o]
     clear ho ag hi;refine hd3 ?_ hK a1 aN;clear hK a1 aN;intro aj bc aR;gi_wp2;go_ret;exact⟨_,rfl,by rw [g.o];exact aR.o,bc.o.mono fun b _ (h:b<w.heap.size)=>by have:=g.o;omega⟩
end Go.Proofs
namespace Go.Proofs
open Go.RowKit Go.Ink Go.Flt R4 P16
def qfd (Ss:List Nat)(g:Gh):Prop:= ∀S,S∈Ss-> ∃f,g.st S=some f/\ ∀x,x∈f->okF x=true
def qbt (n0:Nat)(Ss:List Nat):qgm Gh where
 inv g X:=GInv g X/\qfd Ss g
 free:=Gh.free
 istep g X g' Y:=GStep n0 g X g' Y/\g'.st=g.st
 bstep:=GBd
 ifree h:=h.1.keep
 inew h:=h.1.new
 bnew h:=h.new
 bmono hn h:=h.mono hn
 invk h hK:=⟨h.1.keep hK,h.2⟩
def qcd (g:Gh)(s:Option Nat):List qk:=match s with
 |none=> []
 |some S=>(g.st S).getD []
def qdo (g:Gh)(sF:Nat->Option Nat)(sN:Option Nat)(body:List LitD):qbd:=qd3 body (fun i=>qcd g (sF (qcb body i))) (qcd g sN)
def qdx (g:Gh)(sF:Nat->Option Nat)(sN:Option Nat)(body:List LitD):List LookD:=qf2 g sF sN body
def qgl (g:Gh)(sF:Nat->Option Nat)(sN:Option Nat)(r:RuleD)(first:Int):List Nat:=qg2 r (qd5 r.body (qdx g sF sN r.body)) first
def qeu (g:Gh)(sF:Nat->Option Nat)(sN:Option Nat)(r:RuleD)(first:Int):List Asg:=qbl (qdo g sF sN r.body) r.body (qgl g sF sN r first) qca
def qkq (g:Gh)(s sN:Option Nat)(body:List LitD):qbd:=qd3 body (fun _=>qcd g s) (qcd g sN)
def ql4 (g:Gh)(s sN:Option Nat)(r:RuleD)(first:Int):List Asg:=qeu g (fun _=>s) sN r first
structure qce (r:RuleD):Prop where
 formed:qaq r=true
 safe:qej r=true
 bound:q8m r
 small: ∀L t,L∈r.body->t∈qq L->t.text.size<=1073741824
 preds: ∀L,L∈r.body->L.atom.pred.size<=1073741824
 head:r.head.pred≠⟨#[]⟩
theorem qkr (g:Gh)(s:Option Nat)(p:ByteArray)(n:Nat):qfw g s p n=(qv (qcd g s) p n).length:=by
 unfold qfw qcd;cases s with
 |none=>rfl
 |some S=>
  simp only;cases g.st S with
  |none=>rfl
  |some f=>rfl
theorem qsn {g:Gh}{sF:Nat->Option Nat}{sN:Option Nat}{body:List LitD}{i:Nat}{k:LookD}(h:(qdx g sF sN body)[i]?=some k):k=qfm g sF sN body i/\i<body.length:=by
 unfold qdx qf2 at h;rw [zP]at h;obtain⟨j,c,rfl⟩:=xQ.1 h;obtain⟨d,b⟩:=zA.1 c;rw [getElem_range]at b;subst b;exact⟨rfl,by simpa using d⟩
theorem qw3 (body:List LitD)(ks:List LookD)(b: ∀k,k∈ks->k.upto<=67108864)(i:Nat):(qdw body ks i).any qii=false:=by
 induction i with
 |zero=>rfl
 |succ i ih=>
  unfold qdw;rw [any_append,ih,xJ];split
  ·have c:(ks.getD i ⟨none,⟨#[]⟩,0,0⟩).upto<=67108864:=by
    rw [zJ];cases h:ks[i]? with
    |none=>simp
    |some k=>exact b k (zH h)
   simp only [any_cons,any_nil,Bool.or_false];unfold qii qh1;simp only [any_nil,Bool.or_false];rw [zM wC,zM wC]
   rfl
  ·rfl
theorem q7i {g:Gh}{W:World}(b:GInv g W)(s:Option Nat):(qcd g s).length<=67108864:=by
 unfold qcd;cases s with
 |none=>simp
 |some S=>
  simp only;cases h:g.st S with
  |none=>simp
  |some f=>
   obtain⟨T,M,MX,e,xs,d,c⟩:=b.store S f h;exact c.few
theorem qja {g:Gh}{W:World}(b:GInv g W)(s:Option Nat):(qcd g s).Nodup:=by
 unfold qcd;cases s with
 |none=>exact nodup_nil
 |some S=>
  simp only;cases h:g.st S with
  |none=>exact nodup_nil
  |some f=>
   obtain⟨T,M,MX,e,xs,d,c⟩:=b.store S f h;exact c.nodup
theorem q5g {g:Gh}{W:World}(b:GInv g W)(s:Option Nat)(p:ByteArray)(n:Nat):qfw g s p n<=67108864:=by
 rw [qkr];exact zW (qj2 _ _ _) (q7i b s)
theorem qhx {g:Gh}{W:World}(c:GInv g W)(sF:Nat->Option Nat)(sN:Option Nat){r:RuleD}(b:qce r)(first:Int)(e:qa3 r first=false):qeh r (qd5 r.body (qdx g sF sN r.body)) (qa3 r first)=0:=by
 have h:qb6 (qd5 r.body (qdx g sF sN r.body))=true:=by
  unfold qb6 qd5;rw [qw3]
  ·rfl
  ·intro k d;obtain⟨i,hi⟩:=zy.1 d;obtain⟨rfl,-⟩:=qsn hi;exact q5g c _ _ _
 unfold qeh;rw [b.formed,h,e,b.safe]
 rfl
theorem qqn {r:RuleD}:qa3 r (-1)=false:=by
 unfold qa3;rw [zM wC,zM wC,zM wC]
 rfl
theorem q5h {g:Gh}{W:World}(x:GInv g W){sF:Nat->Option Nat}{sN:Option Nat}{r:RuleD}(R:qce r){first:Int}(u:qa3 r first=false)(h:okJ g sF sN r.body r.body.length=false):qeu g sF sN r first= []:=by
 obtain⟨v,X,y⟩:=qid (qhx x sF sN R first u);unfold okJ at h;rw [all_eq_false]at h;obtain⟨j,m,l⟩:=h;rw [yk]at m;refine eq_nil_iff_forall_not_mem.2 fun b d=>?_;have q:=(qln (qgl g sF sN r first) qca b (by rw [qg1];exact y)).1 d;have c:=q.2.2 j ((v j).2 m);simp only [ya,xL,yR,zT,not_or,Classical.not_not]at l;obtain⟨e,p⟩:=l;unfold qgi at c;rw [zF (by rw [e];decide),zF (by rw [e];decide)]at c;have U:qfm g sF sN r.body j=⟨sF (qcb r.body j),(r.body.getD j default).atom.pred,(r.body.getD j default).atom.args.length,qfw g (sF (qcb r.body j)) (r.body.getD j default).atom.pred (r.body.getD j default).atom.args.length⟩:=by unfold qfm qlr;rw [zI e]
 rw [U]at p;simp only [qkr]at p;have z:(qdo g sF sN r.body).pos j= []:=by
  unfold qdo qd3;simp only;exact length_eq_zero_iff.1 wC
 rw [z]at c;obtain⟨t,s,-⟩:=c;cases s
theorem qyf {r:RuleD}{L:LitD}{t:TermD}(e:qce r)(d:L∈r.body)(c:t∈qq L):qex (qu r) t:=fun g=>by
 unfold qu;rw [qep];refine qlx (L:=L) (yD _ d) ?_ g;have l:=qj4 e.formed;obtain⟨i,hi⟩:=zy.1 d;have b:=l i (zA.1 hi).1;unfold qbm at b;rw [zJ,hi]at b;simp only [Option.getD_some]at b;unfold qq at c;unfold LitD.terms;rcases b with h |h |h
 ·rw [zF wC]at c;rw [zI (.inl h)];exact c
 ·rw [zF wC]at c;rw [zI (.inr h)];exact c
 ·rw [zI h]at c;rw [zF wC,zI h];exact c
theorem q7j {r:RuleD}{t:TermD}(b:t∈r.head.args):qex (qu r) t:=fun c=>by
 unfold qu;rw [qep];refine qlx (L:=r.headLit) (yJ ..) ?_ c;unfold LitD.terms RuleD.headLit;rw [zI (.inl rfl)];exact b
theorem q5i {g:Gh}{W:World}(d:GInv g W){sF:Nat->Option Nat}{sN:Option Nat}{r:RuleD}(c:qce r){first:Int}(h:qa3 r first=false){x:ByteArray}(b:x∈qu r):x∈q8 r.body (qgl g sF sN r first):=by
 obtain⟨l,e,m⟩:=qid (qhx d sF sN c first h);unfold qu at b;rw [qep]at b;exact(qk4 l e x).2 (c.bound x b)
theorem q7k {g:Gh}{Ss:List Nat}(R:qfd Ss g){c:WkC}{sF:Nat->Option Nat}{sN:Option Nat}(x: ∀m S,sF m=some S->S∈Ss)(u: ∀S,sN=some S->S∈Ss)(Y:c.looks=qdx g sF sN c.r.body)(h:okJ g sF sN c.r.body c.r.body.length=true):LookOk c (qdo g sF sN c.r.body) g:=by
 intro i L k X y;rw [Y]at y;obtain⟨rfl,hi⟩:=qsn y;have b:c.r.body.getD i default=L:=by rw [zJ,X];rfl
 have p:(qfm g sF sN c.r.body i).pred=L.atom.pred:=by unfold qfm;rw [b]
 have v:(qfm g sF sN c.r.body i).arity=L.atom.args.length:=by unfold qfm;rw [b]
 refine⟨p,v,fun z=>?_,fun U=>?_⟩
 ·unfold okJ at h;rw [yM]at h;have q:=h i (yk.2 hi);rw [b,zS z,Bool.not_true,xJ,zT]at q;obtain⟨s,l⟩:=ex (sF (qcb c.r.body i));have e:qfm g sF sN c.r.body i=⟨s,L.atom.pred,L.atom.args.length,qfw g s L.atom.pred L.atom.args.length⟩:=by unfold qfm qlr;rw [b,zI z,l]
  rw [e]at q⊢;simp only at q⊢;cases s with
  |none=>cases q
  |some S=>
   obtain⟨f,t,-⟩:=R S (x _ S l);have d:qcd g (some S)=f:=by unfold qcd;simp only;rw [t];rfl
   rw [qkr,d]at q⊢;refine⟨S,f,rfl,t,q,zG _,?_⟩;rw [zi];unfold qdo qd3;simp only;rw [b,l,d]
 ·have e:qfm g sF sN c.r.body i=⟨sN,L.atom.pred,L.atom.args.length,qfw g sN L.atom.pred L.atom.args.length⟩:=by unfold qfm qlr;rw [b,zF wC,zI U]
  rw [e];simp only;cases sN with
  |none=>
   left;refine⟨rfl,?_⟩
   unfold qdo qd3 qcd qv
   rfl
  |some S=>
   obtain⟨f,t,-⟩:=R S (u S rfl);have d:qcd g (some S)=f:=by unfold qcd;simp only;rw [t];rfl
   rw [qkr,d];refine .inr ⟨S,f,rfl,t,zG _,?_⟩;rw [zi];unfold qdo qd3;simp only;rw [b,d]
theorem qur {x:qk}(h:okF x=true){s:ByteArray}(b:s∈x.tuple):s.size<=1073741824:=by
 unfold okF at h;rw [zV,xL]at h;have:=xb.1 h.2 s b;simp only [zT]at this;omega
theorem q2e {g:Gh}{Ss:List Nat}(e:qfd Ss g){s:Option Nat}(c: ∀S,s=some S->S∈Ss): ∀x,x∈qcd g s->okF x=true:=by
 intro x b;unfold qcd at b;cases s with
 |none=>cases b
 |some S=>
  obtain⟨f,d,ho⟩:=e S (c S rfl);simp only at b;rw [d]at b;exact ho x b
theorem qzj {g:Gh}{Ss:List Nat}(e:qfd Ss g){sF:Nat->Option Nat}(c: ∀m S,sF m=some S->S∈Ss)(sN:Option Nat)(body:List LitD): ∀i t y,t∈(qdo g sF sN body).pos i->y∈t->y.size<=1073741824:=by
 intro i t y b d;unfold qdo qd3 at b;simp only at b;exact qur (q2e e (c _) _ (qco.1 b).1) d
def EachV (U:Nat->Prop)(nU n0:Nat)(W0 X:World):Prop:=(∀b,U b->X.heap[b]?=W0.heap[b]?)/\nU<=X.heap.size/\n0<=X.heap.size
theorem EachV.keep {U:Nat->Prop}{d n0:Nat}{W0 X Y:World}{C:Nat->Prop}(h:EachV U d n0 W0 X)(g: ∀b,U b->b<d)(hK:Keep C X Y)(e: ∀b,U b->C b):EachV U d n0 W0 Y:=
 ⟨fun b c=>(hK.block b (by have:=g b c;have:=h.2.1;omega) (e b c)).trans (h.1 b c),zW h.2.1 hK.size,zW h.2.2 hK.size⟩
theorem q5j {g:Gh}{W X:World}(c:GInv g W){b:Nat}(m:W.heap.size<=b){o:Obj}(d:X.heap[b]?=some o):(g.hold W.heap.size X).held b=some o:=by
 have l:g.tag b=none:=by
  cases e:g.tag b with
  |none=>rfl
  |some T=>have:=c.lt b T e;omega
 have h:g.held b=none:=by
  cases e:g.held b with
  |none=>rfl
  |some T=>have:=qe (c.hold b T e);omega
 simp only [Gh.hold];rw [zI ⟨m,qe d,l,h⟩];exact d
theorem qus {C:Nat->Prop}{W X:World}(h:Keep C W X)(d: ∀b,b<W.heap.size->C b):wG W X:=h.mono fun b c _=>d b c
theorem YieldAt.mono {P:Program}{F:Fence}{n:Nat}{l:Nat}{args:Array Value}{X:World}{Q b:Ending->World->Prop}(h:YieldAt F n P l args X Q)(c: ∀e w,Q e w->b e w):YieldAt F n P l args X b:=by
 obtain⟨fn,tmps,assign,body,d,g⟩:=h;exact⟨fn,tmps,assign,body,d,g.mono c⟩
theorem q7l {vars:List ByteArray}:qcs vars (List.replicate vars.length ⟨#[]⟩) (List.replicate vars.length false) qca:=by
 refine⟨wE,wE,fun p x c=>?_,fun p x v _ h=>(by cases h),fun x v h=>(by cases h)⟩;have b:=(zA.1 c).1;rw [xW,zI b];constructor
 ·intro h;cases h
 ·rintro⟨v,h⟩;cases h
theorem qzk {n0:Nat}{Ss:List Nat}{U:Nat->Prop}{nU:Nat}{W0:World}{J:Nat}{r:RuleD}{pos:List Int}{ay vb vv va vt vh:Value}(hr:qce r)(hj:JoinAt U nU W0 J r (qu r) pos ay vb vv va vt vh)(ae: ∀b,U b->b<nU)
  {sF:Nat->Option Nat} {sN:Option Nat} (aG: ∀m S,sF m=some S->S∈Ss) (aW: ∀S,sN=some S->S∈Ss) {first:Int} (hf:qa3 r first=false)
  {l:Nat} {Jp Jx:Nat->Gh->World->Prop} {W:World} {g0:Gh} (hinv:GInv g0 W) (al:qfd Ss g0) (hV:EachV U nU n0 W0 W) (hU: ∀b,U b->g0.free b)
  (hJ: ∀k γ X γ' Y,Jp k γ X->(qbt n0 Ss).istep γ X γ' Y->Jp k γ' Y) (a1: ∀k γ X γ' Y,Jx k γ X->(qbt n0 Ss).istep γ X γ' Y->Jx k γ' Y)
  (ab: ∀k γ X0 X args,k<(qeu g0 sF sN r first).length->Jp k γ X0->(qbt n0 Ss).istep γ X0 γ X->(qbt n0 Ss).inv γ X->EachV U nU n0 W0 X->W.heap.size<=X0.heap.size->(∃b,(qeu g0 sF sN r first)[k]?=some b/\qju r (qu r) b γ X0.heap.size X args)->YieldAt Fence.wide 0 prog l args X (qh8 (qbt n0 Ss) (EachV U nU n0 W0) Jp Jx k γ X))
  (h0:Jp 0 g0 W) (aY:okJ g0 sF sN r.body r.body.length=true)
  {X:World} (hK:wG W X) {Bj By Bl Lk Bs V KK Bv Bk Bt Bu Bp:Nat} {ao:Option Addr} {co:Nat}
  (l1:W.heap.size<=Bj) (l2:W.heap.size<=By) (l3:W.heap.size<=Bl) (l4:W.heap.size<=Lk) (l5:W.heap.size<=Bs) (l6:W.heap.size<=V) (l7:W.heap.size<=KK) (l8:W.heap.size<=Bv) (l9:W.heap.size<=Bk) (aX:W.heap.size<=Bt) (aT:W.heap.size<=Bu) (aZ:W.heap.size<=Bp)
  (ah:X.ownsRow W.heap.size 3 1 (.slice ao (qgl g0 sF sN r first).length co) (qgl g0 sF sN r first).length ((qgl g0 sF sN r first).map fun i:Nat=>.int .i64 (i:Int)))
  (p1:X.heap[Bj]?=some (.cells #[qi J] 31 (0,0))) (p2:X.heap[By]?=some (.cells #[.func (.yield l) #[] #[]] 103 (0,0))) (p3:X.heap[Bl]?=some (.cells #[.slice (some ⟨Lk,0,none⟩) r.body.length r.body.length] 153 (0,0)))
  (p4:X.heap[Lk]?=some (.cells ((qdx g0 sF sN r.body).flatMap LookD.cells).toArray 161 (0,0))) (p5:X.heap[Bs]?=some (.cells #[.slice ao (qgl g0 sF sN r first).length co] 86 (0,0)))
  (p6:X.heap[V]?=some (.cells (Array.replicate (qu r).length (.string ⟨#[]⟩)) 9 (0,0))) (p7:X.heap[KK]?=some (.cells (madeCells #[.bool false] (qu r).length) 4 (0,0)))
  (p8:X.heap[Bv]?=some (.cells #[.slice (some ⟨V,0,none⟩) (qu r).length (qu r).length] 46 (0,0))) (p9:X.heap[Bk]?=some (.cells #[.slice (some ⟨KK,0,none⟩) (qu r).length (qu r).length] 68 (0,0)))
  (aF:X.heap[Bt]?=some (.cells #[.func (.func 86) #[] #[qi Bv]] 157 (0,0))) (aH:X.heap[Bu]?=some (.cells #[.func (.func 87) #[] #[qi Bt]] 158 (0,0)))
  (aA:X.heap[Bp]?=some (.cells #[.func (.func 88) #[] #[qi Bs,qi By,qi Bu,qi Bj,qi Bv,qi Bl,qi Bt,qi Bp,qi Bk]] 159 (0,0))):
  Calls prog 88 #[.int .i64 0,qi Bs,qi By,qi Bu,qi Bj,qi Bv,qi Bl,qi Bt,qi Bp,qi Bk] X fun e W'=>(∃b,e=.returned (.bool b))/\W.heap.size<=W'.heap.size/\ ∃γ',(qbt n0 Ss).inv γ' W'/\EachV U nU n0 W0 W'/\(Jp (qeu g0 sF sN r first).length γ' W'∨ ∃k,k<(qeu g0 sF sN r first).length/\Jx k γ' W'):=by
 obtain⟨aU,aa,aE⟩:=qid (qhx hinv sF sN hr first hf);have bh:GInv g0 X:=hinv.keep hK.mt;have R:n0<=W.heap.size:=hV.2.2;have an: ∀{a b:Nat} {o o':Obj},X.heap[a]?=some o->X.heap[b]?=some o'->o≠o'->a≠b:=fun ha s ho e=>by subst e;rw [ha] at s;exact ho (yI s)
 have aq:(madeCells #[.bool false] (qu r).length)=((List.replicate (qu r).length false).map Value.bool).toArray:=qyk _;have ag:(Array.replicate (qu r).length (Value.string ⟨#[]⟩))=((List.replicate (qu r).length (⟨#[]⟩:ByteArray)).map Value.string).toArray:=by
  apply Array.ext
  ·simp
  ·intro i u v;simp
 have aQ:V≠KK:=an p6 p7 (by intro h;injection h with _ h _;revert h;decide);have nv: ∀{b:Nat} {vs:Array Value} {t:TypeId},X.heap[b]?=some (.cells vs t (0,0))->t≠9->t≠4->b≠V/\b≠KK:=fun s u v=>⟨an s p6 (by intro h;injection h with _ h _;exact u h),an s p7 (by intro h;injection h with _ h _;exact v h)⟩;obtain⟨gs,ar⟩:=ex (g0.hold W.heap.size X);have p:GStep n0 g0 W gs X:=by rw [←ar];exact(GStep.own hinv hK).hold R
 have y:gs.st=g0.st:=by rw [←ar];rfl
 have d: ∀{b:Nat} {o:Obj},W.heap.size<=b->X.heap[b]?=some o->gs.held b=some o:=fun u v=>by rw [←ar];exact q5j hinv u v
 obtain⟨steps,g⟩:=ex (qgl g0 sF sN r first);have aD: ∀i,i∈steps->i<r.body.length:=fun i hi=>(aU i).1 (by rw [←g] at hi;exact hi);have af:steps.length<=1073741824:=by
  have u:=(qoi (sizes:=qd5 r.body (qdx g0 sF sN r.body)) (first:=first) ?_ hr.safe hf r.body.length (zG _)).stp
  ·have v:steps.length=r.body.length:=by rw [←g];unfold qgl qg2;rw [zL,u]
   obtain⟨_,_,_,az,_⟩:=hj.body;omega
  ·have:=qhx hinv sF sN hr first hf
   unfold qeh at this;cases hu:qb6 (qd5 r.body (qdx g0 sF sN r.body)) with
   |true=>rfl
   |false=>rw [hu,hr.formed] at this;exact absurd this wE
 rw [g]at ah p5
 let c:WkC:=⟨r,qu r,qdx g0 sF sN r.body,steps,J,l,Bj,By,Bl,Lk,Bs,Bv,V,Bk,KK,Bt,Bu,Bp,.slice ao steps.length co,pos,ay,vb,vv,va,vt,vh⟩
 have av:(qdx g0 sF sN r.body).length=r.body.length:=qkz _ _ _ _;have ap:WkHeld c gs (List.replicate (qu r).length ⟨#[]⟩) (List.replicate (qu r).length false):=by
  refine⟨⟨d l1 p1,nv p1 wF wF⟩,⟨d l2 p2,nv p2 wF wF⟩,⟨?_,nv p3 wF wF⟩,⟨d l4 p4,nv p4 wF wF⟩,⟨d l5 p5,nv p5 wF wF⟩,?_,⟨?_,nv p8 wF wF⟩,⟨?_,nv p9 wF wF⟩,⟨d aX aF,nv aF wF wF⟩,⟨d aT aH,nv aH wF wF⟩,⟨d aZ aA,nv aA wF wF⟩,?_,?_,aQ⟩
  ·show gs.held Bl=some (.cells #[.slice (some ⟨Lk,0,none⟩) (qdx g0 sF sN r.body).length (qdx g0 sF sN r.body).length] 153 (0,0));rw [av];exact d l3 p3
  ·rcases ah.2 with e |⟨gb,cap,cur,z,e2,e3,e4,e5,e6,e7⟩
   ·obtain⟨z,e2⟩:=e;injection z with z e3 e4
    subst z;refine⟨none,co,rfl,⟨by show steps.length<=co;omega,by rw [e4];simp [maxLen]⟩,fun k i hi=>?_⟩;have:=(zA.1 hi).1;have v:steps.length=0:=e2;exact absurd this (by show ¬k<steps.length;omega)
   ·injection z with z _ e4'
    subst z;subst e4';refine⟨_,_,rfl,⟨e4,e5⟩,fun k i hi=>⟨gb,rfl,nv e3 wF wF,cur,d e2 e3,?_⟩⟩;have hk:(cur.toList.take (steps.length*1))[k]?=some (.int .i64 (i:Int)):=by rw [e7,zP,show steps[k]?=some i from hi];rfl
    rw [xR (by have:=(zA.1 hi).1;have v:k<steps.length:=this;omega),xj]at hk;exact hk
  ·rw [length_replicate];exact d l8 p8
  ·rw [length_replicate];exact d l9 p9
  ·rw [←ag];exact d l6 p6
  ·rw [←aq];exact d l7 p7
 have hE:qeb n0 W.heap.size W0 c (qdo g0 sF sN r.body) U nU (EachV U nU n0 W0) (qeu g0 sF sN r first) (fun k γ X=>Jp k γ X/\qfd Ss γ) (fun k γ X=>Jx k γ X/\qfd Ss γ):=by
  obtain⟨_,_,_,aS,_⟩:=hj.vrow;refine⟨fun k γ X γ' Y h hs=>⟨hJ k γ X γ' Y h.1 hs,by intro S hS;rw [hs.2];exact h.2 S hS⟩,fun k γ X γ' Y h hs=>⟨a1 k γ X γ' Y h.1 hs,by intro S hS;rw [hs.2];exact h.2 S hS⟩,fun k γ X0 X args b s hJ0 his hi hVX hn hT=>?_,hj,fun X hX=>⟨hX.1,hX.2.1⟩,fun X Y C hX aM hC=>hX.keep ae aM hC,ae,R,zW R l6,zW R l7,aS,?_,aa,fun L t hL ht=>qyf hr hL ht,fun t ht=>q7j ht,hr.small,hr.preds,av,?_,aD,af,qzj al aG sN r.body⟩
  ·have:=ab k γ X0 X args (zA.1 s).1 hJ0.1 his ⟨hi,hJ0.2⟩ hVX hn ⟨b,s,hT⟩;refine this.mono ?_;rintro e Y ⟨γ',u,v,h3,h4,h5⟩;refine⟨γ',u.1,v,h3,h4,?_⟩;rcases h5 with ⟨z,h5⟩ |⟨z,h5⟩
   ·exact .inl ⟨z,h5,u.2⟩
   ·exact .inr ⟨z,h5,u.2⟩
  ·show(qu r).Nodup;unfold qu;exact qk3 _
  ·show(qdx g0 sF sN r.body).length<=_;rw [av];obtain⟨_,_,_,az,_⟩:=hj.body;exact az
 have aC:qfd Ss gs:=by intro S hS;rw [y];exact al S hS
 have hA:StepAt W.heap.size c (qdo g0 sF sN r.body) U (EachV U nU n0 W0) (qeu g0 sF sN r first) (fun k γ X=>Jp k γ X/\qfd Ss γ) 0 0 gs X qca (List.replicate (qu r).length ⟨#[]⟩) (List.replicate (qu r).length false):=by
  refine⟨p.inv,hV.keep ae hK (fun _ _=>wH),fun b s=>p.new b (by have:=ae b s;have:=hV.2.1;omega) (hU b s),ap,?_,q7l,?_,fun x hx=>.inr ?_,fun q b s=>?_,⟨hJ _ _ _ _ _ h0 ⟨p,y⟩,aC⟩,hK.size⟩
  ·exact(q7k al aG aW (c:=c) rfl aY).more (fun S f hS=>⟨[],by rw [y,yQ];exact hS⟩)
  ·rw [qg1,drop_zero];show qg9 r.body steps _;rw [←g];exact aE
  ·rw [drop_zero];show x∈q8 r.body steps;rw [←g];exact q5i hinv hr hf hx
  ·rw [zD];rw [drop_zero]at s;have:(qbl (qdo g0 sF sN r.body) r.body steps qca)[q]?=some b:=s;rw [←g]at this;exact this
 have am:=q4d hE steps.length 0 (by show 0+steps.length=steps.length;omega) 0 gs X qca _ _ hA;refine am.mono ?_;rintro e W' ⟨bt,rfl,g',aV,u,v,h3,h4,h5,h6,h7,h8,h9⟩;refine⟨⟨_,rfl⟩,zW hK.size h4,?_⟩;rcases h9 with ⟨-,h9,h10⟩ |⟨-,k,hk,h9,h10⟩
 ·refine⟨g',⟨u,h10⟩,v,.inl ?_⟩;have e:(qbl (qdo g0 sF sN r.body) c.r.body (c.steps.drop 0) qca).length=(qeu g0 sF sN r first).length:=by
   rw [drop_zero];show(qbl (qdo g0 sF sN r.body) r.body steps qca).length=_;rw [←g]
   rfl
  rw [e,zD]at h9;exact h9
 ·exact⟨g',⟨u,h10⟩,v,.inr ⟨k,hk,h9⟩⟩
end Go.Proofs
