/- Parts of the proof. -/
import Derived.Test.YtnponcjnahicnaaGreatDoorWkMToLkB
import Derived.Test.YtnponcjnahicnaaGreatDoorPnX
set_option linter.unusedSimpArgs false
set_option linter.unusedVariables false
set_option maxRecDepth 100000
set_option maxHeartbeats 4000000
open Go.Proofs.Tryz(prog)
open List(all_eq_false any_append any_cons any_nil drop_zero eq_nil_iff_forall_not_mem getElem_range length_eq_zero_iff length_replicate map_map nodup_nil toList_toArray)
namespace Go.Proofs
open Go.RowKit Go.Ink Go.Flt R4 P16
attribute [local go_sem] Oper.semAt_some
theorem q5b {r:RuleD}{sizes:List qaj}{first:Int}(f:qbo sizes=true)(d:qds r=true)(c:qa9 r first=false)(j:Nat)(g:j<=r.body.length): ∀s,s∈(qbm r sizes first j).steps->0<=s.lit:=by
 induction j with
 |zero=>intro s h;simp [qbm] at h
 |succ j ih=>
  obtain⟨k,b,-⟩:=qib (sizes:=sizes) d c (show j<r.body.length from xz) (qmz f d c j xz) (fun h=>by subst h;rfl);have e:qbm r sizes first (j+1)=qhw r sizes (k:Int) (qbm r sizes first j):=by
   show qhw r sizes (qgq r sizes first j (qbm r sizes first j)) (qbm r sizes first j)=_;rw [b]
  rw [e];intro s h;rcases zn.1 h with h |h
  ·exact ih xz s h
  ·rw [zl]at h;subst h;unfold qa7;split
   ·exact Int.natCast_nonneg k
   ·exact Int.natCast_nonneg k
def qc7 (body:List LitD)(ks:List LookD):Nat->List qaj
 |0=> []
 |i+1=>qc7 body ks i++if (body.getD i default).kind=1 then [⟨(body.getD i default).atom.pred,((ks.getD i ⟨none,⟨#[]⟩,0,0⟩).upto:Int),[]⟩] else []
def qda (body:List LitD)(ks:List LookD):List qaj:=qc7 body ks body.length
def qss (s:qaj):List Value:= [.string s.pred,.int .i64 s.rows,.slice none 0 0]
theorem qm8 (body:List LitD)(ks:List LookD)(i:Nat):(qc7 body ks i).length<=i:=by
 induction i with
 |zero=>exact zG _
 |succ i ih=>
  unfold qc7;rw [zR];split
  ·simp;exact ih
  ·simp;omega
theorem qst (body:List LitD)(ks:List LookD)(i:Nat): ∀s,s∈qc7 body ks i->s.dist= []:=by
 induction i with
 |zero=>intro s h;cases h
 |succ i ih=>
  intro s h;unfold qc7 at h;rcases zn.1 h with h |h
  ·exact ih s h
  ·split at h
   ·rw [zl]at h;subst h;rfl
   ·cases h
theorem qw1 {w:World}{base:Nat}{e:TypeId}{v:Value}{n:Nat}{ss:List qaj}(h:w.ownsRow base e 3 v n (ss.flatMap qss))(i:ss.length<=1073741824)(m: ∀s,s∈ss->s.dist= []):SizesIn w.heap.size w v ss:=
 qed h ss (by have:=h.1;rw [qa1 _ 3 (fun _=>rfl)] at this;omega) i (q29 w.heap.size) fun b k d c l=>by
  refine⟨.slice none 0 0,fun j u g=>?_,?_⟩
  ·have f:j<3:=(zA.1 g).1;rw [l j f,qas _ 3 (fun _=>rfl) _ k j d c f];exact g
  ·rw [m d (zH c)];exact⟨none,0,rfl,wB,by simp [maxLen],fun k x p=>by simp at p⟩
theorem q3v:qb2 prog 242 244 3 48:=qcl (z:=.agg #[.string ⟨#[]⟩,.int .i64 0,.slice none 0 0]) wA wA rfl wC wC
theorem JoinAt.rule {U:Nat->Prop}{n:Nat}{w:World}{J:Nat}{r:RuleD}{vars:List ByteArray}{e:List Int}{c vb vv va k vh:Value}(h:JoinAt U n w J r vars e c vb vv va k vh):RuleIn n w c vb r:=
 ⟨h.head.mono fun _ _ _ _ d=>d.2,h.body.mono fun b o L _ d=>by
  obtain⟨-,j,f,g⟩:=d;exact⟨j,f,g.mono fun _ _ _ _ i=>i.2⟩⟩
def qnw (ss:List qc5):List Value:=ss.map fun s=>.int .i64 s.lit
theorem qzc {U:Nat->Prop}{n:Nat}{w:World}{J:Nat}{r:RuleD}{vars:List ByteArray}{c3:List Int}{c6 vb vv va vt vh:Value}(hj:JoinAt U n w J r vars c3 c6 vb vv va vt vh)(hn:n<=w.heap.size){Lk:Nat}{ks:List LookD}
  (aR:w.heap[Lk]?=some (.cells (ks.flatMap LookD.cells).toArray 192 (0,0))) (bU:ks.length=r.body.length) (first:Int) (l:qdq r (qda r.body ks) (qa9 r first)=0):
  Calls prog 119 #[qj J,.slice (some ⟨Lk,0,none⟩) r.body.length r.body.length,.int .i64 first] w fun e w'=> ∃vo,e=.returned vo/\w'.ownsRow w.heap.size 3 1 vo (qf7 r (qda r.body ks) first).length ((qf7 r (qda r.body ks) first).map fun i:Nat=>.int .i64 (i:Int))/\Keep (fun b=>b<w.heap.size) w w':=by
 have hp:qak r=true/\qbo (qda r.body ks)=true/\qa9 r first=false/\qds r=true:=by
  unfold qdq at l;cases h1:qak r<;>cases h2:qbo (qda r.body ks)<;>cases h3:qds r<;>cases h4:qa9 r first<;>rw [h1,h2,h3,h4] at l<;>first |exact⟨rfl,rfl,rfl,rfl⟩ |(exfalso;revert l;decide)
 obtain⟨hF,hu,hf,hs⟩:=hp;have aW:=qmz hu hs hf r.body.length (zG _);have Y:=q5b hu hs hf r.body.length (zG _);have ap:qis r (qda r.body ks) first=(⟨r,(qbm r (qda r.body ks) first r.body.length).steps⟩,0):=by unfold qis;rw [l,zF wB]
 have a0:=aW.stp;obtain⟨steps,ax⟩:=ex ((qbm r (qda r.body ks) first r.body.length).steps);rw [ax]at ap a0 Y;have aX:(qf7 r (qda r.body ks) first).length=steps.length:=by unfold qf7;rw [ax,zL]
 have aY:((qf7 r (qda r.body ks) first).map fun i:Nat=>Value.int .i64 (i:Int))=qnw steps:=by
  unfold qf7 qnw;rw [ax,map_map];refine yz fun s hs=>?_;have:=Y s hs;simp only [Function.comp];rw [Int.toNat_of_nonneg this]
 rw [aX,aY];have y:=hj.rule;obtain⟨ab,cb,aF,eg,ef,bN⟩:=id hj.body;obtain⟨ah,ch,ae,ei,eh,-⟩:=id hj.head;obtain⟨N,hN⟩:=ex (w.heap.size);have ai:=hj.box;rw [aF,ae]at ai;rw [aF,ae]at y;have c0:=qb ai 0 _ rfl;have c1:=qb ai 1 _ rfl;have c2:=qb ai 2 _ rfl;have lJ:=qe ai;have lL:=qe aR;simp only [zD]at c0 c1 c2;have bF: ∀X,Keep (fun b=>b<N) w X->X.cell? ⟨J,0,none⟩=some (.string r.head.pred)/\X.cell? ⟨J,1,none⟩=some (.slice ah r.head.args.length ch)/\X.cell? ⟨J,2,none⟩=some (.slice ab r.body.length cb)/\J<X.heap.size:=fun X hX=>⟨hX.cell c0 (show J<N from xz),hX.cell c1 (show J<N from xz),hX.cell c2 (show J<N from xz),by have:=hX.size;omega⟩;clear c0 c1 ai;refine qde ?_ hj aR bU l hF hu hf hs aW Y ap a0 ax aX aY y;clear hj aR bU l hF hu hf hs aW Y ap a0 ax aX aY y;intro dG bb bk cz dD dI dF dH de cA aQ aJ di df dg az;refine hd5 ?_ bN aF ae hN bF;clear bN aF ae hN bF;intro bj dj cB g aG;refine qbl Tryz.func119 rfl ?_;simp only [Tryz.ntmps119,qdm,Nat.reduceAdd,Nat.reduceSub];gi_wp2;gi_loopw [7,21] (fun x7 i' X=> ∃i:Nat,i<=r.body.length/\i'=.int .i64 (i:Int)/\Keep (fun b=>b<N) w X/\X.ownsRow N 244 3 x7 (qc7 r.body ks i).length ((qc7 r.body ks i).flatMap qss)) (fun _ i _=>r.body.length-(intOf i).toNat)
 case atStart=>exact⟨0,xz,rfl,Keep.refl _ _,zj _ _ _ _⟩
 case round=>
  obtain⟨i,hi,rfl,hK,ho⟩:=hrel;have eo:=hK.size;by_cases aj:i<r.body.length
  ·have bV:(i:Int)<r.body.length:=by omega
   have cS:(0:Int)<=i:=xz
   obtain⟨L,hL⟩: ∃L,r.body[i]?=some L:=⟨_,zB aj⟩;have bI:r.body.getD i default=L:=by rw [zJ,hL];rfl
   obtain⟨k,hk⟩: ∃k,ks[i]?=some k:=⟨_,zB (by rw [bk.o];exact aj)⟩;have bS:ks.getD i ⟨none,⟨#[]⟩,0,0⟩=k:=by rw [zJ,hk];rfl
   have d:qc7 r.body ks (i+1)=qc7 r.body ks i++if L.kind=1 then [⟨L.atom.pred,(k.upto:Int),[]⟩] else []:=by
    show qc7 r.body ks i++_=_;rw [bI,bS]
   have em:=qm8 r.body ks i;obtain⟨b4,o4,rfl,ee,bM,sa,m,a1⟩:=bj.o i L hL;have j:b4<N:=by have:=g.o;omega
   have d0:=hK.cell (m 0 _ rfl) j;have d1:=hK.cell (m 1 _ rfl) j;have d2:=hK.cell (m 2 _ rfl) j;have d3:=hK.cell (m 3 _ rfl) j;have d4:=hK.cell (m 4 _ rfl) j;have d5:=hK.cell (m 5 _ rfl) j;have d6:=hK.cell (m 6 _ rfl) j;have dv:b4<wr.heap.size:=by have:=g.o;omega
   obtain⟨aa,ca,rfl,cO,cN,-⟩:=id a1;have a2:wr.cell? ⟨Lk,i*4+3,none⟩=some (.int .i64 (k.upto:Int)):=by
    have cU:=hK.heap bb.o (by have:=g.o;omega);have:=qb cU (i*4+3) (.int .i64 (k.upto:Int)) (by rw [toList_toArray,qt3 (f:=LookD.cells) (n:=4) (fun _=>rfl) _ _ _ hk 3 xz];rfl)
    simpa using this
   have ep:Lk<wr.heap.size:=by have:=g.o;omega
   obtain⟨kd,⟨pr,args⟩,⟨lv,lt⟩,⟨rv,rt⟩⟩:=L;simp only at d0 d1 d2 d3 d4 d5 d6 cO cN d;simp only [Nat.add_zero]at d0;obtain⟨a7,c7,rfl⟩:=qi ho;have aq:=qf ho (Keep.alloc (fun _=>True) wr (.cells #[.int .i64 kd,.string pr,.slice aa args.length ca,.bool lv,.string lt,.bool rv,.string rt] 79)) (fun _ _=>wE);have ag:Keep (fun b=>b<N) w (wr.alloc (.cells #[.int .i64 kd,.string pr,.slice aa args.length ca,.bool lv,.string lt,.bool rv,.string rt] 79)):=hK.trans kAl;clear m hL bI hk bS;by_cases aU:kd=1
   ·subst aU;rw [zI rfl]at d;obtain⟨B,hB⟩:=ex (wr.heap.size);obtain⟨W1,am⟩:=ex (wr.alloc (.cells #[.int .i64 1,.string pr,.slice aa args.length ca,.bool lv,.string lt,.bool rv,.string rt] 79));rw [am]at aq ag;have nb:W1.heap[B]?=some (.cells #[.int .i64 1,.string pr,.slice aa args.length ca,.bool lv,.string lt,.bool rv,.string rt] 79 (0,0)):=by rw [←am,←hB];exact qh _ _
    have kW:wD wr W1:=by rw [←am];exact kAl
    have hS: ∀X,wD W1 X->X.cell? ⟨B,1,none⟩=some (.string pr)/\X.cell? ⟨Lk,i*4+3,none⟩=some (.int .i64 (k.upto:Int)):=fun X hX=>by
     have q:=qb (hX.heap nb wE) 1 _ rfl;simp only [zD]at q;exact⟨q,(kW.trans hX).cell a2 wE⟩
    have aA:=hS _ kDr;obtain⟨W2,aB⟩:=ex (W1.drew);have z:wD W1 W2:=by rw [←aB];exact kDr
    have au:=qf aq z (fun _ _=>wE);rw [aB]at aA;have zN:N<=W2.heap.size:=by have:=ag.size;have:=z.size;have:=g.o;omega
    obtain⟨v',W3,b3,bW,k3,g3,bz,cV,bQ,bO⟩:=qdd (P:=prog) q3v 242 au [.string pr,.int .i64 (k.upto:Int),.slice none 0 0] rfl (by simp [Value.oneCell']) xz zN;subst cV;have bK:=hS (W2.alloc (.cells #[.string pr,.int .i64 (k.upto:Int),.slice none 0 0] 244)) (z.trans kAl);have bL:W3.cell? ⟨B,1,none⟩=some (.string pr)/\W3.cell? ⟨Lk,i*4+3,none⟩=some (.int .i64 (k.upto:Int)):=by
     obtain⟨q1,q2⟩:=aA;refine⟨k3.cell q1 (fun e=>?_),k3.cell q2 (fun e=>?_)⟩
     ·obtain⟨cs,aC⟩:=qao au e.symm;rw [z.heap nb trivial]at aC;injection aC with aC
      injection aC with _ h2 _
      revert h2
      decide
     ·have h:=(zE au _ e.symm).1;exact absurd (show N<=Lk from h) (by have:=g.o;omega)
    have bG:Keep (fun b=>b<N) w W3:=(ag.trans z.mt).trans (k3.mono fun b _ (hb:b<N) e=>by have:=(zE au b e.symm).1;omega);have p:W3.ownsRow N 244 3 (.slice (some ⟨g3,0,none⟩) ((qc7 r.body ks i).length+1) bz) (qc7 r.body ks (i+1)).length ((qc7 r.body ks (i+1)).flatMap qss):=by
     rw [d,zR,yF];exact bW
    have lB:=qe nb;clear a1 bM aq au bW k3 bQ ho a2 ag;refine qde ?_ hK d am hB aB nb kW hS aA bK bL bG p b3 z bO;clear hK d am hB aB nb kW hS aA bK bL bG p b3 z bO;intro af ak bg cy bh dN dL dE bc bf aI a9 t bq dk dc;gi_wp2;rw [bg.o,cy.o];refine qag ?_;refine qw rfl (fun X=>X.cell? ⟨B,1,none⟩=some (.string pr)/\X.cell? ⟨Lk,i*4+3,none⟩=some (.int .i64 (k.upto:Int))) [] ?_;rw [bh.o];refine qab [0,1,2,3,4,5,6,7,8,9] ?_
    iterate 10
     refine tkB rfl bc.o ?_
     try simp only [qac]
    refine qk ?_;refine hoR 10 rfl fun K aH=>?_;gi_wp2;refine aH.o _ _ (fun _=>bf.o) ?_;refine hoR 11 rfl fun K R=>?_;refine qby rfl (.tmp 29) (.tmp 39) 242 rfl rfl rfl bq.o ?_;gi_wp2;refine R.o _ _ (fun _=>aI.o) ?_;refine qab [12] ?_
    iterate 1
     refine tkB rfl aI.o ?_
     try simp only [qac]
    refine qk ?_;refine qx wA (qai ?_);clear aH R;gi_wp2;go_roundw
    case rel=>exact⟨i+1,xz,by go_num,a9.o,t.o⟩
    case measure=>simp [intOf];omega
   ·rw [zF aU,yO]at d;have ej: ¬kd=1:=aU;clear a1 bM ho a2;refine hd4 ?_ hK d aq ag;clear hK d aq ag;intro af ak bm R;gi_wp2;go_roundw
    case rel=>exact⟨i+1,xz,by go_num,R.o,by rw [ak.o];exact bm.o⟩
    case measure=>simp [intOf];omega
  ·obtain rfl:i=r.body.length:=by omega
   have bJ:=qw1 ho (by have:=qm8 r.body ks r.body.length;omega) (qst _ _ _);have ao:=q2g wr.heap.size r _ _ (qda r.body ks) u7 first wr ((az.o.keep (hK.mono fun b _ h=>by have:=g.o;omega)).wider xz) bJ (zG _)
   rw [aQ.o]at ao;obtain⟨a7,c7,rfl⟩:=qi ho;obtain⟨q0,q1,q2,q3⟩:=aG.o wr hK;unfold qaz q3c at ao;clear bJ ho aj;simp only at ao;refine hd2 ?_ ao hK;clear ao hK;intro bl af;gi_wp2;refine⟨wE,rfl,(zU.2 bl.o).mono ?_⟩;rintro e Wp ⟨c5,c4,er,rfl,ad,kp⟩;obtain⟨qs,aE,aw,b1⟩:=ad.2;have en:=kp.size;simp only at aE aw;obtain⟨bw,cK,rfl⟩:=qi aw;have b2:qs.length=steps.length:=by rw [←aE,zL]
   have aN:=aJ.o;have dw:steps.length<=1073741824:=xz
   obtain⟨ar,cr,rfl⟩: ∃a c,c5=.slice a r.head.args.length c:=qi ad.1.1;have b5: ∃a c,c4=.slice a r.body.length c:=by
    obtain⟨ps,h1,h2,-⟩:=ad.1.2;exact qi h2
   obtain⟨cE,cJ,rfl⟩:=b5;clear ad;have a3:Keep (fun b=>b<N) w Wp:=af.o.trans (kp.mono fun b _ (h:b<N)=>by have:=g.o;have:=af.o.size;omega);clear q0 q1 q2 q3;clear aN;obtain⟨W5,aS⟩:=ex (Wp.alloc (.cells #[.string r.head.pred,.slice ar r.head.args.length cr,.slice cE r.body.length cJ,.slice bw steps.length cK] 247));have k5:wD Wp W5:=by rw [←aS];exact kAl
   have b6:Keep (fun b=>b<N) w W5:=a3.trans k5.mt;have aM:=qf aw k5 (fun _ _=>wE);refine qc9 ?_ aE aw b2 kp a3 aS k5 b6 aM b1;clear aE aw b2 kp a3 aS k5 b6 aM b1;intro bp dh bo dM dl bi dJ al x bn;gi_wp2;rw [bi.o];gi_loopw [12,55] (fun c8 i' X=> ∃i:Nat,i<=steps.length/\i'=.int .i64 (i:Int)/\Keep (fun b=>b<W5.heap.size) W5 X/\X.ownsRow W5.heap.size 3 1 c8 i (qnw (steps.take i))) (fun _ i _=>steps.length-(intOf i).toNat)
   case atStart=>exact⟨0,xz,rfl,Keep.refl _ _,zj _ _ _ _⟩
   case round=>
    obtain⟨i,hi,rfl,hK,ho⟩:=hrel;have dx:=hK.size;by_cases aj:i<steps.length
    ·have bV:(i:Int)<steps.length:=by omega
     have cS:(0:Int)<=i:=xz
     obtain⟨q,hq⟩: ∃q,qs[i]?=some q:=⟨_,zB (by rw [bo.o];exact aj)⟩;have aO:steps[i]?=some q.1:=by rw [←bp.o,zP,hq];rfl
     obtain⟨gs,cR⟩: ∃gs,bw=some ⟨gs,0,none⟩:=by
      rcases x.o.2 with e |⟨gb',cap,cur,e1',_⟩
      ·have:=e.2;omega
      ·injection e1' with e1' _ _;exact⟨_,e1'⟩
     subst cR;have aD:=qf x.o hK (fun b hb=>(zE x.o b hb).2);have m0:=qau aD (i*3) _ ((qas qk6 3 (fun _=>rfl) qs i 0 q hq wC).trans rfl);have m1:=qau aD (i*3+1) _ ((qas qk6 3 (fun _=>rfl) qs i 1 q hq wC).trans rfl);have m2:=qau aD (i*3+2) _ ((qas qk6 3 (fun _=>rfl) qs i 2 q hq wC).trans rfl);have cZ:=zQ _ _ m0;simp only at cZ;have d:qnw (steps.take (i+1))=qnw (steps.take i)++ [.int .i64 q.1.lit]:=by unfold qnw;rw [zh,aO];simp
     have av:=bn.o q (zH hq);obtain⟨⟨b7,bd,nw⟩,bv,nv⟩:=q;obtain⟨cC,cH,rfl⟩: ∃a c,bv=.slice a bd.length c:=qi av.1;obtain⟨cD,cI,rfl⟩: ∃a c,nv=.slice a nw.length c:=qi av.2;clear av;simp only [qk6]at m0 m1 m2 d;obtain⟨bu,bx,rfl⟩:=qi ho;obtain⟨W6,an⟩:=ex (wr.alloc (.cells #[.int .i64 b7,.slice cC bd.length cH,.slice cD nw.length cI] 251));have k6:wD wr W6:=by rw [←an];exact kAl
     have z6:W6.heap.size=wr.heap.size+1:=by rw [←an];simp
     have aV:=qf ho k6 (fun _ _=>wE);obtain⟨v',W7,aZ,b0,k7,g7,aK,cW,bR,bP⟩:=qdd (P:=prog) qkl 125 aV [.int .i64 b7] rfl (by simp [Value.oneCell']) xz xz;subst cW;rw [z6,←an]at aZ;have bH:Keep (fun b=>b<W5.heap.size) W5 W7:=(hK.trans k6.mt).trans (k7.mono fun b _ (hb:b<W5.heap.size) e=>by have:=(zE aV b e.symm).1;omega);have p:W7.ownsRow W5.heap.size 3 1 (.slice (some ⟨g7,0,none⟩) (i+1) aK) (i+1) (qnw (steps.take (i+1))):=by rw [d];exact b0
     clear aD hq aO aV b0 k7 bR ho;refine hd9 ?_ hK d an k6 z6 aZ bH p bP;clear hK d an k6 z6 aZ bH p bP;intro af ak db dK dO br ba t dd
     gi_wp2_with (gi_at_builtin;refine qby (v:=.slice bu i bx) (u:=.slice (some ⟨wr.heap.size+1,0,none⟩) 1 1) (v':=.slice (some ⟨g7,0,none⟩) (i+1) aK) (w':=W7) rfl (.tmp 59) (.tmp 62) 125 rfl rfl rfl br.o ?_)
     go_roundw
     case rel=>exact⟨i+1,xz,by go_num,ba.o,t.o⟩
     case measure=>simp [intOf];omega
    ·obtain rfl:i=steps.length:=by omega
     rw [zi]at ho;obtain⟨bu,bx,rfl⟩:=qi ho;have a4:Keep (fun b=>b<N) w wr:=al.o.trans (hK.mono fun b _ (h:b<N)=>by have:=g.o;have:=al.o.size;omega);obtain⟨q0,q1,q2,q3⟩:=aG.o wr a4;have cQ:N<=W5.heap.size:=by have:=g.o;have:=al.o.size;omega
     have aL:=ho.mono cQ;have aN:(steps.length:Int)=r.body.length:=by rw [aJ.o]
     clear ho aj hi;refine hd3 ?_ hK a4 aL;clear hK a4 aL;intro af bt aP;gi_wp2;go_ret;exact⟨_,rfl,by rw [g.o];exact aP.o,bt.o.mono fun b _ (h:b<w.heap.size)=>by have:=g.o;omega⟩
end Go.Proofs
namespace Go.Proofs
open Go.RowKit Go.Ink Go.Flt R4 P16
def qf1 (Ss:List Nat)(g:Gh):Prop:= ∀S,S∈Ss-> ∃f,g.st S=some f/\ ∀x,x∈f->okF x=true
def qa8 (n0:Nat)(Ss:List Nat):qfp Gh where
 inv g X:=GInv g X/\qf1 Ss g
 free:=Gh.free
 istep g X g' Y:=GStep n0 g X g' Y/\g'.st=g.st
 bstep:=GBd
 ifree h:=h.1.keep
 inew h:=h.1.new
 bnew h:=h.new
 bmono hn h:=h.mono hn
 invk h hK:=⟨h.1.keep hK,h.2⟩
def qfd (g:Gh)(s:Option Nat):List qy:=match s with
 |none=> []
 |some S=>(g.st S).getD []
def qej (g:Gh)(sF:Nat->Option Nat)(sN:Option Nat)(body:List LitD):qa6:=qjs body (fun i=>qfd g (sF (qeq body i))) (qfd g sN)
def qc8 (g:Gh)(sF:Nat->Option Nat)(sN:Option Nat)(body:List LitD):List LookD:=qe4 g sF sN body
def qfq (g:Gh)(sF:Nat->Option Nat)(sN:Option Nat)(r:RuleD)(first:Int):List Nat:=qf7 r (qda r.body (qc8 g sF sN r.body)) first
def qgn (g:Gh)(sF:Nat->Option Nat)(sN:Option Nat)(r:RuleD)(first:Int):List Asg:=qbe (qej g sF sN r.body) r.body (qfq g sF sN r first) qco
def qjt (g:Gh)(s sN:Option Nat)(body:List LitD):qa6:=qjs body (fun _=>qfd g s) (qfd g sN)
def qk0 (g:Gh)(s sN:Option Nat)(r:RuleD)(first:Int):List Asg:=qgn g (fun _=>s) sN r first
structure qek (r:RuleD):Prop where
 formed:qak r=true
 safe:qds r=true
 bound:q48 r
 small: ∀L t,L∈r.body->t∈ql L->t.text.size<=1073741824
 preds: ∀L,L∈r.body->L.atom.pred.size<=1073741824
 head:r.head.pred≠⟨#[]⟩
theorem qju (g:Gh)(s:Option Nat)(p:ByteArray)(n:Nat):qey g s p n=(qo (qfd g s) p n).length:=by
 unfold qey qfd;cases s with
 |none=>rfl
 |some S=>
  simp only;cases g.st S with
  |none=>rfl
  |some f=>rfl
theorem qql {g:Gh}{sF:Nat->Option Nat}{sN:Option Nat}{body:List LitD}{i:Nat}{k:LookD}(h:(qc8 g sF sN body)[i]?=some k):k=qer g sF sN body i/\i<body.length:=by
 unfold qc8 qe4 at h;rw [zP]at h;obtain⟨j,c,rfl⟩:=xN.1 h;obtain⟨d,b⟩:=zA.1 c;rw [getElem_range]at b;subst b;exact⟨rfl,by simpa using d⟩
theorem qup (body:List LitD)(ks:List LookD)(b: ∀k,k∈ks->k.upto<=67108864)(i:Nat):(qc7 body ks i).any qhu=false:=by
 induction i with
 |zero=>rfl
 |succ i ih=>
  unfold qc7;rw [any_append,ih,xG];split
  ·have c:(ks.getD i ⟨none,⟨#[]⟩,0,0⟩).upto<=67108864:=by
    rw [zJ];cases h:ks[i]? with
    |none=>simp
    |some k=>exact b k (zH h)
   simp only [any_cons,any_nil,Bool.or_false];unfold qhu qha;simp only [any_nil,Bool.or_false];rw [zM xz,zM xz]
   rfl
  ·rfl
theorem q3w {g:Gh}{W:World}(c:GInv g W)(s:Option Nat):(qfd g s).length<=67108864:=by
 unfold qfd;cases s with
 |none=>simp
 |some S=>
  simp only;cases h:g.st S with
  |none=>simp
  |some f=>
   obtain⟨T,M,MX,e,xs,d,b⟩:=c.store S f h;exact b.few
theorem qzd {g:Gh}{W:World}(c:GInv g W)(s:Option Nat):(qfd g s).Nodup:=by
 unfold qfd;cases s with
 |none=>exact nodup_nil
 |some S=>
  simp only;cases h:g.st S with
  |none=>exact nodup_nil
  |some f=>
   obtain⟨T,M,MX,e,xs,d,b⟩:=c.store S f h;exact b.nodup
theorem q13 {g:Gh}{W:World}(b:GInv g W)(s:Option Nat)(p:ByteArray)(n:Nat):qey g s p n<=67108864:=by
 rw [qju];exact zW (qky _ _ _) (q3w b s)
theorem qh4 {g:Gh}{W:World}(d:GInv g W)(sF:Nat->Option Nat)(sN:Option Nat){r:RuleD}(b:qek r)(first:Int)(c:qa9 r first=false):qdq r (qda r.body (qc8 g sF sN r.body)) (qa9 r first)=0:=by
 have f:qbo (qda r.body (qc8 g sF sN r.body))=true:=by
  unfold qbo qda;rw [qup]
  ·rfl
  ·intro k e;obtain⟨i,hi⟩:=zw.1 e;obtain⟨rfl,-⟩:=qql hi;exact q13 d _ _ _
 unfold qdq;rw [b.formed,f,c,b.safe]
 rfl
theorem qov {r:RuleD}:qa9 r (-1)=false:=by
 unfold qa9;rw [zM xz,zM xz,zM xz]
 rfl
theorem q14 {g:Gh}{W:World}(s:GInv g W){sF:Nat->Option Nat}{sN:Option Nat}{r:RuleD}(v:qek r){first:Int}(q:qa9 r first=false)(h:okJ g sF sN r.body r.body.length=false):qgn g sF sN r first= []:=by
 obtain⟨p,z,y⟩:=qiq (qh4 s sF sN v first q);unfold okJ at h;rw [all_eq_false]at h;obtain⟨j,k,i⟩:=h;rw [yh]at k;refine eq_nil_iff_forall_not_mem.2 fun b e=>?_;have u:=(qkk (qfq g sF sN r first) qco b (by rw [qg7];exact y)).1 e;have c:=u.2.2 j ((p j).2 k);simp only [y8,xI,yP,zT,not_or,Classical.not_not]at i;obtain⟨d,f⟩:=i;unfold qgc at c;rw [zF (by rw [d];decide),zF (by rw [d];decide)]at c;have l:qer g sF sN r.body j=⟨sF (qeq r.body j),(r.body.getD j default).atom.pred,(r.body.getD j default).atom.args.length,qey g (sF (qeq r.body j)) (r.body.getD j default).atom.pred (r.body.getD j default).atom.args.length⟩:=by unfold qer qko;rw [zI d]
 rw [l]at f;simp only [qju]at f;have m:(qej g sF sN r.body).pos j= []:=by
  unfold qej qjs;simp only;exact length_eq_zero_iff.1 xz
 rw [m]at c;obtain⟨t,x,-⟩:=c;cases x
theorem q3x {r:RuleD}{L:LitD}{t:TermD}(f:qek r)(d:L∈r.body)(c:t∈ql L):qeo (qm r) t:=fun g=>by
 unfold qm;rw [qeu];refine qkx (L:=L) (yC _ d) ?_ g;have e:=qi7 f.formed;obtain⟨i,hi⟩:=zw.1 d;have b:=e i (zA.1 hi).1;unfold qb1 at b;rw [zJ,hi]at b;simp only [Option.getD_some]at b;unfold ql at c;unfold LitD.terms;rcases b with h |h |h
 ·rw [zF xz]at c;rw [zI (.inl h)];exact c
 ·rw [zF xz]at c;rw [zI (.inr h)];exact c
 ·rw [zI h]at c;rw [zF xz,zI h];exact c
theorem q3y {r:RuleD}{t:TermD}(b:t∈r.head.args):qeo (qm r) t:=fun c=>by
 unfold qm;rw [qeu];refine qkx (L:=r.headLit) (yI ..) ?_ c;unfold LitD.terms RuleD.headLit;rw [zI (.inl rfl)];exact b
theorem q15 {g:Gh}{W:World}(f:GInv g W){sF:Nat->Option Nat}{sN:Option Nat}{r:RuleD}(c:qek r){first:Int}(e:qa9 r first=false){x:ByteArray}(b:x∈qm r):x∈qaa r.body (qfq g sF sN r first):=by
 obtain⟨d,h,i⟩:=qiq (qh4 f sF sN c first e);unfold qm at b;rw [qeu]at b;exact(qj4 d h x).2 (c.bound x b)
theorem q3z {g:Gh}{Ss:List Nat}(z:qf1 Ss g){c:WkC}{sF:Nat->Option Nat}{sN:Option Nat}(v: ∀m S,sF m=some S->S∈Ss)(u: ∀S,sN=some S->S∈Ss)(X:c.looks=qc8 g sF sN c.r.body)(h:okJ g sF sN c.r.body c.r.body.length=true):LookOk c (qej g sF sN c.r.body) g:=by
 intro i L k U y;rw [X]at y;obtain⟨rfl,hi⟩:=qql y;have b:c.r.body.getD i default=L:=by rw [zJ,U];rfl
 have j:(qer g sF sN c.r.body i).pred=L.atom.pred:=by unfold qer;rw [b]
 have t:(qer g sF sN c.r.body i).arity=L.atom.args.length:=by unfold qer;rw [b]
 refine⟨j,t,fun x=>?_,fun R=>?_⟩
 ·unfold okJ at h;rw [yL]at h;have p:=h i (yh.2 hi);rw [b,zS x,Bool.not_true,xG,zT]at p;obtain⟨s,l⟩:=ex (sF (qeq c.r.body i));have e:qer g sF sN c.r.body i=⟨s,L.atom.pred,L.atom.args.length,qey g s L.atom.pred L.atom.args.length⟩:=by unfold qer qko;rw [b,zI x,l]
  rw [e]at p⊢;simp only at p⊢;cases s with
  |none=>cases p
  |some S=>
   obtain⟨f,q,-⟩:=z S (v _ S l);have d:qfd g (some S)=f:=by unfold qfd;simp only;rw [q];rfl
   rw [qju,d]at p⊢;refine⟨S,f,rfl,q,p,zG _,?_⟩;rw [zi];unfold qej qjs;simp only;rw [b,l,d]
 ·have e:qer g sF sN c.r.body i=⟨sN,L.atom.pred,L.atom.args.length,qey g sN L.atom.pred L.atom.args.length⟩:=by unfold qer qko;rw [b,zF xz,zI R]
  rw [e];simp only;cases sN with
  |none=>
   left;refine⟨rfl,?_⟩
   unfold qej qjs qfd qo
   rfl
  |some S=>
   obtain⟨f,q,-⟩:=z S (u S rfl);have d:qfd g (some S)=f:=by unfold qfd;simp only;rw [q];rfl
   rw [qju,d];refine .inr ⟨S,f,rfl,q,zG _,?_⟩;rw [zi];unfold qej qjs;simp only;rw [b,d]
theorem q16 {x:qy}(h:okF x=true){s:ByteArray}(b:s∈x.tuple):s.size<=1073741824:=by
 unfold okF at h;rw [zV,xI]at h;have:=xY.1 h.2 s b;simp only [zT]at this;omega
theorem qze {g:Gh}{Ss:List Nat}(e:qf1 Ss g){s:Option Nat}(c: ∀S,s=some S->S∈Ss): ∀x,x∈qfd g s->okF x=true:=by
 intro x b;unfold qfd at b;cases s with
 |none=>cases b
 |some S=>
  obtain⟨f,d,ho⟩:=e S (c S rfl);simp only at b;rw [d]at b;exact ho x b
theorem qw2 {g:Gh}{Ss:List Nat}(d:qf1 Ss g){sF:Nat->Option Nat}(b: ∀m S,sF m=some S->S∈Ss)(sN:Option Nat)(body:List LitD): ∀i t y,t∈(qej g sF sN body).pos i->y∈t->y.size<=1073741824:=by
 intro i t y c e;unfold qej qjs at c;simp only at c;exact q16 (qze d (b _) _ (qc2.1 c).1) e
def EachV (U:Nat->Prop)(nU n0:Nat)(W0 X:World):Prop:=(∀b,U b->X.heap[b]?=W0.heap[b]?)/\nU<=X.heap.size/\n0<=X.heap.size
theorem EachV.keep {U:Nat->Prop}{d n0:Nat}{W0 X Y:World}{C:Nat->Prop}(h:EachV U d n0 W0 X)(f: ∀b,U b->b<d)(hK:Keep C X Y)(e: ∀b,U b->C b):EachV U d n0 W0 Y:=
 ⟨fun b c=>(hK.block b (by have:=f b c;have:=h.2.1;omega) (e b c)).trans (h.1 b c),zW h.2.1 hK.size,zW h.2.2 hK.size⟩
theorem q17 {g:Gh}{W X:World}(d:GInv g W){b:Nat}(f:W.heap.size<=b){o:Obj}(c:X.heap[b]?=some o):(g.hold W.heap.size X).held b=some o:=by
 have i:g.tag b=none:=by
  cases e:g.tag b with
  |none=>rfl
  |some T=>have:=d.lt b T e;omega
 have h:g.held b=none:=by
  cases e:g.held b with
  |none=>rfl
  |some T=>have:=qe (d.hold b T e);omega
 simp only [Gh.hold];rw [zI ⟨f,qe c,i,h⟩];exact c
theorem qsu {C:Nat->Prop}{W X:World}(h:Keep C W X)(c: ∀b,b<W.heap.size->C b):wD W X:=h.mono fun b d _=>c b d
theorem YieldAt.mono {P:Program}{F:Fence}{n:Nat}{l:Nat}{args:Array Value}{X:World}{Q b:Ending->World->Prop}(h:YieldAt F n P l args X Q)(f: ∀e w,Q e w->b e w):YieldAt F n P l args X b:=by
 obtain⟨fn,tmps,assign,body,c,d⟩:=h;exact⟨fn,tmps,assign,body,c,d.mono f⟩
theorem q30 {vars:List ByteArray}:qdj vars (List.replicate vars.length ⟨#[]⟩) (List.replicate vars.length false) qco:=by
 refine⟨wB,wB,fun p x c=>?_,fun p x v _ h=>(by cases h),fun x v h=>(by cases h)⟩;have b:=(zA.1 c).1;rw [xT,zI b];constructor
 ·intro h;cases h
 ·rintro⟨v,h⟩;cases h
theorem qw3 {n0:Nat}{Ss:List Nat}{U:Nat->Prop}{nU:Nat}{W0:World}{J:Nat}{r:RuleD}{aH:List Int}{aI vb vv va vt vh:Value}(hr:qek r)(hj:JoinAt U nU W0 J r (qm r) aH aI vb vv va vt vh)(R: ∀b,U b->b<nU)
  {sF:Nat->Option Nat} {sN:Option Nat} (aA: ∀m S,sF m=some S->S∈Ss) (aU: ∀S,sN=some S->S∈Ss) {first:Int} (hf:qa9 r first=false)
  {l:Nat} {Jp Jx:Nat->Gh->World->Prop} {W:World} {j:Gh} (hinv:GInv j W) (av:qf1 Ss j) (hV:EachV U nU n0 W0 W) (hU: ∀b,U b->j.free b)
  (hJ: ∀k γ X γ' Y,Jp k γ X->(qa8 n0 Ss).istep γ X γ' Y->Jp k γ' Y) (aP: ∀k γ X γ' Y,Jx k γ X->(qa8 n0 Ss).istep γ X γ' Y->Jx k γ' Y)
  (ae: ∀k γ X0 X args,k<(qgn j sF sN r first).length->Jp k γ X0->(qa8 n0 Ss).istep γ X0 γ X->(qa8 n0 Ss).inv γ X->EachV U nU n0 W0 X->W.heap.size<=X0.heap.size->(∃b,(qgn j sF sN r first)[k]?=some b/\qic r (qm r) b γ X0.heap.size X args)->YieldAt Fence.wide 0 prog l args X (qhg (qa8 n0 Ss) (EachV U nU n0 W0) Jp Jx k γ X))
  (h0:Jp 0 j W) (aT:okJ j sF sN r.body r.body.length=true)
  {X:World} (hK:wD W X) {Bj By Bl Lk Bs V KK Bv Bk Bt Bu Bp:Nat} {ao:Option Addr} {co:Nat}
  (l1:W.heap.size<=Bj) (l2:W.heap.size<=By) (l3:W.heap.size<=Bl) (l4:W.heap.size<=Lk) (l5:W.heap.size<=Bs) (l6:W.heap.size<=V) (l7:W.heap.size<=KK) (l8:W.heap.size<=Bv) (l9:W.heap.size<=Bk) (aY:W.heap.size<=Bt) (aZ:W.heap.size<=Bu) (a0:W.heap.size<=Bp)
  (aj:X.ownsRow W.heap.size 3 1 (.slice ao (qfq j sF sN r first).length co) (qfq j sF sN r first).length ((qfq j sF sN r first).map fun i:Nat=>.int .i64 (i:Int)))
  (p1:X.heap[Bj]?=some (.cells #[qj J] 35 (0,0))) (p2:X.heap[By]?=some (.cells #[.func (.yield l) #[] #[]] 137 (0,0))) (p3:X.heap[Bl]?=some (.cells #[.slice (some ⟨Lk,0,none⟩) r.body.length r.body.length] 184 (0,0)))
  (p4:X.heap[Lk]?=some (.cells ((qc8 j sF sN r.body).flatMap LookD.cells).toArray 192 (0,0))) (p5:X.heap[Bs]?=some (.cells #[.slice ao (qfq j sF sN r first).length co] 125 (0,0)))
  (p6:X.heap[V]?=some (.cells (Array.replicate (qm r).length (.string ⟨#[]⟩)) 9 (0,0))) (p7:X.heap[KK]?=some (.cells (madeCells #[.bool false] (qm r).length) 4 (0,0)))
  (p8:X.heap[Bv]?=some (.cells #[.slice (some ⟨V,0,none⟩) (qm r).length (qm r).length] 60 (0,0))) (p9:X.heap[Bk]?=some (.cells #[.slice (some ⟨KK,0,none⟩) (qm r).length (qm r).length] 29 (0,0)))
  (aE:X.heap[Bt]?=some (.cells #[.func (.func 120) #[] #[qj Bv]] 188 (0,0))) (aF:X.heap[Bu]?=some (.cells #[.func (.func 121) #[] #[qj Bt]] 189 (0,0)))
  (aG:X.heap[Bp]?=some (.cells #[.func (.func 122) #[] #[qj Bs,qj By,qj Bu,qj Bj,qj Bv,qj Bl,qj Bt,qj Bp,qj Bk]] 190 (0,0))):
  Calls prog 122 #[.int .i64 0,qj Bs,qj By,qj Bu,qj Bj,qj Bv,qj Bl,qj Bt,qj Bp,qj Bk] X fun e W'=>(∃b,e=.returned (.bool b))/\W.heap.size<=W'.heap.size/\ ∃γ',(qa8 n0 Ss).inv γ' W'/\EachV U nU n0 W0 W'/\(Jp (qgn j sF sN r first).length γ' W'∨ ∃k,k<(qgn j sF sN r first).length/\Jx k γ' W'):=by
 obtain⟨aS,aa,aD⟩:=qiq (qh4 hinv sF sN hr first hf);have bp:GInv j X:=hinv.keep hK.mt;have ad:n0<=W.heap.size:=hV.2.2;have au: ∀{a b:Nat} {o o':Obj},X.heap[a]?=some o->X.heap[b]?=some o'->o≠o'->a≠b:=fun ha s ho e=>by subst e;rw [ha] at s;exact ho (yH s)
 have ar:(madeCells #[.bool false] (qm r).length)=((List.replicate (qm r).length false).map Value.bool).toArray:=qvw _;have ab:(Array.replicate (qm r).length (Value.string ⟨#[]⟩))=((List.replicate (qm r).length (⟨#[]⟩:ByteArray)).map Value.string).toArray:=by
  apply Array.ext
  ·simp
  ·intro i u v;simp
 have aW:V≠KK:=au p6 p7 (by intro h;injection h with _ h _;revert h;decide);have nv: ∀{b:Nat} {vs:Array Value} {t:TypeId},X.heap[b]?=some (.cells vs t (0,0))->t≠9->t≠4->b≠V/\b≠KK:=fun s u v=>⟨au s p6 (by intro h;injection h with _ h _;exact u h),au s p7 (by intro h;injection h with _ h _;exact v h)⟩;obtain⟨gs,an⟩:=ex (j.hold W.heap.size X);have p:GStep n0 j W gs X:=by rw [←an];exact(GStep.own hinv hK).hold ad
 have z:gs.st=j.st:=by rw [←an];rfl
 have d: ∀{b:Nat} {o:Obj},W.heap.size<=b->X.heap[b]?=some o->gs.held b=some o:=fun u v=>by rw [←an];exact q17 hinv u v
 obtain⟨steps,g⟩:=ex (qfq j sF sN r first);have aC: ∀i,i∈steps->i<r.body.length:=fun i hi=>(aS i).1 (by rw [←g] at hi;exact hi);have af:steps.length<=1073741824:=by
  have u:=(qmz (sizes:=qda r.body (qc8 j sF sN r.body)) (first:=first) ?_ hr.safe hf r.body.length (zG _)).stp
  ·have v:steps.length=r.body.length:=by rw [←g];unfold qfq qf7;rw [zL,u]
   obtain⟨_,_,_,az,_⟩:=hj.body;omega
  ·have:=qh4 hinv sF sN hr first hf
   unfold qdq at this;cases hu:qbo (qda r.body (qc8 j sF sN r.body)) with
   |true=>rfl
   |false=>rw [hu,hr.formed] at this;exact absurd this wB
 rw [g]at aj p5
 let c:WkC:=⟨r,qm r,qc8 j sF sN r.body,steps,J,l,Bj,By,Bl,Lk,Bs,Bv,V,Bk,KK,Bt,Bu,Bp,.slice ao steps.length co,aH,aI,vb,vv,va,vt,vh⟩
 have aq:(qc8 j sF sN r.body).length=r.body.length:=qjy _ _ _ _;have ap:WkHeld c gs (List.replicate (qm r).length ⟨#[]⟩) (List.replicate (qm r).length false):=by
  refine⟨⟨d l1 p1,nv p1 wC wC⟩,⟨d l2 p2,nv p2 wC wC⟩,⟨?_,nv p3 wC wC⟩,⟨d l4 p4,nv p4 wC wC⟩,⟨d l5 p5,nv p5 wC wC⟩,?_,⟨?_,nv p8 wC wC⟩,⟨?_,nv p9 wC wC⟩,⟨d aY aE,nv aE wC wC⟩,⟨d aZ aF,nv aF wC wC⟩,⟨d a0 aG,nv aG wC wC⟩,?_,?_,aW⟩
  ·show gs.held Bl=some (.cells #[.slice (some ⟨Lk,0,none⟩) (qc8 j sF sN r.body).length (qc8 j sF sN r.body).length] 184 (0,0));rw [aq];exact d l3 p3
  ·rcases aj.2 with e |⟨gb,cap,cur,y,e2,e3,e4,e5,e6,e7⟩
   ·obtain⟨y,e2⟩:=e;injection y with y e3 e4
    subst y;refine⟨none,co,rfl,⟨by show steps.length<=co;omega,by rw [e4];simp [maxLen]⟩,fun k i hi=>?_⟩;have:=(zA.1 hi).1;have v:steps.length=0:=e2;exact absurd this (by show ¬k<steps.length;omega)
   ·injection y with y _ e4'
    subst y;subst e4';refine⟨_,_,rfl,⟨e4,e5⟩,fun k i hi=>⟨gb,rfl,nv e3 wC wC,cur,d e2 e3,?_⟩⟩;have hk:(cur.toList.take (steps.length*1))[k]?=some (.int .i64 (i:Int)):=by rw [e7,zP,show steps[k]?=some i from hi];rfl
    rw [xO (by have:=(zA.1 hi).1;have v:k<steps.length:=this;omega),xg]at hk;exact hk
  ·rw [length_replicate];exact d l8 p8
  ·rw [length_replicate];exact d l9 p9
  ·rw [←ab];exact d l6 p6
  ·rw [←ar];exact d l7 p7
 have hE:qdk n0 W.heap.size W0 c (qej j sF sN r.body) U nU (EachV U nU n0 W0) (qgn j sF sN r first) (fun k γ X=>Jp k γ X/\qf1 Ss γ) (fun k γ X=>Jx k γ X/\qf1 Ss γ):=by
  obtain⟨_,_,_,aX,_⟩:=hj.vrow;refine⟨fun k γ X γ' Y h hs=>⟨hJ k γ X γ' Y h.1 hs,by intro S hS;rw [hs.2];exact h.2 S hS⟩,fun k γ X γ' Y h hs=>⟨aP k γ X γ' Y h.1 hs,by intro S hS;rw [hs.2];exact h.2 S hS⟩,fun k γ X0 X args b s hJ0 his hi hVX hn hT=>?_,hj,fun X hX=>⟨hX.1,hX.2.1⟩,fun X Y C hX aQ hC=>hX.keep R aQ hC,R,ad,zW ad l6,zW ad l7,aX,?_,aa,fun L t hL ht=>q3x hr hL ht,fun t ht=>q3y ht,hr.small,hr.preds,aq,?_,aC,af,qw2 av aA sN r.body⟩
  ·have:=ae k γ X0 X args (zA.1 s).1 hJ0.1 his ⟨hi,hJ0.2⟩ hVX hn ⟨b,s,hT⟩;refine this.mono ?_;rintro e Y ⟨γ',u,v,h3,h4,h5⟩;refine⟨γ',u.1,v,h3,h4,?_⟩;rcases h5 with ⟨y,h5⟩ |⟨y,h5⟩
   ·exact .inl ⟨y,h5,u.2⟩
   ·exact .inr ⟨y,h5,u.2⟩
  ·show(qm r).Nodup;unfold qm;exact qjz _
  ·show(qc8 j sF sN r.body).length<=_;rw [aq];obtain⟨_,_,_,az,_⟩:=hj.body;exact az
 have aB:qf1 Ss gs:=by intro S hS;rw [z];exact av S hS
 have hA:StepAt W.heap.size c (qej j sF sN r.body) U (EachV U nU n0 W0) (qgn j sF sN r first) (fun k γ X=>Jp k γ X/\qf1 Ss γ) 0 0 gs X qco (List.replicate (qm r).length ⟨#[]⟩) (List.replicate (qm r).length false):=by
  refine⟨p.inv,hV.keep R hK (fun _ _=>wE),fun b s=>p.new b (by have:=R b s;have:=hV.2.1;omega) (hU b s),ap,?_,q30,?_,fun x hx=>.inr ?_,fun q b s=>?_,⟨hJ _ _ _ _ _ h0 ⟨p,z⟩,aB⟩,hK.size⟩
  ·exact(q3z av aA aU (c:=c) rfl aT).more (fun S f hS=>⟨[],by rw [z,yO];exact hS⟩)
  ·rw [qg7,drop_zero];show qgd r.body steps _;rw [←g];exact aD
  ·rw [drop_zero];show x∈qaa r.body steps;rw [←g];exact q15 hinv hr hf hx
  ·rw [zD];rw [drop_zero]at s;have:(qbe (qej j sF sN r.body) r.body steps qco)[q]?=some b:=s;rw [←g]at this;exact this
 have am:=q0z hE steps.length 0 (by show 0+steps.length=steps.length;omega) 0 gs X qco _ _ hA;refine am.mono ?_;rintro e W' ⟨bh,rfl,g',a4,u,v,h3,h4,h5,h6,h7,h8,h9⟩;refine⟨⟨_,rfl⟩,zW hK.size h4,?_⟩;rcases h9 with ⟨-,h9,h10⟩ |⟨-,k,hk,h9,h10⟩
 ·refine⟨g',⟨u,h10⟩,v,.inl ?_⟩;have e:(qbe (qej j sF sN r.body) c.r.body (c.steps.drop 0) qco).length=(qgn j sF sN r first).length:=by
   rw [drop_zero];show(qbe (qej j sF sN r.body) r.body steps qco).length=_;rw [←g]
   rfl
  rw [e,zD]at h9;exact h9
 ·exact⟨g',⟨u,h10⟩,v,.inr ⟨k,hk,h9⟩⟩
end Go.Proofs
