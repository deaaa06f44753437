/- Parts of the proof. -/
import Derived.Test.YtnponcjnahicnaaGreatDoorPnQToPnU
import Derived.Test.YtnponcjnahicnaaGreatDoorFltBToPnO
set_option linter.unusedSimpArgs false
set_option linter.unusedVariables false
set_option maxRecDepth 100000
set_option maxHeartbeats 2000000
open Go.Proofs.Tryz(prog)
open List(filter_replicate foldl_cons getD_cons_succ getElem?_set_ne getElem_cons_succ getElem_cons_zero getElem_toArray length_cons length_singleton set_cons_succ set_cons_zero)
namespace Go.Proofs.P16
open Go.RowKit Go.Ink
attribute [local go_sem] Oper.semAt_some
theorem qxg (n:Nat)(r:RuleD)(sh sb:Value)(w:World)(hr:RuleIn n w sh sb r)(hn:n<=w.heap.size):
  Calls prog 208 #[qaz r sh sb] w fun e w'=> ∃vh vb,e=.returned (qaz r vh vb)/\RuleOwn w.heap.size 79 77 w' vh vb r/\Keep (fun b=>b<w.heap.size) w w':=by
 obtain⟨⟨pr,args⟩,body⟩:=r;obtain⟨hh,f⟩:=id hr;unfold qaz;simp only at hh f⊢;obtain⟨aa,ca,rfl,cC,cV,-⟩:=id hh;obtain⟨ab,cb,rfl,cD,df,-⟩:=id f;obtain⟨bf,bV⟩:=qdr hh;obtain⟨ps,bc,au,bb,bS⟩:=qo2 f;have R:ps.length=body.length:=by have:=yM List.length bc;rwa [zL] at this
 have aV:=qs6 au;obtain⟨N,hN⟩:=ex (w.heap.size);have bN:=fun W (hK:Keep (fun b=>b<w.heap.size) w W)=>qgp aa args.length ca (qv args) W (qdv args) (fun b f j u hj=>hK.cell (bf b f j u hj) (zQ w _ (bf b f j u hj))) bV (qg3 args) cC;have bO:=fun W (hK:Keep (fun b=>b<w.heap.size) w W)=>qlh ab body.length cb (ps.flatMap qbn) W (by rw [qa1 qbn 7 (fun _=>rfl),R]) (fun b f j u hj=>hK.cell (bb b f j u hj) (zQ w _ (bb b f j u hj))) bS aV cD;have bP:=fun p (hp:p∈ps) W (hK:Keep (fun b=>b<w.heap.size) w W)=>show∀a c,p.2=.slice a p.1.atom.args.length c->_ from fun a c e=>
  have hs:=qdr (e▸au p hp)
  qgp a p.1.atom.args.length c (qv p.1.atom.args) W (qdv _) (fun b f j u hj=>hK.cell (hs.1 b f j u hj) (zQ w _ (hs.1 b f j u hj))) hs.2 (qg3 _) (by obtain⟨_,_,_,h,_⟩:=au p hp;exact h)
 clear hh f hr bf bV bb bS aV;refine hd7 ?_ bN bO bP bc au R hN;clear bN bO bP bc au R hN;intro bn bo bp bt bu l ah
 go_enter Tryz.func208,Tryz.ntmps208
 go_wp2_with fail;refine qwn (fun W=>Keep (fun b=>b<w.heap.size) w W/\W.heap.size=w.heap.size+1+1/\W.heap[w.heap.size]?=some (.cells #[.string pr,.slice aa args.length ca,.slice ab body.length cb] 27 (0,0))/\
  W.heap[w.heap.size+1]?=some (.cells #[.string ⟨#[]⟩,.slice none 0 0,.slice none 0 0] 27 (0,0))) ⟨kAl.trans kAl,wB,by simp only [qah,zO];simp,by simp only [qah,zO];simp⟩ ?_
 rintro W0 ⟨k0,z0,g1,g2⟩;have aR:=bn.o W0 k0;rw [ah.o]at k0 z0 g1 g2⊢;have a8:=qb g1 1 _ rfl;have a9:=qb g1 2 _ rfl;simp only [zD]at a8 a9;refine hd3 ?_ k0 g1 g2;clear k0 g1 g2;intro cu cs ct;refine aR.mono ?_;rintro e W1 ⟨vh,rfl,oh,k1⟩;obtain⟨al,am,rfl⟩:=qi oh;have e1:=k1.cell a8 trivial;have e2:=k1.cell a9 trivial;have b1:=k1.heap cs.o trivial;have dc:=qg b1 1;have dp:=k1.size;have dj:N<W1.heap.size:=xz
 obtain⟨W2,an⟩:=ex (W1.setCell ⟨N,1,none⟩ (.slice al args.length am));have k2:Keep (fun b=>b≠N) W1 W2:=by rw [←an];exact kSc
 have z2:W2.heap.size=W1.heap.size:=by rw [←an];simp [World.setCell]
 have b2:=qz 1 (.slice al args.length am) b1;rw [an]at b2;simp only [yJ,set_cons_succ,set_cons_zero]at b2;have b9:=qf oh k2 (fun b f=>by have:=(zE oh b f).1;omega);have bh:Keep (fun b=>b<N) w W2:=(cu.o.trans k1.mt).trans (k2.mono fun b _ h=>xz);have r2:=k2.heap (k1.heap ct.o wE) (show N+1≠N from xz);have aS:=bo.o W2 (bh.mono fun b _ h=>by have:=ah.o;omega);have q2:=qb b2 2 _ rfl;simp only [zD]at q2;have dk:N<W2.heap.size:=xz
 clear a8 a9 aR oh k1 k2 b1;refine hd6 ?_ an b2 b9 bh r2 aS;clear an b2 b9 bh r2 aS;intro bk cp aP bz cv a2;go_wp2_with fail;rw [bk.o];refine a2.o.mono ?_;rintro e W3 ⟨vb,rfl,ob,k3⟩;have dq:=k3.size;obtain⟨ae,y,rfl⟩:=qi ob;have b3:=k3.heap cp.o trivial;have q3:=qb b3 2 _ rfl;have cK:=qg b3 2;simp only [zD]at q3;have dl:N<W3.heap.size:=xz
 obtain⟨W4,ao⟩:=ex (W3.setCell ⟨N,2,none⟩ (.slice ae body.length y));have k4:Keep (fun b=>b≠N) W3 W4:=by rw [←ao];exact kSc
 have z4:W4.heap.size=W3.heap.size:=by rw [←ao];simp [World.setCell]
 have b4:=qz 2 (.slice ae body.length y) b3;rw [ao]at b4;simp only [yJ,set_cons_succ,set_cons_zero]at b4;have aG:Keep (fun b=>b≠N) W2 W4:=k3.mt.trans k4;have aH:=qf aP.o aG (fun b f=>by have:=(zE aP.o b f).1;omega);have b8:=(qf ob k4 (fun b f=>by have:=(zE ob b f).1;omega)).mono (show N+2<=W2.heap.size from xz);have aH:=aH.mono (show N+2<=W0.heap.size from xz);have b7:Keep (fun b=>b<N) w W4:=bz.o.trans (aG.mono fun b _ h=>xz);have r4:=aG.heap cv.o (show N+1≠N from xz);have q4:=qb b4 2 _ rfl;simp only [zD]at q4;have dm:N<W4.heap.size:=xz
 clear q2 ob k3 k4 aG b3;refine hd6 ?_ ao b4 aH b8 b7 r4;clear ao b4 aH b8 b7 r4;intro bl cq bG bF bD cw;go_wp2_with fail;rw [bl.o];clear q3 cK q4
 go_loopw [17] (fun i' wr=> ∃(k:Nat) (qs:List (LitD×Value)),k<=body.length/\i'=.int .i64 (k:Int)/\Keep (fun b=>b<N+2) W4 wr/\qs.length=k/\qs.map (·.1)=body.take k/\
  wr.ownsRow (N+2) 79 7 (.slice ae body.length y) body.length ((qs++ps.drop k).flatMap qbn)/\wr.ownsRow (N+2) 77 2 (.slice al args.length am) args.length (qv args)/\
  (∀p,p∈qs->wr.ownsRow (N+2) 77 2 p.2 p.1.atom.args.length (qv p.1.atom.args))) (fun i _=>body.length-(intOf i).toNat)
 case atStart=>exact⟨0,[],xz,rfl,Keep.refl _ _,rfl,rfl,bF.o,bG.o,wB⟩
 case round=>
  obtain⟨k,qs,hk,rfl,hK,af,av,s,aB,aE⟩:=hrel;have dn:=hK.size;have bx:=hK.heap cq.o (show N<N+2 from xz);have c2:=qb bx 2 _ rfl;simp only [zD]at c2;have de:N<wr.heap.size:=xz
  have kw:Keep (fun b=>b<w.heap.size) w wr:=(bD.o.mono fun b _ h=>by have:=ah.o;omega).trans (hK.mono fun b _ h=>by have:=ah.o;omega);by_cases cE:k<body.length
  ·have cW:(k:Int)<body.length:=by omega
   have di:(0:Int)<=k:=xz
   obtain⟨p,hp⟩: ∃p,ps[k]?=some p:=⟨_,zB (by rw [l.o];exact cE)⟩;obtain⟨g,rfl⟩: ∃g,ae=some ⟨g,0,none⟩:=by
    rcases s.2 with ⟨h1,h2⟩ |⟨g,_,_,h1,_⟩
    ·omega
    ·cases h1;exact⟨g,rfl⟩
   have z:ps.drop k=p::ps.drop (k+1):=by
    have cB:=(zA.1 hp).1;have:=zr cB;rw [(zA.1 hp).2]at this;exact this
   have aC:=zH hp;obtain⟨bH,bK,aD,-,-,-⟩:=id (bu.o p aC);have bQ:=bp.o p aC wr.drew (kw.trans kDr) bH bK aD;have ba:wr.cell? ⟨g,k*7+2,none⟩=some p.2:=by
    have:=qau s (k*7+2) p.2 (by rw [z,qas qbn 7 (fun _=>rfl) (qs++p::ps.drop (k+1)) k 2 p (by rw [yG xz,af];simp) xz];rfl);exact this
   rw [aD]at ba;have cA:=(qcm s);have bU:body[k]?=some p.1:=by rw [←bt.o,zP,hp];rfl
   have bW:(k*7+2)<((qs++ps.drop k).flatMap qbn).length:=by
    rw [qa1 qbn 7 (fun _=>rfl),zR,xu,af,l.o];omega
   have dh:g<wr.heap.size:=cA.2.2.1;clear hp;refine ql3 ?_ hK af av s aB aE bx kw z aC bQ bU aD bW;clear hK af av s aB aE bx kw z aC bQ bU aD bW;intro bi ai aj U X ak cr bw ay cL bq br cM bv;go_wp2_with fail;refine qba rfl (fun W=>W.cell? ⟨N,2,none⟩=some (.slice (some ⟨g,0,none⟩) body.length y)/\W.cell? ⟨g,k*7+2,none⟩=some (.slice bH p.1.atom.args.length bK)) [14] ?_;have aO:=zg (And.intro c2 ba);refine qab [0,1,2,3,4,5,6,7,8,9] ?_
   iterate 10
    refine tkA rfl aO.o ?_
    try simp only [qac]
   refine qk ?_;refine qhe (i:=10) rfl wA (fun KK d=>?_);have aJ:=zg d;clear d;simp only [getElem_toArray,getElem_cons_zero,getElem_cons_succ,Act.put,yJ,set_cons_zero,set_cons_succ,zD];go_wp2_with fail;refine bq.o.mono ?_;rintro e W5 ⟨v',rfl,o5,k5⟩;have n0:=k5.cell (show wr.drew.cell? ⟨N,2,none⟩=_ from c2) trivial;have n1:=k5.cell (show wr.drew.cell? ⟨g,k*7+2,none⟩=_ from ba) trivial;have cH:=k5.size;simp only [World.size_drew]at cH;obtain⟨t,x,rfl⟩:=qi o5;go_wp2_with fail;refine aJ.o _ _ (fun _=>⟨n0,n1⟩) ?_;refine qhe (i:=11) rfl wA (fun KK d=>?_);have aK:=zg d;clear d;go_wp2_with fail;refine aK.o _ _ (fun _=>⟨n0,n1⟩) ?_;refine qhe (i:=12) rfl wA (fun KK d=>?_);have aL:=zg d;clear d;go_wp2_with fail;refine aL.o _ _ (fun _=>⟨n0,n1⟩) ?_;refine qhe (i:=13) rfl wA (fun KK d=>?_);have aM:=zg d;clear d;go_wp2_with fail;refine aM.o _ _ (fun _=>⟨n0,n1⟩) ?_;refine qhe (i:=14) rfl wA (fun KK d=>?_);have aN:=zg d;clear d;have ax:wD wr W5:=kDr.trans k5;have ap:=qf U.o ax (fun _ _=>wE);obtain⟨db,aF⟩:=qao ap (b:=g) rfl;have cJ:=qg aF (k*7+2);have dg:=qe aF;obtain⟨W6,aA⟩:=ex (W5.setCell ⟨g,k*7+2,none⟩ (.slice t p.1.atom.args.length x));have k6:Keep (fun b=>b≠g) W5 W6:=by rw [←aA];exact kSc
   have Y:=qiy ap (k*7+2) (.slice t p.1.atom.args.length x) bv.o;rw [aA,ay.o]at Y;have aw:=qvu qs (ps.drop (k+1)) p (.slice t p.1.atom.args.length x);rw [ai.o]at aw;rw [aw]at Y;have ad: ∀(base:Nat) (v:Value) (m:Nat) (xs:List Value),W5.ownsRow base 77 2 v m xs-> ∀b,v.ownBlock=some b->b≠g:=fun base v m xs h b f e=>by
    obtain⟨c2,t2⟩:=qao h f;rw [e,aF]at t2;cases t2
   have ar:=qf X.o ax (fun _ _=>wE);have aU:=qf ar k6 (ad _ _ _ _ ar);have bM:Keep (fun b=>b<N+2) W4 W6:=(bi.o.trans ax.mt).trans (k6.mono fun b _ h=>xz);have o6:=(qf o5 k6 (ad _ _ _ _ o5)).mono (show N+2<=wr.heap.size from xz);have aZ: ∀q,q∈qs++ [(p.1,Value.slice t p.1.atom.args.length x)]->W6.ownsRow (N+2) 77 2 q.2 q.1.atom.args.length (qv q.1.atom.args):=fun q hq=>by
    rcases zn.1 hq with h |h
    ·have h1:=qf (ak.o q h) ax (fun _ _=>wE);exact qf h1 k6 (ad _ _ _ _ h1)
    ·simp only [zl]at h;subst h;exact o6
   have aY:(qs++ [(p.1,Value.slice t p.1.atom.args.length x)]).map (·.1)=body.take (k+1):=by
    rw [zm,aj.o,zh,br.o];rfl
   have aX:(qs++ [(p.1,Value.slice t p.1.atom.args.length x)]).length=k+1:=by rw [zR,ai.o];rfl
   have aq:W6.ownsRow (N+2) 79 7 (.slice (some ⟨g,0,none⟩) body.length y) body.length (((qs++ [(p.1,Value.slice t p.1.atom.args.length x)])++ps.drop (k+1)).flatMap qbn):=by
    rw [yq];exact Y
   clear ax ap aF k6 Y aw ad ar k5 o5 o6;refine hd7 ?_ aA aq aU bM aZ aY aX;clear aA aq aU bM aZ aY aX;intro bm az a3 bj a6 a5 a4;go_wp2_with fail;refine aN.o _ _ (fun h=>by simp at h) ?_;refine qbq wA ?_;clear aO aJ aK aL aM aN n0 n1 cJ;rw [bm.o];go_wp2_with fail;go_roundw
   case rel=>exact⟨k+1,_,xz,by go_num,bj.o,a4.o,a5.o,az.o,a3.o,a6.o⟩
   case measure=>simp [intOf];omega
  ·obtain rfl:k=body.length:=by omega
   have bR:ps.drop body.length= []:=by rw [xk (by rw [l.o];exact zG _)]
   rw [bR,yO]at s;rw [zi]at av;have c0:=qb bx 0 _ rfl;have c1:=qb bx 1 _ rfl;have rx:=hK.heap cw.o (show N+1<N+2 from xz);have d0:=qb rx 0 _ rfl;have d1:=qb rx 1 _ rfl;have d2:=qb rx 2 _ rfl;have f0:=qg rx 0;have f1:=qg rx 1;have f2:=qg rx 2;simp only [zD]at c0 c1 d0 d1 d2;have cz:N+1<wr.heap.size:=qe rx;clear bR;refine hd9 ?_ hK af av s aB aE bx kw rx;clear hK af av s aB aE bx kw rx;intro bi ai aj U X ak cr bw c8;go_wp2_with fail;refine zz (v:=.agg #[.string pr,.slice al args.length am,.slice ae body.length y]) (by simp [results,Tryz.results208,go_sem,d0,d1,d2,cz]) rfl ?_;have kS:Keep (fun b=>b≠N+1) wr (((wr.setCell ⟨N+1,0,none⟩ (.string pr)).setCell ⟨N+1,1,none⟩ (.slice al args.length am)).setCell ⟨N+1,2,none⟩ (.slice ae body.length y)):=
    ((kSc).trans (kSc)).trans (kSc)
   have dd:=ah.o;refine⟨_,_,rfl,⟨(qf X.o kS (fun b f=>by have:=(zE X.o b f).1;omega)).mono xz,qs,aj.o,(qf U.o kS (fun b f=>by have:=(zE U.o b f).1;omega)).mono xz,fun q hq=>?_⟩,bw.o.trans (kS.mono fun b _ h=>xz)⟩;have h1:=ak.o q hq;exact(qf h1 kS (fun b f=>by have:=(zE h1 b f).1;omega)).mono xz
end Go.Proofs.P16
namespace Go.Proofs.P16
open Go.RowKit Go.Ink Go.Flt
structure MkS where
 K:List ByteArray
 taken:List Bool
 rows:Nat
 steps:List qc5
def qbd (K:List ByteArray)(rows:Nat)(sizes:List qaj)(ls:List LitD)(tk:List Bool):Nat->Int×Nat×Bool
 |0=>(-1,0,false)
 |i+1=>
  let p:=qbd K rows sizes ls tk i
  if p.2.2 then p
  else if tk.getD i true then p
  else if (ls.getD i default).kind≠1 then (if qcj K (ls.getD i default) then ((i:Int),p.2.1,true) else p)
  else if p.1<0∨qcq rows (ls.getD i default) (qa7 K (ls.getD i default) i).bound sizes<p.2.1 then ((i:Int),qcq rows (ls.getD i default) (qa7 K (ls.getD i default) i).bound sizes,false)
  else p
def q3a (r:RuleD)(sizes:List qaj)(s:MkS):Int:=(qbd s.K s.rows sizes r.body s.taken r.body.length).1
def qhw (r:RuleD)(sizes:List qaj)(n:Int)(s:MkS):MkS:=
 let L:=r.body.getD n.toNat default
 let x:=qa7 s.K L n
 ⟨qcs s.K x.new,s.taken.set n.toNat true,qcq s.rows L x.bound sizes,s.steps++ [x]⟩
def qgq (r:RuleD)(sizes:List qaj)(first:Int)(j:Nat)(s:MkS):Int:=if 0<j∨first<0 then q3a r sizes s else first
def qbm (r:RuleD)(sizes:List qaj)(first:Int):Nat->MkS
 |0=>⟨[],List.replicate r.body.length false,4607182418800017408,[]⟩
 |j+1=>qhw r sizes (qgq r sizes first j (qbm r sizes first j)) (qbm r sizes first j)
structure qrq where
 rule:RuleD
 steps:List qc5
def qmj:qrq:=⟨⟨⟨⟨#[]⟩,[]⟩,[]⟩,[]⟩
def qa9 (r:RuleD)(first:Int):Bool:=decide (first< -1) ||decide ((r.body.length:Int)<=first) ||(decide (0<=first)&&decide ((r.body.getD first.toNat default).kind≠1))
def qis (r:RuleD)(sizes:List qaj)(first:Int):qrq×Int:=
 if qdq r sizes (qa9 r first)≠0 then (qmj,qdq r sizes (qa9 r first)) else (⟨r,(qbm r sizes first r.body.length).steps⟩,0)
theorem qzy {K:List ByteArray}{rows:Nat}{sizes:List qaj}{ls:List LitD}{tk:List Bool}{i:Nat}(h:(qbd K rows sizes ls tk i).2.2=true): ∀j,i<=j->qbd K rows sizes ls tk j=qbd K rows sizes ls tk i:=by
 intro j c
 induction j with
 |zero=>rw [show i=0 from xz]
 |succ j b=>
  rcases yX j i with hl |hg
  ·rw [show i=j+1 from xz]
  ·have b:=b hg;rw [show qbd K rows sizes ls tk (j+1)=_ from rfl];simp only [qbd,b,h,yg]
theorem qxh {K:List ByteArray}{rows:Nat}(b:rows<=9094988921128908188){sizes:List qaj}(c:qbo sizes=true){ls:List LitD}{tk:List Bool}(i:Nat):(qbd K rows sizes ls tk i).2.1<=9094988921128908188:=by
 induction i with
 |zero=>simp [qbd]
 |succ i ih=>
  simp only [qbd];split
  ·exact ih
  ·split
   ·exact ih
   ·split
    ·split
     ·exact ih
     ·exact ih
    ·split
     ·exact ql2 b _ _ c
     ·exact ih
theorem qzz {K:List ByteArray}{rows:Nat}{sizes:List qaj}{ls:List LitD}{tk:List Bool}(i:Nat):(qbd K rows sizes ls tk i).1= -1∨ ∃k:Nat,(qbd K rows sizes ls tk i).1=(k:Int)/\k<i/\tk.getD k true=false/\((ls.getD k default).kind=1∨qcj K (ls.getD k default)=true):=by
 induction i with
 |zero=>exact .inl rfl
 |succ i ih=>
  have b:(qbd K rows sizes ls tk i).1= -1∨ ∃k:Nat,(qbd K rows sizes ls tk i).1=(k:Int)/\k<i+1/\tk.getD k true=false/\((ls.getD k default).kind=1∨qcj K (ls.getD k default)=true):=by
   rcases ih with h |⟨k,h1,h2,h3⟩
   ·exact .inl h
   ·exact .inr ⟨k,h1,xz,h3⟩
  simp only [qbd];split
  ·exact b
  ·split
   ·exact b
   ·rename_i ht;rw [xt]at ht;split
    ·split
     ·rename_i hr;exact .inr ⟨i,rfl,xz,ht,.inr hr⟩
     ·exact b
    ·rename_i hk;split
     ·exact .inr ⟨i,rfl,xz,ht,.inl xz⟩
     ·exact b
theorem qz0 {K:List ByteArray}{rows:Nat}{sizes:List qaj}{ls:List LitD}{tk:List Bool}(i:Nat)(h:(qbd K rows sizes ls tk i).1= -1): ∀k,k<i->tk.getD k true=false->(ls.getD k default).kind≠1/\qcj K (ls.getD k default)=false:=by
 induction i with
 |zero=>intro k g;omega
 |succ i ih=>
  simp only [qbd]at h;intro k g f;by_cases d:(qbd K rows sizes ls tk i).2.2=true
  ·rw [zI d]at h;exfalso;have: ∀j,(qbd K rows sizes ls tk j).2.2=true->(qbd K rows sizes ls tk j).1≠ -1:=by
    intro j
    induction j with
    |zero=>intro h;simp [qbd] at h
    |succ j ihj=>
     simp only [qbd];split
     ·exact ihj
     ·rename_i hn;split
      ·intro h;exact absurd h hn
      ·split
       ·split
        ·intro _;simp only;omega
        ·intro h;exact absurd h hn
       ·split
        ·intro h;simp at h
        ·intro h;exact absurd h hn
   exact this i d h
  ·rw [zF d]at h;rcases yX k i with hl |hg
   ·refine ih ?_ k hl f
    revert h
    split
    ·exact id
    ·split
     ·split
      ·simp only;omega
      ·exact id
     ·split
      ·simp only;omega
      ·exact id
   ·obtain rfl:k=i:=by omega
    rw [zF (by rw [f];simp)]at h;by_cases b:(ls.getD k default).kind≠1
    ·rw [zI b]at h;refine⟨b,?_⟩;by_cases e:qcj K (ls.getD k default)=true
     ·rw [zI e]at h;simp only at h;omega
     ·simpa using e
    ·rw [zF b]at h;by_cases c:(qbd K rows sizes ls tk k).1<0∨qcq rows (ls.getD k default) (qa7 K (ls.getD k default) k).bound sizes<(qbd K rows sizes ls tk k).2.1
     ·rw [zI c]at h;simp only at h;omega
     ·rw [zF c]at h;exfalso;exact c (.inl xz)
structure q5i (r:RuleD)(j:Nat)(s:MkS):Prop where
 len:s.taken.length=r.body.length
 cnt:(s.taken.filter id).length=j
 stp:s.steps.length=j
 row:s.rows<=9094988921128908188
 bnd: ∀k,k<r.body.length->s.taken.getD k true=true->(r.body.getD k default).kind=1-> ∀x,x∈qir (r.body.getD k default).atom.args->x∈s.K
theorem quz {K c:List ByteArray}{L:LitD}(h: ∀x,x∈K->x∈c)(b:qcj K L=true):qcj c L=true:=by
 unfold qcj at b⊢;rw [y8]at b⊢;rcases b with h1 |h2
 ·exact .inl h1
 ·right;rw [←qxe,yL]at h2⊢
  intro x d;have:=h2 x d;simp only [zT]at this⊢;exact h x this
theorem qqs {K b:List ByteArray}{x:ByteArray}:x∈qcs K b↔x∈K∨x∈b:=by
 have h: ∀(b K:List ByteArray),x∈qcs K b↔x∈K∨x∈b:=by
  intro b
  induction b with
  |nil=>intro K;simp [qcs]
  |cons y r ih=>
   intro K;unfold qcs;rw [foldl_cons];have:=ih (if y∈K then K else K++ [y]);unfold qcs at this;rw [this];by_cases c:y∈K
   ·rw [zI c,zt];constructor
    ·rintro(h |h)
     ·exact .inl h
     ·exact .inr (.inr h)
    ·rintro(h |rfl |h)
     ·exact .inl h
     ·exact .inl c
     ·exact .inr h
   ·rw [zF c,zn,zl,zt,or_assoc]
 exact h b K
theorem qz1 {l:List Bool}{k:Nat}(h:l.getD k true=false):((l.set k true).filter id).length=(l.filter id).length+1:=by
 induction l generalizing k with
 |nil=>simp at h
 |cons b r ih=>
  cases k with
  |zero=>
   simp at h;subst h;simp
  |succ k=>
   simp only [getD_cons_succ]at h;have:=ih h;cases b<;>simp [this]
theorem qu0 {l:List Bool}(h:(l.filter id).length<l.length): ∃k,k<l.length/\l.getD k true=false:=by
 induction l with
 |nil=>simp at h
 |cons b r ih=>
  cases b with
  |false=>exact⟨0,wB,rfl⟩
  |true=>
   obtain⟨k,d,c⟩:=ih (by rw [ye,zI (show id true=true from rfl),length_cons,length_cons] at h;omega);exact⟨k+1,by simp;omega,by simpa using c⟩
theorem qib {r:RuleD}{sizes:List qaj}{first:Int}(q:qds r=true)(g:qa9 r first=false){j:Nat}{s:MkS}(z:j<r.body.length)(h:q5i r j s)(y:j=0->s.taken=List.replicate r.body.length false):
  ∃k:Nat,qgq r sizes first j s=(k:Int)/\k<r.body.length/\s.taken.getD k true=false/\((r.body.getD k default).kind=1∨qcj s.K (r.body.getD k default)=true):=by
 unfold qgq;by_cases u:0<j∨first<0
 ·rw [zI u];unfold q3a;rcases qzz (K:=s.K) (rows:=s.rows) (sizes:=sizes) (ls:=r.body) (tk:=s.taken) r.body.length with hn |⟨k,h1,h2,f,h4⟩
  ·exfalso;have d:=qz0 _ hn;obtain⟨k,e,m⟩:=qu0 (l:=s.taken) (by rw [h.cnt,h.len];exact z);rw [h.len]at e;have p:=d k e m;have hK: ∀x,x∈qbh r.body->x∈s.K:=by
    intro x b;rw [←qzw]at b;have: ∀i,i<=r.body.length->x∈qhv (r.body.take i)->x∈s.K:=by
     intro i
     induction i with
     |zero=>intro _ b;simp [qhv] at b
     |succ i ih=>
      intro hi b;have t:=zB (show i<r.body.length from xz);rw [qnf r.body t]at b;have c:r.body.getD i default=r.body[i]'(by omega):=by rw [zJ,t];rfl
      split at b
      ·rename_i hk1';rcases zn.1 b with b |b
       ·exact ih xz b
       ·by_cases v:s.taken.getD i true=true
        ·exact h.bnd i xz v (by rw [c];exact hk1') x (by rw [c];exact b)
        ·exact absurd (by rw [c];exact hk1') (d i xz (by simpa using v)).1
      ·exact ih xz b
    exact this r.body.length (zG _) (by rwa [zi])
   unfold qds at q;rw [zV,yL]at q;have c:r.body.getD k default=r.body[k]:=by rw [zJ,zB e];rfl
   have:=quz hK (q.2 (r.body.getD k default) (by rw [c];exact xD _));rw [p.2]at this;cases this
  ·exact⟨k,h1,h2,f,h4⟩
 ·rw [zF u];unfold qa9 at g;rw [xE,xE,yP,yP]at g;have f:=g.2;rw [zS (show 0<=first from xz),yT,yP,Classical.not_not]at f;refine⟨first.toNat,xz,xz,?_,.inl f⟩;rw [y xz,zJ,xT,zI xz]
  rfl
theorem qmz {r:RuleD}{sizes:List qaj}{first:Int}(z:qbo sizes=true)(y:qds r=true)(s:qa9 r first=false)(j:Nat)(R:j<=r.body.length):q5i r j (qbm r sizes first j):=by
 induction j with
 |zero=>
  refine⟨by simp [qbm],by simp [qbm,filter_replicate],rfl,by simp only [qbm];decide,?_⟩;intro k t f;simp only [qbm]at f;rw [zJ,xT,zI t]at f;cases f
 |succ j b=>
  have b:=b xz;obtain⟨k,l,u,m,v⟩:=qib (sizes:=sizes) y s (show j<r.body.length from xz) b (fun h=>by subst h;rfl);have e:qbm r sizes first (j+1)=qhw r sizes (k:Int) (qbm r sizes first j):=by
   show qhw r sizes (qgq r sizes first j (qbm r sizes first j)) (qbm r sizes first j)=_;rw [l]
  rw [e];unfold qhw;simp only [Int.toNat_natCast];refine⟨by simp only [xp];exact b.len,?_,?_,ql2 b.row _ _ z,?_⟩
  ·rw [qz1 m,b.cnt]
  ·simp only [zR,length_singleton];rw [b.stp]
  ·intro i hi f q x p;rw [qqs];by_cases c:i=k
   ·subst c;have d:(qa7 (qbm r sizes first j).K (r.body.getD i default) (i:Int)).new=qbt (qbm r sizes first j).K (r.body.getD i default).atom.args:=by unfold qa7;rw [zF xz]
    rw [d,qk5];by_cases g:x∈(qbm r sizes first j).K
    ·exact .inl g
    ·exact .inr ⟨p,g⟩
   ·left;refine b.bnd i hi ?_ q x p
    rwa [zJ,getElem?_set_ne (fun e=>c e.symm),←zJ] at f
end Go.Proofs.P16
