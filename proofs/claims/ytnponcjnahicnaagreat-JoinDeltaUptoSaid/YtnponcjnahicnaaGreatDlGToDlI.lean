/- Parts of the proof. -/
import Derived.Test.YtnponcjnahicnaaGreatDlDToDlF
set_option linter.unusedSimpArgs false
set_option linter.unusedVariables false
set_option maxRecDepth 100000
set_option maxHeartbeats 4000000
open Go.Proofs.Tryz(prog)
open List(length_singleton nil_append)
namespace Go.Proofs
open Go.RowKit Go.Ink Go.Flt R4 P16
attribute [local go_sem] Oper.semAt_some
def qp8 (p:qk×Value):List Value:= [.string p.1.pred,p.2]
structure RStW (S:Nat)(w:World)(ps:List (qk×Value)):Prop where
 box: ∃v,w.heap[S]?=some (.cells #[v] 98 (0,0))/\w.ownsRow (S+1) 52 2 v ps.length (ps.flatMap qp8)
 rows: ∀p,p∈ps->w.ownsRow (S+1) 9 1 p.2 p.1.tuple.length (p.1.tuple.map .string)
 few: ∀p,p∈ps->p.1.tuple.length<=1073741824
theorem RStW.keep {S:Nat}{w w':World}{ps:List (qk×Value)}(h:RStW S w ps)(hK:wG w w'):RStW S w' ps:=by
 obtain⟨v,b,c⟩:=h.box;exact⟨⟨v,hK.heap b wH,qf c hK fun _ _=>wH⟩,fun p d=>qf (h.rows p d) hK fun _ _=>wH,h.few⟩
theorem RStW.keepP {S:Nat}{w w':World}{ps:List (qk×Value)}{P:Nat->Prop}(h:RStW S w ps)(hK:Keep P w w')(d: ∀b,S<=b->b<w.heap.size->P b):RStW S w' ps:=by
 obtain⟨v,c,l⟩:=h.box;have key: ∀{e:TypeId} {sz n:Nat} {v:Value} {xs:List Value},w.ownsRow (S+1) e sz v n xs->w'.ownsRow (S+1) e sz v n xs:=fun ho=>qf ho hK fun b g=>d b (by have:=(zE ho b g).1;omega) (zE ho b g).2;exact⟨⟨v,hK.heap c (d S (zG _) (qe c)),key l⟩,fun p m=>key (h.rows p m),h.few⟩
theorem RStW.read {S:Nat}{w:World}{ps:List (qk×Value)}(h:RStW S w ps)(X:ps.length<=1073741824):RSt w (some S) (ps.map (·.1)):=by
 obtain⟨v,y,z⟩:=h.box;refine⟨v,y,?_⟩;have s:SliceIn w.heap.size w 2 (fun w b o (p:qk×Value)=>CellsE w b o (qp8 p)) v ps:=qdb z ps rfl X _ fun b k p d m=>fun j u t=>by
  have g:j<2:=by
   have:=(zA.1 t).1
   simpa [qp8]using this
  have U:=qbj qp8 2 (fun _=>rfl) _ k j p d g;have:=m j g;rw [U,t]at this;exact this
 obtain⟨a,c,Y,r,m,R⟩:=s;refine⟨a,c,by rw [zL];exact Y,by rw [zL];exact r,by rw [zL];exact m,fun i f e=>?_⟩;rw [zP]at e;cases d:ps[i]? with
 |none=>rw [d] at e;cases e
 |some p=>
  rw [d]at e;cases e;obtain⟨b,o,x,l,q⟩:=R i p d;exact⟨b,o,x,l,p.2,q,qbq (h.rows p (zH d)) (h.few p (zH d))⟩
theorem q4n {S:Nat}{w:World}{ps:List (qk×Value)}(h:RStW S w ps)(hl:ps.length<=1073741823)(f:qk)(hp:f.pred.size<=1073741824)(m:Nat)(v:Value)(ht:qac m w v f.tuple)(hm:m<=w.heap.size):
  Calls prog 17 #[qi S,.agg #[.string f.pred,v]] w fun e w'=> ∃v0 ps',e=.returned v0/\RStW S w' ps'/\ps'.map (·.1)=qed okF (ps.map (·.1)) f/\Keep (fun b=>b<S) w w':=by
 obtain⟨N,hN⟩:=ex (w.heap.size);obtain⟨a,cp,rfl,b3,ct,he⟩:=id ht;obtain⟨W0,R⟩:=ex (w.alloc (.cells #[.string f.pred,.slice a f.tuple.length cp] 52));have k0:wG w W0:=by rw [←R];exact kAl
 have p0:W0.heap[N]?=some (.cells #[.string f.pred,.slice a f.tuple.length cp] 52 (0,0)):=by rw [←R,←hN];exact qh _ _
 have cs:S<w.heap.size:=by obtain⟨v,h1,-⟩:=h.box;exact qe h1
 have ad:=qan ht k0.mt;have c:=q4m f hp m _ W0 ad (by have:=k0.size;omega);have c0:=qb p0 0 _ rfl;have c1:=qb p0 1 _ rfl;have l0:=qe p0;simp only [zD]at c0 c1;cases g:okF f with
 |false=>
  rw [g]at c;have hE:qed okF (ps.map (·.1)) f=ps.map (·.1):=by unfold qed;rw [zF (by rw [g];simp)]
  refine qhu ?_ h ht he hN R k0 p0 ad c g hE;clear h ht he hN R k0 p0 ad c g hE;intro Xh aZ bo af z ar br aP d aO ap;unfold qi
  go_enter Tryz.func17,Tryz.ntmps17
  go_wp2_with fail;rw [z.o,af.o];refine d.o.mono ?_;rintro e W1 ⟨rfl,k1⟩;have l:=ar.o.trans k1;clear k1;refine hd1 ?_ l;clear l;intro s;go_wp2_with fail;refine yA (v:=.tuple #[.bool false,.int .i64 2]) (by simp [results,Tryz.results17,go_sem]) rfl ⟨_,ps,rfl,Xh.o.keep s.o,ap.o.symm,s.o.mt⟩
 |true=>
  rw [g]at c;have y:=fun W (hK:wG w W)=>qty ((h.keep hK).read wC) f m _ (qan ht hK.mt) (by have:=hK.size;omega);by_cases ai:f∈ps.map (·.1)
  ·have hE:qed okF (ps.map (·.1)) f=ps.map (·.1):=by unfold qed;rw [zF (fun hh=>hh.2 ai)]
   simp only [zS ai]at y;refine qhv ?_ h ht he hN R k0 p0 ad c g hE y;clear h ht he hN R k0 p0 ad c g hE y;intro Xh aZ bo af z ar br aP d aO ap Y;unfold qi
   go_enter Tryz.func17,Tryz.ntmps17
   go_wp2_with fail;rw [z.o,af.o];refine d.o.mono ?_;rintro e W1 ⟨rfl,k1⟩;have l:=ar.o.trans k1;have e0:=k1.cell c0 trivial;have e1:=k1.cell c1 trivial;have l1:N<W1.heap.size:=zk l0 k1.size;have ab:=Y.o W1 l;simp only [Option.map_some]at ab;clear k1 c0 c1 ai;refine hd2 ?_ l ab;clear l ab;intro s aq;go_wp2_with fail;refine aq.o.mono ?_;rintro e W2 ⟨rfl,k2⟩;have am:=s.o.trans k2;clear k2;refine hd1 ?_ am;clear am;intro au;go_wp2_with fail;refine yA (v:=.tuple #[.bool false,.int .i64 0]) (by simp [results,Tryz.results17,go_sem]) rfl ⟨_,ps,rfl,Xh.o.keep au.o,ap.o.symm,au.o.mt⟩
  ·have hE:qed okF (ps.map (·.1)) f=ps.map (·.1)++ [f]:=by unfold qed;rw [zI ⟨g,ai⟩]
   simp only [zM ai]at y;refine qhv ?_ h ht he hN R k0 p0 ad c g hE y;clear h ht he hN R k0 p0 ad c g hE y;intro Xh aZ bo af z ar br aP d aO ap Y;unfold qi
   go_enter Tryz.func17,Tryz.ntmps17
   go_wp2_with fail;rw [z.o,af.o];refine d.o.mono ?_;rintro e W1 ⟨rfl,k1⟩;have l:=ar.o.trans k1;have e0:=k1.cell c0 trivial;have e1:=k1.cell c1 trivial;have l1:N<W1.heap.size:=zk l0 k1.size;have ab:=Y.o W1 l;simp only [Option.map_some]at ab;clear c0 c1 ai;refine hd3 ?_ k1 l ab;clear k1 l ab;intro bV s aq;go_wp2_with fail;refine aq.o.mono ?_;rintro e W2 ⟨rfl,k2⟩;have bO:=bV.o.trans k2;have am:=s.o.trans k2;obtain⟨Wd,a8⟩:=ex (W2.drew);have kd:wG W2 Wd:=by rw [←a8];exact kDr
   have U:=am.trans kd;have b6:=bO.trans kd;have cr:=U.size;have hd:=Xh.o.keep U;obtain⟨vl,bH,a6⟩:=Xh.o.box;have ah:=U.heap bH trivial;have a5:=qf a6 U fun _ _=>trivial;have a3: ∀b,vl.ownBlock=some b->b<N:=fun b hb=>by have:=(zE a6 b hb).2;have:=af.o;omega
   have ay:=hd.rows;obtain⟨al,cl,rfl⟩:=qj a5;obtain⟨W3,aB⟩:=ex (Wd.alloc (.cells #[] 9));have k3:wG Wd W3:=by rw [←aB];exact kAl
   have o3:=qfg Wd 9 1;rw [aB]at o3;obtain⟨bN,bK⟩:=qne (qan aZ.o ((U.trans k3).mt));obtain⟨v4,W4,bL,aD,bI,bJ⟩:=qhz (P:=prog) qel 46 o3 a f.tuple.length cp (f.tuple.map .string) wE bN bK (qnf _) wC k3.size;rw [nil_append,zD]at aD;have aT:Keep (fun b=>b<Wd.heap.size) Wd W4:=k3.mt.trans (bJ.mono fun b _ h e=>by
    rcases bI b e with h1 |h1
    ·simp [Value.ownBlock]at h1;omega
    ·have:=k3.size;omega)
   have r:wG Wd W4:=aT.mono fun b hb _=>hb;obtain⟨a4,c4,rfl⟩:=qj aD;have a7:=r.heap ah trivial;have av:=qf a5 r fun _ _=>trivial;have z4:=r.size;have b1:S+1<=W4.heap.size:=by have:=qe a7;omega
   obtain⟨v5,W5,bM,a9,aj,g5,c5,b4,cu,cw⟩:=qc8 (P:=prog) qvr 28 av [.string f.pred,.slice a4 f.tuple.length c4] rfl (by simp [Value.oneCell']) wC b1;subst b4;have ag:=aj.heap a7 (fun e=>qd4 av (Nat.lt_succ_self S) e);obtain⟨W6,aC⟩:=ex (W5.setCell ⟨S,0,none⟩ (.slice (some ⟨g5,0,none⟩) (ps.length+1) c5));have k6:Keep (fun b=>b≠S) W5 W6:=by rw [←aC];exact kSc
   have bG:W6.heap[S]?=some (.cells #[.slice (some ⟨g5,0,none⟩) (ps.length+1) c5] 98 (0,0)):=by rw [←aC];exact qgn _ ag
   have aU: ∀{b:Nat},(Value.slice (some ⟨g5,0,none⟩) (ps.length+1) c5).ownBlock=some b->b≠S:=fun hb e=>by have:=(zE a9 _ hb).1;omega
   have aS:RStW S W6 (ps++ [(f,.slice a4 f.tuple.length c4)]):=by
    refine⟨⟨_,bG,?_⟩,fun p hp=>?_,fun p hp=>?_⟩
    ·rw [zR,length_singleton,yG];exact qf a9 k6 fun b hb=>aU hb
    ·have key: ∀{x:Value} {t:List ByteArray},W4.ownsRow (S+1) 9 1 x t.length (t.map .string)->W6.ownsRow (S+1) 9 1 x t.length (t.map .string):=fun hx=>qf (qf hx aj fun b hb e=>qc9 hx av wF hb e.symm) k6 fun b hb e=>by have:=(zE hx b hb).1;omega
     rcases zr.1 hp with hp |hp
     ·exact key (qf (ay p hp) r fun _ _=>wH)
     ·rw [zm.1 hp];exact key (aD.mono (by have:=qe ah;omega))
    ·rcases zr.1 hp with hp |hp
     ·exact hd.few p hp
     ·rw [zm.1 hp];exact b3
   have ax:Keep (fun b=>b<S) w W6:=U.mt.trans (r.mt.trans ((aj.mono fun b _ h e=>qd4 av (show b<S+1 from wC) e).trans (k6.mono fun b _ h=>wC)));have aV:(ps++ [(f,Value.slice a4 f.tuple.length c4)]).map (·.1)=qed okF (ps.map (·.1)) f:=by rw [ap.o,zn];rfl
   have aa: ∀X,wG Wd X->X.cell? ⟨S,0,none⟩=some (.slice al ps.length cl)/\X.cell? ⟨N,0,none⟩=some (.string f.pred)/\X.cell? ⟨N,1,none⟩=some (.slice a f.tuple.length cp):=fun X hX=>by
    have q:=qb (hX.heap ah wH) 0 _ rfl;simp only [zD]at q;exact⟨q,hX.cell ((k2.trans kd).cell e0 wH) wH,hX.cell ((k2.trans kd).cell e1 wH) wH⟩
   have bw:=aa Wd (Keep.refl _ _);have bx:=aa W3 k3;have bz:=aa W4 r;have cy:=qe ah;have cx:=qe ag;have cf:N<Wd.heap.size:=zk l1 ((k2.trans kd).size);have f5:=qg ag 0;have q5:=qb ag 0 _ rfl;simp only [zD]at q5;have bF:(W4.alloc (.cells #[.string f.pred,.slice a4 f.tuple.length c4] 52)).cell? ⟨S,0,none⟩=some (.slice al ps.length cl)/\(W4.alloc (.cells #[.string f.pred,.slice a4 f.tuple.length c4] 52)).cell? ⟨N,0,none⟩=some (.string f.pred)/\(W4.alloc (.cells #[.string f.pred,.slice a4 f.tuple.length c4] 52)).cell? ⟨N,1,none⟩=some (.slice a f.tuple.length cp):=aa _ (r.trans kAl);have bD:W5.cell? ⟨S,0,none⟩=some (.slice al ps.length cl)/\W5.cell? ⟨N,0,none⟩=some (.string f.pred)/\W5.cell? ⟨N,1,none⟩=some (.slice a f.tuple.length cp):=by
    obtain⟨x1,x2,x3⟩:=aa W4 r;exact⟨q5,aj.cell x2 (fun e=>by have:=a3 N e.symm;omega),aj.cell x3 (fun e=>by have:=a3 N e.symm;omega)⟩
   clear e0 e1 aj a9 a3 bH a6 bJ aT bI bN bK o3 bO b6 hd a5 av a7 bG ay aD aU;refine qb5 ?_ bD k2 am a8 kd U ah aB k3 bL r bM ag aC k6 aS;clear bD k2 am a8 kd U ah aB k3 bL r bM ag aC k6 aS;intro bj cm au bn cq cd cb bl cn bp ce bq ca bm co aX;refine hd7 ?_ ax aV aa bw bx bz bF;clear ax aV aa bw bx bz bF;intro aA aY cc bh bi aG bk;go_wp2_with fail;refine qa5 rfl (fun X=>X.cell? ⟨S,0,none⟩=some (.slice al ps.length cl)/\X.cell? ⟨N,0,none⟩=some (.string f.pred)/\X.cell? ⟨N,1,none⟩=some (.slice a f.tuple.length cp)) [14,15,16] ?_;rw [bn.o];refine qy [0,1,2,3,4,5,6,8,9] ?_
   iterate 9
    refine tkN (v:=?_) rfl bh.o ?_ ?_;rotate_left
    ·rintro Wq ⟨x1,x2,x3⟩;go_simp
     try with_reducible rfl
    try simp only [qz]
   refine qm ?_;refine ho 7 rfl fun K aH=>?_;go_wp2_with fail;rw [bl.o];refine aH.o _ _ (fun _=>bi.o) ?_;refine ho 10 rfl fun K aI=>?_;refine qbu (v:=.slice (some ⟨Wd.heap.size,0,none⟩) 0 0) (u:=.slice a f.tuple.length cp) (v':=.slice a4 f.tuple.length c4) (w':=W4) rfl (.tmp 19) (.tmp 21) 46 rfl rfl rfl bp.o ?_;go_wp2_with fail;refine aI.o _ _ (fun _=>aG.o) ?_;refine qy [11] ?_
   iterate 1
    refine tkN (v:=?_) rfl aG.o ?_ ?_;rotate_left
    ·rintro Wq ⟨x1,x2,x3⟩;go_simp
     try with_reducible rfl
    try simp only [qz]
   refine qm ?_;refine ho 12 rfl fun K aJ=>?_;go_wp2_with fail;refine aJ.o _ _ (fun _=>bk.o) ?_;refine ho 13 rfl fun K aK=>?_;refine qbu (v:=.slice al ps.length cl) (u:=.slice (some ⟨W4.heap.size,0,none⟩) 1 1) (v':=.slice (some ⟨g5,0,none⟩) (ps.length+1) c5) (w':=W5) rfl (.tmp 16) (.tmp 24) 28 rfl rfl rfl bq.o ?_;go_wp2_with fail;refine aK.o _ _ (fun _=>bj.o) ?_;refine ho 14 rfl fun K aM=>?_;go_wp2_with fail;refine aM.o _ _ (fun h=>absurd h wF) ?_;refine ho 15 rfl fun K aN=>?_;go_wp2_with fail;refine aN.o _ _ (fun h=>absurd h wF) ?_;refine ho 16 rfl fun K aL=>?_;go_wp2_with fail;rw [bm.o];refine aL.o _ _ (fun h=>absurd h wF) ?_;refine qbh wD ?_;clear aH aI aJ aK aL aM aN;go_wp2_with fail;refine yA (v:=.tuple #[.bool true,.int .i64 0]) (by simp [results,Tryz.results17,go_sem]) rfl ⟨_,_,rfl,aX.o,aY.o,aA.o⟩
theorem qoa {n:Nat}{w:World}{v:Value}{fs:List qk}(hf:FactsIn n w v fs)(hn:n<=w.heap.size)(aj: ∀f,f∈fs->f.pred.size<=1073741824)(ax:fs.length<67108864):
  Calls prog 13 #[v] w fun e w'=> ∃S ps,e=.returned (qi S)/\RStW S w' ps/\ps.map (·.1)=qbw okF fs/\w.heap.size<=S/\wG w w':=by
 obtain⟨N,hN⟩:=ex (w.heap.size);obtain⟨a,cp,rfl,hl,aI,he⟩:=id hf;obtain⟨W0,m⟩:=ex (w.alloc (.cells #[.slice none 0 0] 98));have k0:wG w W0:=by rw [←m];exact kAl
 have p0:W0.heap[N]?=some (.cells #[.slice none 0 0] 98 (0,0)):=by rw [←m,←hN];exact qh _ _
 have s:RStW N W0 []:=⟨⟨_,p0,zj _ _ _ _⟩,fun p hp=>(by cases hp),fun p hp=>(by cases hp)⟩;refine hd8 ?_ hf he hN m k0 p0 s aj;clear hf he hN m k0 p0 s aj;intro aB an g Y ao aC x ad
 go_enter Tryz.func13,Tryz.ntmps13
 go_wp2_with fail;rw [Y.o,g.o]
 go_loopw [4] (fun ix wr=> ∃(k:Nat) (ps:List (qk×Value)),k<=fs.length/\ix=.int .i64 (k:Int)/\Keep (fun b=>b<N) w wr/\RStW N wr ps/\ps.map (·.1)=qbw okF (fs.take k)) (fun i _=>fs.length-(intOf i).toNat)
 case atStart=>exact⟨0,[],wC,rfl,ao.o.mt,x.o,rfl⟩
 case round=>
  obtain⟨k,ps,hk,rfl,hK,l,c⟩:=hrel;have aJ:(0:Int)<=k:=wC
  have aL:=hK.size;have aK:ps.length<=k:=by
   have h1:=yO List.length c;have h2:=qh6 (fs.take k);rw [zL]at h1;rw [yC]at h2;omega
  by_cases ag:k<fs.length
  ·have ay:(k:Int)<fs.length:=by omega
   obtain⟨f,q⟩: ∃f,fs[k]?=some f:=⟨_,zB ag⟩;obtain⟨b,o,rfl,hb,sv,R,U⟩:=an.o k f q;have kn:Keep (fun b=>b<n) w wr:=hK.mono fun b _ h=>by have:=g.o;omega
   have q0:=kn.cell (R 0 _ rfl) hb;have q1:=kn.cell (R 1 _ rfl) hb;have aH:b<wr.heap.size:=by have:=g.o;omega
   simp only [Nat.add_zero]at q0;have z:=q4n l wC f (ad.o f (zH q)) n sv (qan U kn) (by have:=g.o;omega);have ak:=qql q;obtain⟨aD,aE,rfl,-,-,-⟩:=id U;clear R U q kn;unfold qi at z;refine hd5 ?_ hK l c z ak;clear hK l c z ak;intro u r d aa ae;go_wp2_with fail;refine aa.o.mono ?_;rintro e W1 ⟨v0,al,rfl,t,ah,k1⟩;have ai:al.map (·.1)=qbw okF (fs.take (k+1)):=by rw [ah,d.o,ae.o]
   have af:=u.o.trans k1;clear ah k1;refine hd3 ?_ t ai af;clear t ai af;intro y ab X;go_wp2_with fail;go_roundw
   case rel=>exact⟨k+1,al,wC,by go_num,X.o,y.o,ab.o⟩
   case measure=>simp [intOf];omega
  ·obtain rfl:k=fs.length:=by omega
   rw [zi]at c;clear ag;refine hd3 ?_ hK l c;clear hK l c;intro u r d;go_wp2_with fail;go_ret;exact⟨N,ps,rfl,r.o,d.o,by have:=g.o;omega,u.o.mono fun b hb _=>by have:=g.o;omega⟩
theorem qp9 (n:Nat)(z:Value)(xs:List ByteArray)(x:ByteArray)(w:World)(r:qac n w z xs)(hn:n<=w.heap.size)(h:x∈xs):
  Calls prog 72 #[z,.string x] w fun e w'=> ∃k:Nat,e=.returned (.int .i64 (k:Int))/\w'=w/\xs[k]?=some x:=by
 obtain⟨aa,ca,rfl,ae,ab,q⟩:=id r;refine hd3 ?_ r q h;clear r q h;intro R p l
 go_enter Tryz.func72,Tryz.ntmps72
 go_wp2_with fail
 go_loopw [5] (fun i wr=> ∃k:Nat,k<=xs.length/\i=.int .i64 (k:Int)/\wr=w/\x∉xs.take k) (fun i _=>xs.length-(intOf i).toNat)
 case atStart=>exact⟨0,wC,rfl,rfl,wE⟩
 case round=>
  obtain⟨k,hk,rfl,rfl,b⟩:=hrel;by_cases s:k<xs.length
  ·obtain⟨y,h⟩: ∃x,xs[k]?=some x:=⟨_,zB s⟩;obtain⟨u,oa,rfl,Y,m⟩:=p.o k y h;have U:wr.cell? ⟨u,oa+k*1,none⟩=some (.string y):=m;simp only [yB]at U;have X:u<wr.heap.size:=by omega
   have v:(k:Int)<xs.length:=wC
   have ad:(0:Int)<=k:=wC
   by_cases c:y=x
   ·have t:(y.toList==x.toList)=true:=qdv c;rw [c]at h;clear b c m;refine hd1 ?_ h;clear h;intro l;go_wp2_with fail;go_ret;exact⟨k,rfl,rfl,l.o⟩
   ·have t:(y.toList==x.toList)=false:=qc1 c;have d:x∉xs.take (k+1):=by
     rw [zh,h];simp only [Option.toList_some,zr,zm,not_or];exact⟨b,fun e=>c e.symm⟩
    clear b h c m;refine hd1 ?_ d;clear d;intro g;go_wp2_with fail;go_roundw
    case rel=>exact⟨k+1,wC,by go_num,wH,g.o⟩
    case measure=>simp [intOf];omega
  ·obtain rfl:k=xs.length:=by omega
   rw [zi]at b;exact absurd l.o b
def KnT (vars:List ByteArray)(a:Asg)(t:TermD):Prop:=t.var=true->t.text∈vars/\ ∃v,a t.text=some v
theorem qmy {n:Nat}{w:World}{vv vl:Value}{vars vals:List ByteArray}{kn:List Bool}{a:Asg}(hA:qcs vars vals kn a)(p:qac n w vv vars)(X:qac n w vl vals)(hn:n<=w.heap.size)(t:TermD)(U:KnT vars a t):
  Calls prog 143 #[qc3 t,vv,vl] w fun e w'=>e=.returned (.string (qaz a t))/\wG w w':=by
 obtain⟨N,z⟩:=ex (w.heap.size);unfold qc3;obtain⟨W0,d⟩:=ex (w.alloc (.cells #[.bool t.var,.string t.text] 60));have q:wG w W0:=by rw [←d];exact kAl
 have p0:W0.heap[N]?=some (.cells #[.bool t.var,.string t.text] 60 (0,0)):=by rw [←d,←z];exact qh _ _
 cases c:t.var with
 |false=>
  have x:qaz a t=t.text:=by unfold qaz qaa;rw [c,zF wF];rfl
  rw [x];rw [c]at d;clear x p0;refine hd8 ?_ hA p X U z d q c;clear hA p X U z d q c;intro r ag af ae ad g h v
  go_enter Tryz.func143,Tryz.ntmps143
  go_wp2_with fail;rw [g.o];go_ret;exact⟨rfl,h.o⟩
 |true=>
  obtain⟨ai,y,hy⟩:=U c;have x:qaz a t=y:=by unfold qaz qaa;rw [c,zI rfl,hy];rfl
  rw [x];rw [c]at d;have Y:=qp9 n vv vars t.text W0 (qan p q.mt) (by have:=q.size;omega) ai;obtain⟨av,cv,rfl,-,-,-⟩:=id p;obtain⟨al,cl,rfl,au,ap,R⟩:=id X;clear x p0;refine qhu ?_ hA p X U z d q c hy Y R;clear hA p X U z d q c hy Y R;intro r ag af ae ad g h v ah u s
  go_enter Tryz.func143,Tryz.ntmps143
  go_wp2_with fail;rw [g.o];refine u.o.mono ?_;rintro e W1 ⟨k,rfl,m,aa⟩;have m:=m.symm;subst m;have l:=r.o.val k t.text y aa ah.o;obtain⟨b,o,rfl,hb,hx⟩:=s.o k y l;have hx:w.cell? ⟨b,o+k*1,none⟩=some (.string y):=hx;have q0:=h.o.cell hx trivial;have ao:b<W0.heap.size:=by have:=h.o.size;omega
  simp only [yB]at q0;have ar:=(zA.1 l).1;have ak:(k:Int)<vals.length:=wC
  have aq:(0:Int)<=k:=wC
  clear hx l aa;go_wp2_with fail;go_ret;exact⟨rfl,h.o⟩
theorem qr4 {n:Nat}{w:World}{vv vl:Value}{vars vals:List ByteArray}{kn:List Bool}{a:Asg}(hA:qcs vars vals kn a)(hv:qac n w vv vars)(hl:qac n w vl vals)(hn:n<=w.heap.size)(p:qcn){sa:Value}(hp:qai n w sa p.args)(hk: ∀t,t∈p.args->KnT vars a t):
  Calls prog 117 #[.agg #[.string p.pred,sa],vv,vl] w fun e w'=> ∃v',e=.returned (.agg #[.string p.pred,v'])/\w'.ownsRow w.heap.size 9 1 v' p.args.length ((p.args.map (qaz a)).map .string)/\wG w w':=by
 obtain⟨N,hN⟩:=ex (w.heap.size);obtain⟨av,cv,rfl,-,-,-⟩:=id hv;obtain⟨al,cl,rfl,-,-,-⟩:=id hl;obtain⟨ap,cp,rfl,b7,b2,a2⟩:=id hp;obtain⟨W0,d⟩:=ex (((w.alloc (.cells #[.string p.pred,.slice ap p.args.length cp] 24)).alloc (.cells #[.string ⟨#[]⟩,.slice none 0 0] 52)).alloc (.cells #[.string p.pred,.slice none 0 0] 52));have k0:wG w W0:=by rw [←d];exact(kAl.trans kAl).trans kAl
 have z0:W0.heap.size=N+3:=by rw [←d,←hN];simp
 have p0:W0.heap[N]?=some (.cells #[.string p.pred,.slice ap p.args.length cp] 24 (0,0)):=by rw [←d,←hN];exact((Keep.alloc (fun _=>True) _ _).trans kAl).heap (qh w _) trivial
 have p1:W0.heap[N+1]?=some (.cells #[.string ⟨#[]⟩,.slice none 0 0] 52 (0,0)):=by
  rw [←d,←hN];have:=qh (w.alloc (.cells #[.string p.pred,.slice ap p.args.length cp] 24)) (.cells #[.string ⟨#[]⟩,.slice none 0 0] 52);rw [zO]at this;exact(Keep.alloc (fun _=>True) _ _).heap this trivial
 have p2:W0.heap[N+2]?=some (.cells #[.string p.pred,.slice none 0 0] 52 (0,0)):=by
  rw [←d,←hN];have:=qh ((w.alloc (.cells #[.string p.pred,.slice ap p.args.length cp] 24)).alloc (.cells #[.string ⟨#[]⟩,.slice none 0 0] 52)) (.cells #[.string p.pred,.slice none 0 0] 52);rw [zO,zO]at this;exact this
 refine qhv ?_ hA hv hl hp hk a2 hN d k0 p0 p1 p2;clear hA hv hl hp hk a2 hN d k0 p0 p1 p2;intro bi bn bm bV bl aL l aG aO bq br bs
 go_enter Tryz.func117,Tryz.ntmps117
 go_wp2_with fail;rw [aG.o,l.o,show N+1+1=N+2 from rfl]
 go_loopw [8] (fun ix wr=> ∃(k:Nat) (vt:Value),k<=p.args.length/\ix=.int .i64 (k:Int)/\Keep (fun b=>b<N+2) W0 wr/\wr.heap[N+2]?=some (.cells #[.string p.pred,vt] 52 (0,0))/\wr.ownsRow (N+3) 9 1 vt k (((p.args.take k).map (qaz a)).map .string)) (fun i _=>p.args.length-(intOf i).toNat)
 case atStart=>exact⟨0,.slice none 0 0,wC,rfl,Keep.refl _ _,bs.o,zj _ _ _ _⟩
 case round=>
  obtain⟨k,vt,b5,rfl,hK,hB,r⟩:=hrel;have b8:=hK.size;have b4:(0:Int)<=k:=wC
  have ai:=hK.heap bq.o wC;have d1:=qb ai 1 _ rfl;have l0:=qe ai;have e1:=qb hB 1 _ rfl;have lB:=qe hB;simp only [zD]at d1 e1;obtain⟨c,ct,rfl⟩:=qj r;by_cases a4:k<p.args.length
  ·have bK:(k:Int)<p.args.length:=by omega
   obtain⟨t,z⟩: ∃t,p.args[k]?=some t:=⟨_,zB a4⟩;obtain⟨b,o,rfl,hb,q0,q1⟩:=aL.o k t z;have a1:b<N:=by have:=l.o;omega
   have kw:Keep (fun b=>b<N) w wr:=aO.o.mt.trans (hK.mono fun b _ h=>wC);have g0:=kw.cell q0 a1;have g1:=kw.cell q1 a1;have hS: ∀X,Keep (fun b=>b<N+3) wr X->X.cell? ⟨N+2,1,none⟩=some (.slice c k ct)/\X.cell? ⟨N,1,none⟩=some (.slice (some ⟨b,o,none⟩) p.args.length cp)/\X.cell? ⟨b,o+k*2,none⟩=some (.bool t.var)/\X.cell? ⟨b,o+k*2+1,none⟩=some (.string t.text):=fun X hX=>⟨hX.cell e1 (show N+2<N+3 from wC),hX.cell d1 (show N<N+3 from wC),hX.cell g0 (show b<N+3 from wC),hX.cell g1 (show b<N+3 from wC)⟩;obtain⟨R,y⟩:=ex (wr.drew);have kd:wG wr R:=by rw [←y];exact kDr
   have zd:R.heap.size=wr.heap.size:=by rw [←y];rfl
   have aS:=hS R kd.mt;have am:Keep (fun b=>b<n) w R:=(kw.mono fun b _ h=>by have:=l.o;omega).trans kd.mt;have aj:=qmy (w:=R) bi.o (qan bn.o am) (qan bm.o am) (by have:=l.o;omega) t (bl.o t (zH z));unfold qc3 at aj;have a6:(p.args.take (k+1)).map (qaz a)=(p.args.take k).map (qaz a)++ [qaz a t]:=by rw [zh,z,zn];rfl
   have aR:=kd.heap hB trivial;have aZ:=qf r kd fun _ _=>trivial;have cf:b<R.heap.size:=wC
   have ce:N<R.heap.size:=wC
   have cd:N+2<R.heap.size:=wC
   clear q0 q1 z ai kw am;refine qhu ?_ hK hB r hS y kd aS aj a6 aR aZ;clear hK hB r hS y kd aS aj a6 aR aZ;intro aB bj bk af aJ bp ax aK aN aw aF;go_wp2_with fail;refine qa5 rfl (fun X=>X.cell? ⟨N+2,1,none⟩=some (.slice c k ct)/\X.cell? ⟨N,1,none⟩=some (.slice (some ⟨b,o,none⟩) p.args.length cp)/\X.cell? ⟨b,o+k*2,none⟩=some (.bool t.var)/\X.cell? ⟨b,o+k*2+1,none⟩=some (.string t.text)) [12,13] ?_;rw [aJ.o];refine qy [0,1,2,3,4,5,6,7,8] ?_
   iterate 9
    refine tkN (v:=?_) rfl ax.o ?_ ?_;rotate_left
    ·rintro Wq ⟨x1,x2,x3,x4⟩;go_simp
     try with_reducible rfl
    try simp only [qz]
   refine qm ?_;refine ho 9 rfl fun K U=>?_;go_wp2_with fail;refine aK.o.mono ?_;rintro e W1 ⟨rfl,k1⟩;have q:=bp.o.trans k1;have aT:=af.o W1 q.mt;have aP:=k1.heap aw.o trivial;have ah:=qf aF.o k1 fun _ _=>trivial;have z1:=k1.size;have aV:=af.o (W1.alloc (.cells #[.string (qaz a t)] 9)) ((q.trans kAl).mt);obtain⟨v5,W5,a5,ak,a3,g5,c5,bz,b3,b6⟩:=qc8 (P:=prog) qel 46 ah [.string (qaz a t)] rfl (by simp [Value.oneCell']) wC wC;subst bz;have k5:Keep (fun b=>b<N+3) W1 W5:=a3.mono fun b _ h e=>qd4 ah h e;have aU:=af.o W5 (q.mt.trans k5);have m:=k5.heap aP wC;have cc:=qe m;have b0:=qg m 1;have bt:=qb m 1 _ rfl;simp only [zD]at bt;obtain⟨W6,x⟩:=ex (W5.setCell ⟨N+2,1,none⟩ (.slice (some ⟨g5,0,none⟩) (k+1) c5));have k6:Keep (fun b=>b≠N+2) W5 W6:=by rw [←x];exact kSc
   have aQ:W6.heap[N+2]?=some (.cells #[.string p.pred,.slice (some ⟨g5,0,none⟩) (k+1) c5] 52 (0,0)):=by rw [←x];exact qag 1 _ m
   have aY:W6.ownsRow (N+3) 9 1 (.slice (some ⟨g5,0,none⟩) (k+1) c5) (k+1) (((p.args.take (k+1)).map (qaz a)).map .string):=by
    rw [aN.o,zn];exact qf ak k6 fun b hb e=>by have:=(zE ak b hb).1;omega
   have aW:Keep (fun b=>b<N+2) W0 W6:=aB.o.trans (q.mt.trans ((k5.mono fun b _ h=>wC).trans (k6.mono fun b _ h=>wC)));clear k1 a3 ak aP ah m q k5 k6;refine hd8 ?_ aT aV a5 aU x aQ aY aW;clear aT aV a5 aU x aQ aY aW;intro ay aA aM az aI au aE aC;go_wp2_with fail;refine U.o _ _ (fun _=>ay.o) ?_;refine ho 10 rfl fun K Y=>?_;go_wp2_with fail;refine Y.o _ _ (fun _=>aA.o) ?_;refine ho 11 rfl fun K aa=>?_;refine qbu (v:=.slice c k ct) (u:=.slice (some ⟨W1.heap.size,0,none⟩) 1 1) (v':=.slice (some ⟨g5,0,none⟩) (k+1) c5) (w':=W5) rfl (.tmp 20) (.tmp 29) 46 rfl rfl rfl aM.o ?_;go_wp2_with fail;refine aa.o _ _ (fun _=>az.o) ?_;refine ho 12 rfl fun K ab=>?_;go_wp2_with fail;refine ab.o _ _ (fun h=>absurd h wF) ?_;refine ho 13 rfl fun K ad=>?_;go_wp2_with fail;rw [aI.o];refine ad.o _ _ (fun h=>absurd h wF) ?_;refine qbh wD ?_;clear U Y aa ab ad;go_wp2_with fail;go_roundw
   case rel=>exact⟨k+1,_,wC,by go_num,aC.o,au.o,aE.o⟩
   case measure=>simp [intOf];omega
  ·obtain rfl:k=p.args.length:=by omega
   rw [zi]at r;have g:=hK.heap br.o wC;have f0:=qg g 0;have f1:=qg g 1;have l1:=qe g;have e0:=qb hB 0 _ rfl;have r0:=qb g 0 _ rfl;have r1:=qb g 1 _ rfl;simp only [zD]at e0 r0 r1;obtain⟨W2,s⟩:=ex ((wr.setCell ⟨N+1,0,none⟩ (.string p.pred)).setCell ⟨N+1,1,none⟩ (.slice c p.args.length ct));have kS:Keep (fun b=>b≠N+1) wr W2:=by rw [←s];exact(kSc).trans (kSc)
   have bS:W2.heap[N+1]?=some (.cells #[.string p.pred,.slice c p.args.length ct] 52 (0,0)):=by rw [←s];exact qag 1 (.slice c p.args.length ct) (qag 0 (.string p.pred) g)
   have s0:=qb bS 0 _ rfl;have s1:=qb bS 1 _ rfl;have l2:=qe bS;simp only [zD]at s0 s1;have aX:=qf r kS fun b hb e=>by have:=(zE r b hb).1;omega
   have kE:Keep (fun b=>b<N) w W2:=aO.o.mt.trans ((hK.mono fun b _ h=>wC).trans (kS.mono fun b _ h=>wC));clear a4 g kS bS;refine hd6 ?_ hK hB r s aX kE;clear hK hB r s aX kE;intro aB bj bk aH aD bo;go_wp2_with fail;rw [aH.o];refine yA (v:=.agg #[.string p.pred,.slice c p.args.length ct]) (by simp [results,Tryz.results117,go_sem,s0,s1,l2]) rfl ⟨_,rfl,aD.o.mono (by have:=l.o;omega),bo.o.mono fun b hb _=>by have:=l.o;omega⟩
end Go.Proofs
