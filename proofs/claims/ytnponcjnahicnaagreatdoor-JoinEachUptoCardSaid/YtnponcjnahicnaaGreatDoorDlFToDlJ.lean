/- Parts of the proof. -/
import Derived.Test.YtnponcjnahicnaaGreatDoorJnGToDlA
set_option linter.unusedSimpArgs false
set_option linter.unusedVariables false
set_option maxRecDepth 100000
set_option maxHeartbeats 4000000
open Go.Proofs.Tryz(prog)
open List(any_append any_eq_true length_singleton map_eq_flatMap map_set nil_append set_getElem_self)
namespace Go.Proofs
open Go.RowKit Go.Ink Go.Flt R4 P16
attribute [local go_sem] Oper.semAt_some
theorem q1k (a b:List ByteArray):(qgs a b==0)=decide (a=b):=by
 rw [yu,xC,zT];unfold qgs;constructor
 ·intro h;cases c:ltR a b with
  |true=>rw [c,zI rfl] at h;cases h
  |false=>
   cases d:ltR b a with
   |true=>rw [c,zF wC,d,zI rfl] at h;cases h
   |false=>exact qse c d
 ·rintro rfl;rw [zF (by rw [qhb];decide),zF (by rw [qhb];decide)]
theorem qmz (n:Nat)(v x:Value)(xs g:List ByteArray)(w:World)(h:qaf n w v xs)(l:qaf n w x g)(R:n<=w.heap.size):
  Calls prog 70 #[v,x] w fun e w'=>e=.returned (.bool (decide (xs=g)))/\ ∃m,w'=w.drewN m:=by
 have b:=qq9 n v x xs g w h l R;obtain⟨U,ca,rfl,-,-,-⟩:=id h;obtain⟨Y,cb,rfl,-,-,-⟩:=id l;by_cases t:xs.length=g.length
 ·have u:(xs.length:Int)=g.length:=by omega
  rw [←q1k];obtain⟨c,y⟩:=ex (qgs xs g);rw [y]at b⊢;clear t y;refine hd3 ?_ h l b;clear h l b;intro q s d
  go_enter Tryz.func70,Tryz.ntmps70
  go_wp2_with fail;refine d.o.mono ?_;rintro e W1 ⟨rfl,z⟩;go_wp2_with fail;go_ret;exact⟨rfl,z⟩
 ·have u: ¬(xs.length:Int)=g.length:=by omega
  have p:decide (xs=g)=false:=zM fun e=>t (by rw [e]);rw [p];clear t p;refine hd3 ?_ h l b;clear h l b;intro q s d
  go_enter Tryz.func70,Tryz.ntmps70
  go_wp2_with fail;go_ret;exact⟨rfl,0,rfl⟩
theorem q84 (f:qj):okF f=(qdk f.pred&&decide (f.tuple.length<=16)&&!(f.tuple.any fun s=>decide (1024<s.size))):=rfl
theorem q42 (f:qj)(hp:f.pred.size<=1073741824)(m:Nat)(v:Value)(w:World)(ht:qaf m w v f.tuple)(hm:m<=w.heap.size):
  Calls prog 94 #[.agg #[.string f.pred,v]] w fun e w'=>e=.returned (.bool (okF f))/\wE w w':=by
 obtain⟨N,Y⟩:=ex (w.heap.size);obtain⟨a,cp,rfl,hl,hc,he⟩:=id ht;obtain⟨W0,p⟩:=ex (w.alloc (.cells #[.string f.pred,.slice a f.tuple.length cp] 86));have k0:wE w W0:=by rw [←p];exact kAl
 have R:W0.heap[N]?=some (.cells #[.string f.pred,.slice a f.tuple.length cp] 86 (0,0)):=by rw [←p,←Y];exact qh _ _
 have q:=qqm f.pred hp W0;have c1:=qb R 1 _ rfl;have l0:=qe R;simp only [zD]at c1;rw [q84];cases z:qdk f.pred with
 |false=>
  rw [z]at q;rw [yZ,yZ];refine hd8 ?_ ht he Y p k0 R q z;clear ht he Y p k0 R q z;intro ah U x g l ai h af
  go_enter Tryz.func94,Tryz.ntmps94
  go_wp2_with fail;rw [g.o];refine h.o.mono ?_;rintro e w9 ⟨rfl,d⟩;have d:=d.symm;subst d;go_wp2_with fail;go_ret;exact⟨rfl,l.o⟩
 |true=>
  rw [z]at q;rw [yU];rcases yY 16 f.tuple.length with h16 |h16
  ·rw [zM (show ¬f.tuple.length<=16 from wA),yZ];have aj:(16:Int)<f.tuple.length:=by omega
   clear h16;refine hd8 ?_ ht he Y p k0 R q z;clear ht he Y p k0 R q z;intro ah U x g l ai h af
   go_enter Tryz.func94,Tryz.ntmps94
   go_wp2_with fail;rw [g.o,x.o];refine h.o.mono ?_;rintro e w9 ⟨rfl,d⟩;have d:=d.symm;subst d;go_wp2_with fail;go_ret;exact⟨rfl,l.o⟩
  ·rw [zS h16,yU];have aj: ¬(16:Int)<f.tuple.length:=by omega
   refine hd8 ?_ ht he Y p k0 R q z;clear ht he Y p k0 R q z;intro ah U x g l ai h af
   go_enter Tryz.func94,Tryz.ntmps94
   go_wp2_with fail;rw [g.o,x.o];refine h.o.mono ?_;rintro e w9 ⟨rfl,d⟩;have d:=d.symm;subst d;go_wp2_with fail
   go_loopw [3] (fun ix wr=> ∃k:Nat,k<=f.tuple.length/\ix=.int .i64 (k:Int)/\wr=W0/\((f.tuple.take k).any fun s=>decide (1024<s.size))=false) (fun i _=>f.tuple.length-(intOf i).toNat)
   case atStart=>exact⟨0,wA,rfl,rfl,rfl⟩
   case round=>
    obtain⟨k,hk,rfl,ab,c⟩:=hrel;have ab:=ab.symm;subst ab;have ay:(0:Int)<=k:=wA
    by_cases ak:k<f.tuple.length
    ·have ar:(k:Int)<f.tuple.length:=by omega
     obtain⟨s,hs⟩: ∃s,f.tuple[k]?=some s:=⟨_,zB ak⟩;obtain⟨b,o,rfl,aw,hx⟩:=U.o k s hs;have hx:w.cell? ⟨b,o+k*1,none⟩=some (.string s):=hx;have q0:=l.o.cell hx trivial;have ax:b<W0.heap.size:=by have:=l.o.size;omega
     simp only [yB]at q0;have y:((f.tuple.take (k+1)).any fun s=>decide (1024<s.size))=decide (1024<s.size):=by
      rw [zh,hs,any_append,c,xH];simp
     by_cases u:1024<s.size
     ·have ao:(1024:Int)<s.size:=by omega
      have hE:(f.tuple.any fun s=>decide (1024<s.size))=true:=any_eq_true.2 ⟨s,zH hs,zS u⟩;clear u y hs hx;refine hd2 ?_ c hE;clear c hE;intro t an;go_wp2_with fail;go_ret;exact⟨by rw [an.o];rfl,l.o⟩
     ·have ao: ¬(1024:Int)<s.size:=by omega
      rw [zM u]at y;clear u hs hx;refine hd2 ?_ c y;clear c y;intro t ag;go_wp2_with fail;go_roundw
      case rel=>exact⟨k+1,wA,by go_num,by trivial,ag.o⟩
      case measure=>simp [intOf];omega
    ·obtain rfl:k=f.tuple.length:=by omega
     rw [zi]at c;clear ak;refine hd1 ?_ c;clear c;intro t;go_wp2_with fail;go_ret;exact⟨by rw [t.o];rfl,l.o⟩
def RSt (w:World)(s:Option Nat)(c:List qj):Prop:=match s with
 |none=>c= []
 |some S=> ∃v,w.heap[S]?=some (.cells #[v] 57 (0,0))/\FactsIn w.heap.size w v c
theorem FactsIn.wider {n d:Nat}{w:World}{v:Value}{fs:List qj}(h:FactsIn n w v fs)(c:n<=d):FactsIn d w v fs:=
 SliceIn.wider h c fun b o f _ l=>by
  obtain⟨m,e,g⟩:=l;exact⟨m,e,qb4 g c⟩
theorem RSt.keep {w w':World}{s:Option Nat}{c:List qj}(h:RSt w s c)(hK:Keep (fun b=>b<w.heap.size) w w'):RSt w' s c:=by
 cases s with
 |none=>exact h
 |some S=>
  obtain⟨v,d,e⟩:=h;exact⟨v,hK.heap d (qe d),(e.keep hK).wider hK.size⟩
theorem q7j {x f:qj}:x=f↔x.pred=f.pred/\x.tuple=f.tuple:=by
 obtain⟨p,t⟩:=x;obtain⟨q,u⟩:=f;simp
theorem qt2 {w:World}{s:Option Nat}{c:List qj}(h:RSt w s c)(f:qj)(m:Nat)(v:Value)(ht:qaf m w v f.tuple)(hm:m<=w.heap.size):
  Calls prog 42 #[.pointer (s.map fun S=>⟨S,0,none⟩),.agg #[.string f.pred,v]] w fun e w'=>e=.returned (.bool (decide (f∈c)))/\wE w w':=by
 obtain⟨N,hN⟩:=ex (w.heap.size);obtain⟨a,cp,rfl,hl,aP,he⟩:=id ht;obtain⟨W0,u⟩:=ex (w.alloc (.cells #[.string f.pred,.slice a f.tuple.length cp] 86));have k0:wE w W0:=by rw [←u];exact kAl
 have p0:W0.heap[N]?=some (.cells #[.string f.pred,.slice a f.tuple.length cp] 86 (0,0)):=by rw [←u,←hN];exact qh _ _
 cases s with
 |none=>
  have hc:c= []:=h;subst hc;rw [zM (show f∉([]:List qj) from wC)];simp only [Option.map_none];refine hd7 ?_ h ht he hN u k0 p0;clear h ht he hN u k0 p0;intro Xh am ay U Y ae af
  go_enter Tryz.func42,Tryz.ntmps42
  go_wp2_with fail;rw [Y.o]
  go_loopw [5] (fun ix wr=>ix=.int .i64 0/\wr=W0) (fun _ _=>0)
  case atStart=>exact⟨rfl,rfl⟩
  case round=>
   obtain⟨rfl,aD⟩:=hrel;subst aD;go_wp2_with fail;go_ret;exact⟨rfl,ae.o⟩
 |some S=>
  obtain⟨vl,hS,hF⟩:=h;simp only [Option.map_some];obtain⟨al,cl,rfl,aS,aQ,ap⟩:=id hF;have aM:=qe hS;refine hd9 ?_ ht he hN u k0 p0 hS hF ap;clear ht he hN u k0 p0 hS hF ap;intro am ay U Y ae af ax aG ak
  go_enter Tryz.func42,Tryz.ntmps42
  go_wp2_with fail;rw [Y.o,U.o]
  go_loopw [5] (fun ix wr=> ∃k:Nat,k<=c.length/\ix=.int .i64 (k:Int)/\wE W0 wr/\f∉c.take k) (fun i _=>c.length-(intOf i).toNat)
  case atStart=>exact⟨0,wA,rfl,Keep.refl _ _,wC⟩
  case round=>
   obtain⟨k,hk,rfl,hK,g⟩:=hrel;have aR:(0:Int)<=k:=wA
   have aT:=hK.size;have aU:=ae.o.size;have z:=ae.o.trans hK;have e0:=qb (z.heap ax.o wF) 0 _ rfl;have f0:=qb (hK.heap af.o wF) 0 _ rfl;have f1:=qb (hK.heap af.o wF) 1 _ rfl;have lN:=qe (hK.heap af.o wF);have lS:S<wr.heap.size:=wA
   simp only [zD]at e0 f0 f1;by_cases aq:k<c.length
   ·have aF:(k:Int)<c.length:=by omega
    obtain⟨x,hx⟩: ∃x,c[k]?=some x:=⟨_,zB aq⟩;obtain⟨b,o,rfl,hb,sv,p,ad⟩:=ak.o k x hx;have q0:=z.cell (p 0 _ rfl) trivial;have q1:=z.cell (p 1 _ rfl) trivial;have aN:b<wr.heap.size:=wA
    simp only [Nat.add_zero]at q0;have d:=fun j:Nat=>qmz N sv (.slice a f.tuple.length cp) x.tuple f.tuple (wr.drewN j) (qb4 (qam ad ((z.trans (Keep.drewN' _ _ _)).mt)) (by have:=U.o;omega)) (qb4 (qam am.o ((z.trans (Keep.drewN' _ _ _)).mt)) (by have:=U.o;omega)) (by have:=U.o;have:=(Keep.drewN' (fun _=>True) wr j).size;omega);obtain⟨aH,aI,rfl,-,-,-⟩:=id ad;have ab:c.take (k+1)=c.take k++ [x]:=by rw [zh,hx];rfl
    by_cases hp:x.pred=f.pred
    ·have aC:=qdn hp;by_cases y:x.tuple=f.tuple
     ·simp only [zS y]at d;have hE:decide (f∈c)=true:=zS (by rw [←q7j.2 ⟨hp,y⟩];exact zH hx);clear hp y ab p ad hx;refine hd5 ?_ hK g hE d z;clear hK g hE d z;intro R ag ah l aa;go_wp2_with fail
      go_quiet ((go_at_call 70;exact Calls.quiet_of (l.o _)))
      go_wp2_with fail;go_ret;exact⟨by rw [ah.o];rfl,aa.o.trans (Keep.drewN' _ _ _)⟩
     ·simp only [zM y]at d;have q:f∉c.take (k+1):=by
       rw [ab];intro h;rcases zr.1 h with h |h
       ·exact g h
       ·exact y (by rw [zm.1 h])
      clear hp y ab p ad hx;refine hd5 ?_ hK g q d z;clear hK g q d z;intro R ag t l aa;go_wp2_with fail
      go_quiet ((go_at_call 70;exact Calls.quiet_of (l.o _)))
      go_wp2_with fail;go_roundw
      case rel=>exact⟨k+1,wA,by go_num,R.o.trans (Keep.drewN' _ _ _),t.o⟩
      case measure=>simp [intOf];omega
    ·have aC:=qcv hp;have q:f∉c.take (k+1):=by
      rw [ab];intro h;rcases zr.1 h with h |h
      ·exact g h
      ·exact hp (by rw [zm.1 h])
     clear hp ab p ad hx d;refine hd4 ?_ hK g q z;clear hK g q z;intro R ag t aa;go_wp2_with fail
     go_quiet (fail)
     go_wp2_with fail;go_roundw
     case rel=>exact⟨k+1,wA,by go_num,R.o.trans (Keep.drewN' _ _ _),t.o⟩
     case measure=>simp [intOf];omega
   ·obtain rfl:k=c.length:=by omega
    rw [zi]at g;have hE:=zM g;clear aq g;refine hd3 ?_ hK hE z;clear hK hE z;intro R ah aa;go_wp2_with fail;go_ret;exact⟨by rw [ah.o];rfl,aa.o⟩
def qp3 (p:qj×Value):List Value:= [.string p.1.pred,p.2]
structure RStW (S:Nat)(w:World)(ps:List (qj×Value)):Prop where
 box: ∃v,w.heap[S]?=some (.cells #[v] 57 (0,0))/\w.ownsRow (S+1) 86 2 v ps.length (ps.flatMap qp3)
 rows: ∀p,p∈ps->w.ownsRow (S+1) 9 1 p.2 p.1.tuple.length (p.1.tuple.map .string)
 few: ∀p,p∈ps->p.1.tuple.length<=1073741824
theorem RStW.keep {S:Nat}{w w':World}{ps:List (qj×Value)}(h:RStW S w ps)(hK:wE w w'):RStW S w' ps:=by
 obtain⟨v,b,c⟩:=h.box;exact⟨⟨v,hK.heap b wF,qf c hK fun _ _=>wF⟩,fun p d=>qf (h.rows p d) hK fun _ _=>wF,h.few⟩
theorem RStW.keepP {S:Nat}{w w':World}{ps:List (qj×Value)}{P:Nat->Prop}(h:RStW S w ps)(hK:Keep P w w')(d: ∀b,S<=b->b<w.heap.size->P b):RStW S w' ps:=by
 obtain⟨v,c,l⟩:=h.box;have key: ∀{e:TypeId} {sz n:Nat} {v:Value} {xs:List Value},w.ownsRow (S+1) e sz v n xs->w'.ownsRow (S+1) e sz v n xs:=fun ho=>qf ho hK fun b g=>d b (by have:=(zE ho b g).1;omega) (zE ho b g).2;exact⟨⟨v,hK.heap c (d S (zG _) (qe c)),key l⟩,fun p m=>key (h.rows p m),h.few⟩
theorem RStW.read {S:Nat}{w:World}{ps:List (qj×Value)}(h:RStW S w ps)(hl:ps.length<=1073741824):RSt w (some S) (ps.map (·.1)):=by
 obtain⟨v,z,R⟩:=h.box;refine⟨v,z,?_⟩;have t:SliceIn w.heap.size w 2 (fun w b o (p:qj×Value)=>CellsE w b o (qp3 p)) v ps:=qda R ps rfl hl _ fun b k p d m=>fun j u x=>by
  have g:j<2:=by
   have:=(zA.1 x).1
   simpa [qp3]using this
  have Y:=qbf qp3 2 (fun _=>rfl) _ k j p d g;have:=m j g;rw [Y,x]at this;exact this
 obtain⟨a,c,hv,s,m,U⟩:=t;refine⟨a,c,by rw [zL];exact hv,by rw [zL];exact s,by rw [zL];exact m,fun i f e=>?_⟩;rw [zP]at e;cases d:ps[i]? with
 |none=>rw [d] at e;cases e
 |some p=>
  rw [d]at e;cases e;obtain⟨b,o,y,l,q⟩:=U i p d;exact⟨b,o,y,l,p.2,q,qbj (h.rows p (zH d)) (h.few p (zH d))⟩
theorem q43 {S:Nat}{w:World}{ps:List (qj×Value)}(h:RStW S w ps)(hl:ps.length<=1073741823)(f:qj)(hp:f.pred.size<=1073741824)(m:Nat)(v:Value)(ht:qaf m w v f.tuple)(hm:m<=w.heap.size):
  Calls prog 40 #[qk S,.agg #[.string f.pred,v]] w fun e w'=> ∃v0 ps',e=.returned v0/\RStW S w' ps'/\ps'.map (·.1)=qen okF (ps.map (·.1)) f/\Keep (fun b=>b<S) w w':=by
 obtain⟨N,hN⟩:=ex (w.heap.size);obtain⟨a,cp,rfl,b3,co,he⟩:=id ht;obtain⟨W0,U⟩:=ex (w.alloc (.cells #[.string f.pred,.slice a f.tuple.length cp] 86));have k0:wE w W0:=by rw [←U];exact kAl
 have p0:W0.heap[N]?=some (.cells #[.string f.pred,.slice a f.tuple.length cp] 86 (0,0)):=by rw [←U,←hN];exact qh _ _
 have cn:S<w.heap.size:=by obtain⟨v,h1,-⟩:=h.box;exact qe h1
 have ae:=qam ht k0.mt;have c:=q42 f hp m _ W0 ae (by have:=k0.size;omega);have c0:=qb p0 0 _ rfl;have c1:=qb p0 1 _ rfl;have l0:=qe p0;simp only [zD]at c0 c1;cases g:okF f with
 |false=>
  rw [g]at c;have hE:qen okF (ps.map (·.1)) f=ps.map (·.1):=by unfold qen;rw [zF (by rw [g];simp)]
  refine qib ?_ h ht he hN U k0 p0 ae c g hE;clear h ht he hN U k0 p0 ae c g hE;intro Xh a0 bo ag R au br aQ d aP aq;unfold qk
  go_enter Tryz.func40,Tryz.ntmps40
  go_wp2_with fail;rw [R.o,ag.o];refine d.o.mono ?_;rintro e W1 ⟨rfl,k1⟩;have l:=au.o.trans k1;clear k1;refine hd1 ?_ l;clear l;intro y;go_wp2_with fail;refine yA (v:=.tuple #[.bool false,.int .i64 2]) (by simp [results,Tryz.results40,go_sem]) rfl ⟨_,ps,rfl,Xh.o.keep y.o,aq.o.symm,y.o.mt⟩
 |true=>
  rw [g]at c;have z:=fun W (hK:wE w W)=>qt2 ((h.keep hK).read wA) f m _ (qam ht hK.mt) (by have:=hK.size;omega);by_cases aj:f∈ps.map (·.1)
  ·have hE:qen okF (ps.map (·.1)) f=ps.map (·.1):=by unfold qen;rw [zF (fun hh=>hh.2 aj)]
   simp only [zS aj]at z;refine qhw ?_ h ht he hN U k0 p0 ae c g hE z;clear h ht he hN U k0 p0 ae c g hE z;intro Xh a0 bo ag R au br aQ d aP aq aa;unfold qk
   go_enter Tryz.func40,Tryz.ntmps40
   go_wp2_with fail;rw [R.o,ag.o];refine d.o.mono ?_;rintro e W1 ⟨rfl,k1⟩;have l:=au.o.trans k1;have e0:=k1.cell c0 trivial;have e1:=k1.cell c1 trivial;have l1:N<W1.heap.size:=zk l0 k1.size;have ad:=aa.o W1 l;simp only [Option.map_some]at ad;clear k1 c0 c1 aj;refine hd2 ?_ l ad;clear l ad;intro y ar;go_wp2_with fail;refine ar.o.mono ?_;rintro e W2 ⟨rfl,k2⟩;have an:=y.o.trans k2;clear k2;refine hd1 ?_ an;clear an;intro av;go_wp2_with fail;refine yA (v:=.tuple #[.bool false,.int .i64 0]) (by simp [results,Tryz.results40,go_sem]) rfl ⟨_,ps,rfl,Xh.o.keep av.o,aq.o.symm,av.o.mt⟩
  ·have hE:qen okF (ps.map (·.1)) f=ps.map (·.1)++ [f]:=by unfold qen;rw [zI ⟨g,aj⟩]
   simp only [zM aj]at z;refine qhw ?_ h ht he hN U k0 p0 ae c g hE z;clear h ht he hN U k0 p0 ae c g hE z;intro Xh a0 bo ag R au br aQ d aP aq aa;unfold qk
   go_enter Tryz.func40,Tryz.ntmps40
   go_wp2_with fail;rw [R.o,ag.o];refine d.o.mono ?_;rintro e W1 ⟨rfl,k1⟩;have l:=au.o.trans k1;have e0:=k1.cell c0 trivial;have e1:=k1.cell c1 trivial;have l1:N<W1.heap.size:=zk l0 k1.size;have ad:=aa.o W1 l;simp only [Option.map_some]at ad;clear c0 c1 aj;refine hd3 ?_ k1 l ad;clear k1 l ad;intro bV y ar;go_wp2_with fail;refine ar.o.mono ?_;rintro e W2 ⟨rfl,k2⟩;have bO:=bV.o.trans k2;have an:=y.o.trans k2;obtain⟨Wd,a8⟩:=ex (W2.drew);have kd:wE W2 Wd:=by rw [←a8];exact kDr
   have Y:=an.trans kd;have b6:=bO.trans kd;have cm:=Y.size;have hd:=Xh.o.keep Y;obtain⟨vl,bH,a6⟩:=Xh.o.box;have ai:=Y.heap bH trivial;have a5:=qf a6 Y fun _ _=>trivial;have a3: ∀b,vl.ownBlock=some b->b<N:=fun b hb=>by have:=(zE a6 b hb).2;have:=ag.o;omega
   have az:=hd.rows;obtain⟨al,cl,rfl⟩:=qi a5;obtain⟨W3,aC⟩:=ex (Wd.alloc (.cells #[] 9));have k3:wE Wd W3:=by rw [←aC];exact kAl
   have o3:=qfc Wd 9 1;rw [aC]at o3;obtain⟨bN,bK⟩:=qn2 (qam a0.o ((Y.trans k3).mt));obtain⟨v4,W4,bL,aE,bI,bJ⟩:=qhx (P:=prog) qef 60 o3 a f.tuple.length cp (f.tuple.map .string) wC bN bK (qn3 _) wA k3.size;rw [nil_append,zD]at aE;have aU:Keep (fun b=>b<Wd.heap.size) Wd W4:=k3.mt.trans (bJ.mono fun b _ h e=>by
    rcases bI b e with h1 |h1
    ·simp [Value.ownBlock]at h1;omega
    ·have:=k3.size;omega)
   have s:wE Wd W4:=aU.mono fun b hb _=>hb;obtain⟨a4,c4,rfl⟩:=qi aE;have a7:=s.heap ai trivial;have aw:=qf a5 s fun _ _=>trivial;have z4:=s.size;have b1:S+1<=W4.heap.size:=by have:=qe a7;omega
   obtain⟨v5,W5,bM,a9,ak,g5,c5,b4,cq,cs⟩:=qc3 (P:=prog) qvr 28 aw [.string f.pred,.slice a4 f.tuple.length c4] rfl (by simp [Value.oneCell']) wA b1;subst b4;have ah:=ak.heap a7 (fun e=>qdu aw (Nat.lt_succ_self S) e);obtain⟨W6,aD⟩:=ex (W5.setCell ⟨S,0,none⟩ (.slice (some ⟨g5,0,none⟩) (ps.length+1) c5));have k6:Keep (fun b=>b≠S) W5 W6:=by rw [←aD];exact kSc
   have bG:W6.heap[S]?=some (.cells #[.slice (some ⟨g5,0,none⟩) (ps.length+1) c5] 57 (0,0)):=by rw [←aD];exact qgi _ ah
   have aV: ∀{b:Nat},(Value.slice (some ⟨g5,0,none⟩) (ps.length+1) c5).ownBlock=some b->b≠S:=fun hb e=>by have:=(zE a9 _ hb).1;omega
   have aT:RStW S W6 (ps++ [(f,.slice a4 f.tuple.length c4)]):=by
    refine⟨⟨_,bG,?_⟩,fun p hp=>?_,fun p hp=>?_⟩
    ·rw [zR,length_singleton,yG];exact qf a9 k6 fun b hb=>aV hb
    ·have key: ∀{x:Value} {t:List ByteArray},W4.ownsRow (S+1) 9 1 x t.length (t.map .string)->W6.ownsRow (S+1) 9 1 x t.length (t.map .string):=fun hx=>qf (qf hx ak fun b hb e=>qc4 hx aw wD hb e.symm) k6 fun b hb e=>by have:=(zE hx b hb).1;omega
     rcases zr.1 hp with hp |hp
     ·exact key (qf (az p hp) s fun _ _=>wF)
     ·rw [zm.1 hp];exact key (aE.mono (by have:=qe ai;omega))
    ·rcases zr.1 hp with hp |hp
     ·exact hd.few p hp
     ·rw [zm.1 hp];exact b3
   have ay:Keep (fun b=>b<S) w W6:=Y.mt.trans (s.mt.trans ((ak.mono fun b _ h e=>qdu aw (show b<S+1 from wA) e).trans (k6.mono fun b _ h=>wA)));have aW:(ps++ [(f,Value.slice a4 f.tuple.length c4)]).map (·.1)=qen okF (ps.map (·.1)) f:=by rw [aq.o,zn];rfl
   have ab: ∀X,wE Wd X->X.cell? ⟨S,0,none⟩=some (.slice al ps.length cl)/\X.cell? ⟨N,0,none⟩=some (.string f.pred)/\X.cell? ⟨N,1,none⟩=some (.slice a f.tuple.length cp):=fun X hX=>by
    have q:=qb (hX.heap ai wF) 0 _ rfl;simp only [zD]at q;exact⟨q,hX.cell ((k2.trans kd).cell e0 wF) wF,hX.cell ((k2.trans kd).cell e1 wF) wF⟩
   have bw:=ab Wd (Keep.refl _ _);have bx:=ab W3 k3;have bz:=ab W4 s;have cu:=qe ai;have ct:=qe ah;have cd:N<Wd.heap.size:=zk l1 ((k2.trans kd).size);have f5:=qg ah 0;have q5:=qb ah 0 _ rfl;simp only [zD]at q5;have bF:(W4.alloc (.cells #[.string f.pred,.slice a4 f.tuple.length c4] 86)).cell? ⟨S,0,none⟩=some (.slice al ps.length cl)/\(W4.alloc (.cells #[.string f.pred,.slice a4 f.tuple.length c4] 86)).cell? ⟨N,0,none⟩=some (.string f.pred)/\(W4.alloc (.cells #[.string f.pred,.slice a4 f.tuple.length c4] 86)).cell? ⟨N,1,none⟩=some (.slice a f.tuple.length cp):=ab _ (s.trans kAl);have bD:W5.cell? ⟨S,0,none⟩=some (.slice al ps.length cl)/\W5.cell? ⟨N,0,none⟩=some (.string f.pred)/\W5.cell? ⟨N,1,none⟩=some (.slice a f.tuple.length cp):=by
    obtain⟨x1,x2,x3⟩:=ab W4 s;exact⟨q5,ak.cell x2 (fun e=>by have:=a3 N e.symm;omega),ak.cell x3 (fun e=>by have:=a3 N e.symm;omega)⟩
   clear e0 e1 ak a9 a3 bH a6 bJ aU bI bN bK o3 bO b6 hd a5 aw a7 bG az aE aV;refine qby ?_ bD k2 an a8 kd Y ai aC k3 bL s bM ah aD k6 aT;clear bD k2 an a8 kd Y ai aC k3 bL s bM ah aD k6 aT;intro bj ch av bn ck cb b9 bl ci bp cc bq b8 bm cj aY;refine hd7 ?_ ay aW ab bw bx bz bF;clear ay aW ab bw bx bz bF;intro aB aZ ca bh bi aH bk;go_wp2_with fail;refine qau rfl (fun X=>X.cell? ⟨S,0,none⟩=some (.slice al ps.length cl)/\X.cell? ⟨N,0,none⟩=some (.string f.pred)/\X.cell? ⟨N,1,none⟩=some (.slice a f.tuple.length cp)) [14,15,16] ?_;rw [bn.o];refine qq [0,1,2,3,4,5,6,8,9] ?_
   iterate 9
    refine tkA rfl bh.o ?_
    try simp only [qr]
   refine ql ?_;refine ho 7 rfl fun K aI=>?_;go_wp2_with fail;rw [bl.o];refine aI.o _ _ (fun _=>bi.o) ?_;refine ho 10 rfl fun K aJ=>?_;refine qbo (v:=.slice (some ⟨Wd.heap.size,0,none⟩) 0 0) (u:=.slice a f.tuple.length cp) (v':=.slice a4 f.tuple.length c4) (w':=W4) rfl (.tmp 19) (.tmp 21) 60 rfl rfl rfl bp.o ?_;go_wp2_with fail;refine aJ.o _ _ (fun _=>aH.o) ?_;refine qq [11] ?_
   iterate 1
    refine tkA rfl aH.o ?_
    try simp only [qr]
   refine ql ?_;refine ho 12 rfl fun K aK=>?_;go_wp2_with fail;refine aK.o _ _ (fun _=>bk.o) ?_;refine ho 13 rfl fun K aL=>?_;refine qbo (v:=.slice al ps.length cl) (u:=.slice (some ⟨W4.heap.size,0,none⟩) 1 1) (v':=.slice (some ⟨g5,0,none⟩) (ps.length+1) c5) (w':=W5) rfl (.tmp 16) (.tmp 24) 28 rfl rfl rfl bq.o ?_;go_wp2_with fail;refine aL.o _ _ (fun _=>bj.o) ?_;refine ho 14 rfl fun K aN=>?_;go_wp2_with fail;refine aN.o _ _ (fun h=>absurd h wD) ?_;refine ho 15 rfl fun K aO=>?_;go_wp2_with fail;refine aO.o _ _ (fun h=>absurd h wD) ?_;refine ho 16 rfl fun K aM=>?_;go_wp2_with fail;rw [bm.o];refine aM.o _ _ (fun h=>absurd h wD) ?_;refine qa0 wB ?_;clear aI aJ aK aL aM aN aO;go_wp2_with fail;refine yA (v:=.tuple #[.bool true,.int .i64 0]) (by simp [results,Tryz.results40,go_sem]) rfl ⟨_,_,rfl,aY.o,aZ.o,aB.o⟩
theorem qx3 {n:Nat}{w:World}{v:Value}{fs:List qj}(hf:FactsIn n w v fs)(hn:n<=w.heap.size)(al: ∀f,f∈fs->f.pred.size<=1073741824)(az:fs.length<67108864):
  Calls prog 14 #[v] w fun e w'=> ∃S ps,e=.returned (qk S)/\RStW S w' ps/\ps.map (·.1)=qc6 okF fs/\w.heap.size<=S/\wE w w':=by
 obtain⟨N,hN⟩:=ex (w.heap.size);obtain⟨a,cp,rfl,hl,aK,he⟩:=id hf;obtain⟨W0,m⟩:=ex (w.alloc (.cells #[.slice none 0 0] 57));have k0:wE w W0:=by rw [←m];exact kAl
 have p0:W0.heap[N]?=some (.cells #[.slice none 0 0] 57 (0,0)):=by rw [←m,←hN];exact qh _ _
 have t:RStW N W0 []:=⟨⟨_,p0,zj _ _ _ _⟩,fun p hp=>(by cases hp),fun p hp=>(by cases hp)⟩;refine hd8 ?_ hf he hN m k0 p0 t al;clear hf he hN m k0 p0 t al;intro aD ap g ab aq aE y af
 go_enter Tryz.func14,Tryz.ntmps14
 go_wp2_with fail;rw [ab.o,g.o]
 go_loopw [4] (fun ix wr=> ∃(k:Nat) (ps:List (qj×Value)),k<=fs.length/\ix=.int .i64 (k:Int)/\Keep (fun b=>b<N) w wr/\RStW N wr ps/\ps.map (·.1)=qc6 okF (fs.take k)) (fun i _=>fs.length-(intOf i).toNat)
 case atStart=>exact⟨0,[],wA,rfl,aq.o.mt,y.o,rfl⟩
 case round=>
  obtain⟨k,ps,hk,rfl,hK,l,c⟩:=hrel;have aL:(0:Int)<=k:=wA
  have aN:=hK.size;have aM:ps.length<=k:=by
   have h1:=yN List.length c;have h2:=qku (fs.take k);rw [zL]at h1;rw [yC]at h2;omega
  by_cases ai:k<fs.length
  ·have aA:(k:Int)<fs.length:=by omega
   obtain⟨f,q⟩: ∃f,fs[k]?=some f:=⟨_,zB ai⟩;obtain⟨b,o,rfl,hb,sv,U,Y⟩:=ap.o k f q;have kn:Keep (fun b=>b<n) w wr:=hK.mono fun b _ h=>by have:=g.o;omega
   have q0:=kn.cell (U 0 _ rfl) hb;have q1:=kn.cell (U 1 _ rfl) hb;have aJ:b<wr.heap.size:=by have:=g.o;omega
   simp only [Nat.add_zero]at q0;have R:=q43 l wA f (af.o f (zH q)) n sv (qam Y kn) (by have:=g.o;omega);have am:=qq8 q;obtain⟨aF,aG,rfl,-,-,-⟩:=id Y;clear U Y q kn;unfold qk at R;refine hd5 ?_ hK l c R am;clear hK l c R am;intro x s d ad ag;go_wp2_with fail;refine ad.o.mono ?_;rintro e W1 ⟨v0,an,rfl,u,aj,k1⟩;have ak:an.map (·.1)=qc6 okF (fs.take (k+1)):=by rw [aj,d.o,ag.o]
   have ah:=x.o.trans k1;clear aj k1;refine hd3 ?_ u ak ah;clear u ak ah;intro z ae aa;go_wp2_with fail;go_roundw
   case rel=>exact⟨k+1,an,wA,by go_num,aa.o,z.o,ae.o⟩
   case measure=>simp [intOf];omega
  ·obtain rfl:k=fs.length:=by omega
   rw [zi]at c;clear ai;refine hd3 ?_ hK l c;clear hK l c;intro x s d;go_wp2_with fail;go_ret;exact⟨N,ps,rfl,s.o,d.o,by have:=g.o;omega,x.o.mono fun b hb _=>by have:=g.o;omega⟩
theorem qp4 (n:Nat)(R:Value)(xs:List ByteArray)(x:ByteArray)(w:World)(s:qaf n w R xs)(hn:n<=w.heap.size)(h:x∈xs):
  Calls prog 83 #[R,.string x] w fun e w'=> ∃k:Nat,e=.returned (.int .i64 (k:Int))/\w'=w/\xs[k]?=some x:=by
 obtain⟨aa,ca,rfl,ag,ae,q⟩:=id s;refine hd3 ?_ s q h;clear s q h;intro U p l
 go_enter Tryz.func83,Tryz.ntmps83
 go_wp2_with fail
 go_loopw [5] (fun i wr=> ∃k:Nat,k<=xs.length/\i=.int .i64 (k:Int)/\wr=w/\x∉xs.take k) (fun i _=>xs.length-(intOf i).toNat)
 case atStart=>exact⟨0,wA,rfl,rfl,wC⟩
 case round=>
  obtain⟨k,hk,rfl,rfl,b⟩:=hrel;by_cases t:k<xs.length
  ·obtain⟨y,h⟩: ∃x,xs[k]?=some x:=⟨_,zB t⟩;obtain⟨v,oa,rfl,ad,m⟩:=p.o k y h;have Y:wr.cell? ⟨v,oa+k*1,none⟩=some (.string y):=m;simp only [yB]at Y;have ab:v<wr.heap.size:=by omega
   have z:(k:Int)<xs.length:=wA
   have af:(0:Int)<=k:=wA
   by_cases c:y=x
   ·have u:(y.toList==x.toList)=true:=qdn c;rw [c]at h;clear b c m;refine hd1 ?_ h;clear h;intro l;go_wp2_with fail;go_ret;exact⟨k,rfl,rfl,l.o⟩
   ·have u:(y.toList==x.toList)=false:=qcv c;have d:x∉xs.take (k+1):=by
     rw [zh,h];simp only [Option.toList_some,zr,zm,not_or];exact⟨b,fun e=>c e.symm⟩
    clear b h c m;refine hd1 ?_ d;clear d;intro g;go_wp2_with fail;go_roundw
    case rel=>exact⟨k+1,wA,by go_num,wF,g.o⟩
    case measure=>simp [intOf];omega
  ·obtain rfl:k=xs.length:=by omega
   rw [zi]at b;exact absurd l.o b
def KnT (vars:List ByteArray)(a:Asg)(t:TermD):Prop:=t.var=true->t.text∈vars/\ ∃v,a t.text=some v
theorem qm0 {n:Nat}{w:World}{vv vl:Value}{vars vals:List ByteArray}{kn:List Bool}{a:Asg}(hA:qck vars vals kn a)(p:qaf n w vv vars)(hl:qaf n w vl vals)(hn:n<=w.heap.size)(t:TermD)(Y:KnT vars a t):
  Calls prog 214 #[qcy t,vv,vl] w fun e w'=>e=.returned (.string (qa2 a t))/\wE w w':=by
 obtain⟨N,R⟩:=ex (w.heap.size);unfold qcy;obtain⟨W0,d⟩:=ex (w.alloc (.cells #[.bool t.var,.string t.text] 77));have q:wE w W0:=by rw [←d];exact kAl
 have p0:W0.heap[N]?=some (.cells #[.bool t.var,.string t.text] 77 (0,0)):=by rw [←d,←R];exact qh _ _
 cases c:t.var with
 |false=>
  have z:qa2 a t=t.text:=by unfold qa2 qab;rw [c,zF wD];rfl
  rw [z];rw [c]at d;clear z p0;refine hd8 ?_ hA p hl Y R d q c;clear hA p hl Y R d q c;intro s ai ah ag af g h x
  go_enter Tryz.func214,Tryz.ntmps214
  go_wp2_with fail;rw [g.o];go_ret;exact⟨rfl,h.o⟩
 |true=>
  obtain⟨ak,y,hy⟩:=Y c;have z:qa2 a t=y:=by unfold qa2 qab;rw [c,zI rfl,hy];rfl
  rw [z];rw [c]at d;have ab:=qp4 n vv vars t.text W0 (qam p q.mt) (by have:=q.size;omega) ak;obtain⟨av,cv,rfl,-,-,-⟩:=id p;obtain⟨al,cl,rfl,ax,ar,U⟩:=id hl;clear z p0;refine qib ?_ hA p hl Y R d q c hy ab U;clear hA p hl Y R d q c hy ab U;intro s ai ah ag af g h x aj v u
  go_enter Tryz.func214,Tryz.ntmps214
  go_wp2_with fail;rw [g.o];refine v.o.mono ?_;rintro e W1 ⟨k,rfl,m,ad⟩;have m:=m.symm;subst m;have l:=s.o.val k t.text y ad aj.o;obtain⟨b,o,rfl,hb,hx⟩:=u.o k y l;have hx:w.cell? ⟨b,o+k*1,none⟩=some (.string y):=hx;have q0:=h.o.cell hx trivial;have aq:b<W0.heap.size:=by have:=h.o.size;omega
  simp only [yB]at q0;have aw:=(zA.1 l).1;have an:(k:Int)<vals.length:=wA
  have au:(0:Int)<=k:=wA
  clear hx l ad;go_wp2_with fail;go_ret;exact⟨rfl,h.o⟩
theorem qr1 {n:Nat}{w:World}{vv vl:Value}{vars vals:List ByteArray}{kn:List Bool}{a:Asg}(hA:qck vars vals kn a)(hv:qaf n w vv vars)(hl:qaf n w vl vals)(hn:n<=w.heap.size)(p:qcg){sa:Value}(hp:qak n w sa p.args)(hk: ∀t,t∈p.args->KnT vars a t):
  Calls prog 161 #[.agg #[.string p.pred,sa],vv,vl] w fun e w'=> ∃v',e=.returned (.agg #[.string p.pred,v'])/\w'.ownsRow w.heap.size 9 1 v' p.args.length ((p.args.map (qa2 a)).map .string)/\wE w w':=by
 obtain⟨N,hN⟩:=ex (w.heap.size);obtain⟨av,cv,rfl,-,-,-⟩:=id hv;obtain⟨al,cl,rfl,-,-,-⟩:=id hl;obtain⟨ap,cp,rfl,ca,b5,a3⟩:=id hp;obtain⟨W0,d⟩:=ex (((w.alloc (.cells #[.string p.pred,.slice ap p.args.length cp] 24)).alloc (.cells #[.string ⟨#[]⟩,.slice none 0 0] 86)).alloc (.cells #[.string p.pred,.slice none 0 0] 86));have k0:wE w W0:=by rw [←d];exact(kAl.trans kAl).trans kAl
 have z0:W0.heap.size=N+3:=by rw [←d,←hN];simp
 have p0:W0.heap[N]?=some (.cells #[.string p.pred,.slice ap p.args.length cp] 24 (0,0)):=by rw [←d,←hN];exact((Keep.alloc (fun _=>True) _ _).trans kAl).heap (qh w _) trivial
 have p1:W0.heap[N+1]?=some (.cells #[.string ⟨#[]⟩,.slice none 0 0] 86 (0,0)):=by
  rw [←d,←hN];have:=qh (w.alloc (.cells #[.string p.pred,.slice ap p.args.length cp] 24)) (.cells #[.string ⟨#[]⟩,.slice none 0 0] 86);rw [zO]at this;exact(Keep.alloc (fun _=>True) _ _).heap this trivial
 have p2:W0.heap[N+2]?=some (.cells #[.string p.pred,.slice none 0 0] 86 (0,0)):=by
  rw [←d,←hN];have:=qh ((w.alloc (.cells #[.string p.pred,.slice ap p.args.length cp] 24)).alloc (.cells #[.string ⟨#[]⟩,.slice none 0 0] 86)) (.cells #[.string p.pred,.slice none 0 0] 86);rw [zO,zO]at this;exact this
 refine qhw ?_ hA hv hl hp hk a3 hN d k0 p0 p1 p2;clear hA hv hl hp hk a3 hN d k0 p0 p1 p2;intro bj bo bn b0 bm aM l aH aP br bs bt
 go_enter Tryz.func161,Tryz.ntmps161
 go_wp2_with fail;rw [aH.o,l.o,show N+1+1=N+2 from rfl]
 go_loopw [8] (fun ix wr=> ∃(k:Nat) (vt:Value),k<=p.args.length/\ix=.int .i64 (k:Int)/\Keep (fun b=>b<N+2) W0 wr/\wr.heap[N+2]?=some (.cells #[.string p.pred,vt] 86 (0,0))/\wr.ownsRow (N+3) 9 1 vt k (((p.args.take k).map (qa2 a)).map .string)) (fun i _=>p.args.length-(intOf i).toNat)
 case atStart=>exact⟨0,.slice none 0 0,wA,rfl,Keep.refl _ _,bt.o,zj _ _ _ _⟩
 case round=>
  obtain⟨k,vt,b8,rfl,hK,hB,s⟩:=hrel;have cb:=hK.size;have b7:(0:Int)<=k:=wA
  have aj:=hK.heap br.o wA;have d1:=qb aj 1 _ rfl;have l0:=qe aj;have e1:=qb hB 1 _ rfl;have lB:=qe hB;simp only [zD]at d1 e1;obtain⟨c,ct,rfl⟩:=qi s;by_cases a5:k<p.args.length
  ·have bL:(k:Int)<p.args.length:=by omega
   obtain⟨t,R⟩: ∃t,p.args[k]?=some t:=⟨_,zB a5⟩;obtain⟨b,o,rfl,hb,q0,q1⟩:=aM.o k t R;have a2:b<N:=by have:=l.o;omega
   have kw:Keep (fun b=>b<N) w wr:=aP.o.mt.trans (hK.mono fun b _ h=>wA);have g0:=kw.cell q0 a2;have g1:=kw.cell q1 a2;have hS: ∀X,Keep (fun b=>b<N+3) wr X->X.cell? ⟨N+2,1,none⟩=some (.slice c k ct)/\X.cell? ⟨N,1,none⟩=some (.slice (some ⟨b,o,none⟩) p.args.length cp)/\X.cell? ⟨b,o+k*2,none⟩=some (.bool t.var)/\X.cell? ⟨b,o+k*2+1,none⟩=some (.string t.text):=fun X hX=>⟨hX.cell e1 (show N+2<N+3 from wA),hX.cell d1 (show N<N+3 from wA),hX.cell g0 (show b<N+3 from wA),hX.cell g1 (show b<N+3 from wA)⟩;obtain⟨U,z⟩:=ex (wr.drew);have kd:wE wr U:=by rw [←z];exact kDr
   have zd:U.heap.size=wr.heap.size:=by rw [←z];rfl
   have aT:=hS U kd.mt;have an:Keep (fun b=>b<n) w U:=(kw.mono fun b _ h=>by have:=l.o;omega).trans kd.mt;have ak:=qm0 (w:=U) bj.o (qam bo.o an) (qam bn.o an) (by have:=l.o;omega) t (bm.o t (zH R));unfold qcy at ak;have a7:(p.args.take (k+1)).map (qa2 a)=(p.args.take k).map (qa2 a)++ [qa2 a t]:=by rw [zh,R,zn];rfl
   have aS:=kd.heap hB trivial;have a0:=qf s kd fun _ _=>trivial;have ci:b<U.heap.size:=wA
   have ch:N<U.heap.size:=wA
   have cg:N+2<U.heap.size:=wA
   clear q0 q1 R aj kw an;refine qib ?_ hK hB s hS z kd aT ak a7 aS a0;clear hK hB s hS z kd aT ak a7 aS a0;intro aC bk bl ag aK bq ay aL aO ax aG;go_wp2_with fail;refine qau rfl (fun X=>X.cell? ⟨N+2,1,none⟩=some (.slice c k ct)/\X.cell? ⟨N,1,none⟩=some (.slice (some ⟨b,o,none⟩) p.args.length cp)/\X.cell? ⟨b,o+k*2,none⟩=some (.bool t.var)/\X.cell? ⟨b,o+k*2+1,none⟩=some (.string t.text)) [12,13] ?_;rw [aK.o];refine qq [0,1,2,3,4,5,6,7,8] ?_
   iterate 9
    refine tkA rfl ay.o ?_
    try simp only [qr]
   refine ql ?_;refine ho 9 rfl fun K Y=>?_;go_wp2_with fail;refine aL.o.mono ?_;rintro e W1 ⟨rfl,k1⟩;have q:=bq.o.trans k1;have aU:=ag.o W1 q.mt;have aQ:=k1.heap ax.o trivial;have ai:=qf aG.o k1 fun _ _=>trivial;have z1:=k1.size;have aW:=ag.o (W1.alloc (.cells #[.string (qa2 a t)] 9)) ((q.trans kAl).mt);obtain⟨v5,W5,a6,am,a4,g5,c5,bD,b6,b9⟩:=qc3 (P:=prog) qef 60 ai [.string (qa2 a t)] rfl (by simp [Value.oneCell']) wA wA;subst bD;have k5:Keep (fun b=>b<N+3) W1 W5:=a4.mono fun b _ h e=>qdu ai h e;have aV:=ag.o W5 (q.mt.trans k5);have m:=k5.heap aQ wA;have cf:=qe m;have b2:=qg m 1;have bu:=qb m 1 _ rfl;simp only [zD]at bu;obtain⟨W6,y⟩:=ex (W5.setCell ⟨N+2,1,none⟩ (.slice (some ⟨g5,0,none⟩) (k+1) c5));have k6:Keep (fun b=>b≠N+2) W5 W6:=by rw [←y];exact kSc
   have aR:W6.heap[N+2]?=some (.cells #[.string p.pred,.slice (some ⟨g5,0,none⟩) (k+1) c5] 86 (0,0)):=by rw [←y];exact qaj 1 _ m
   have aZ:W6.ownsRow (N+3) 9 1 (.slice (some ⟨g5,0,none⟩) (k+1) c5) (k+1) (((p.args.take (k+1)).map (qa2 a)).map .string):=by
    rw [aO.o,zn];exact qf am k6 fun b hb e=>by have:=(zE am b hb).1;omega
   have aX:Keep (fun b=>b<N+2) W0 W6:=aC.o.trans (q.mt.trans ((k5.mono fun b _ h=>wA).trans (k6.mono fun b _ h=>wA)));clear k1 a4 am aQ ai m q k5 k6;refine hd8 ?_ aU aW a6 aV y aR aZ aX;clear aU aW a6 aV y aR aZ aX;intro az aB aN aA aJ aw aF aD;go_wp2_with fail;refine Y.o _ _ (fun _=>az.o) ?_;refine ho 10 rfl fun K aa=>?_;go_wp2_with fail;refine aa.o _ _ (fun _=>aB.o) ?_;refine ho 11 rfl fun K ab=>?_;refine qbo (v:=.slice c k ct) (u:=.slice (some ⟨W1.heap.size,0,none⟩) 1 1) (v':=.slice (some ⟨g5,0,none⟩) (k+1) c5) (w':=W5) rfl (.tmp 20) (.tmp 29) 60 rfl rfl rfl aN.o ?_;go_wp2_with fail;refine ab.o _ _ (fun _=>aA.o) ?_;refine ho 12 rfl fun K ad=>?_;go_wp2_with fail;refine ad.o _ _ (fun h=>absurd h wD) ?_;refine ho 13 rfl fun K ae=>?_;go_wp2_with fail;rw [aJ.o];refine ae.o _ _ (fun h=>absurd h wD) ?_;refine qa0 wB ?_;clear Y aa ab ad ae;go_wp2_with fail;go_roundw
   case rel=>exact⟨k+1,_,wA,by go_num,aD.o,aw.o,aF.o⟩
   case measure=>simp [intOf];omega
  ·obtain rfl:k=p.args.length:=by omega
   rw [zi]at s;have g:=hK.heap bs.o wA;have f0:=qg g 0;have f1:=qg g 1;have l1:=qe g;have e0:=qb hB 0 _ rfl;have r0:=qb g 0 _ rfl;have r1:=qb g 1 _ rfl;simp only [zD]at e0 r0 r1;obtain⟨W2,x⟩:=ex ((wr.setCell ⟨N+1,0,none⟩ (.string p.pred)).setCell ⟨N+1,1,none⟩ (.slice c p.args.length ct));have kS:Keep (fun b=>b≠N+1) wr W2:=by rw [←x];exact(kSc).trans (kSc)
   have bS:W2.heap[N+1]?=some (.cells #[.string p.pred,.slice c p.args.length ct] 86 (0,0)):=by rw [←x];exact qaj 1 (.slice c p.args.length ct) (qaj 0 (.string p.pred) g)
   have s0:=qb bS 0 _ rfl;have s1:=qb bS 1 _ rfl;have l2:=qe bS;simp only [zD]at s0 s1;have aY:=qf s kS fun b hb e=>by have:=(zE s b hb).1;omega
   have kE:Keep (fun b=>b<N) w W2:=aP.o.mt.trans ((hK.mono fun b _ h=>wA).trans (kS.mono fun b _ h=>wA));clear a5 g kS bS;refine hd6 ?_ hK hB s x aY kE;clear hK hB s x aY kE;intro aC bk bl aI aE bp;go_wp2_with fail;rw [aI.o];refine yA (v:=.agg #[.string p.pred,.slice c p.args.length ct]) (by simp [results,Tryz.results161,go_sem,s0,s1,l2]) rfl ⟨_,rfl,aE.o.mono (by have:=l.o;omega),bp.o.mono fun b hb _=>by have:=l.o;omega⟩
abbrev BlIn (n:Nat)(w:World)(v:Value)(bs:List Bool):Prop:=SliceIn n w 1 (fun w b o x=>w.cell? ⟨b,o,none⟩=some (.bool x)) v bs
theorem q44:qb2 prog 29 4 1 1:=qcl (z:=.bool false) wB wB rfl wD wD
theorem q1l {m:Nat}{w:World}{a:Option Addr}{c:Nat}{ts:List Bool}(h:BlIn m w (.slice a ts.length c) ts):(∀b,a=some b-> ∀j u,(ts.map Value.bool)[j]?=some u->w.cell? (b.add j)=some u)/\(a=none->ts.length=0):=by
 have:=qvq (f:=fun t:Bool=> [Value.bool t]) (fun _=>rfl) h fun b o x e j u d=>by
  match j,d with
  |0,d=>cases d;exact e
 rw [←map_eq_flatMap]at this;exact this
theorem q1m (ts:List Bool): ∀u∈ts.map Value.bool,u.oneCell'=true:=fun u b=>by
 obtain⟨t,-,rfl⟩:=yL.1 b
 rfl
theorem q1n {w:World}{base n:Nat}{v:Value}{bs:List Bool}(h:w.ownsRow base 4 1 v n (bs.map .bool))(e:n=bs.length)(c:bs.length<=1073741824):BlIn w.heap.size w v bs:=
 qda h bs e c _ fun b k x g d=>by
  have:=d 0 wD;rw [zP,show k*1+0=k from wA,g]at this
  simpa using this
theorem BlIn.keep {n:Nat}{w w':World}{v:Value}{bs:List Bool}(h:BlIn n w v bs)(hK:Keep (fun b=>b<n) w w'):BlIn n w' v bs:=h.mono fun b o s c d=>hK.cell d c
theorem qr2 {a:Asg}{t:TermD}{ts:List TermD}{x:ByteArray}{xs:List ByteArray}{y:ByteArray}(b:qab a t=some y):qbb a (t::ts) (x::xs)=if y=x then qbb a ts xs else none:=by
 rw [qbb,b]
theorem q45 {a:Asg}{t:TermD}{ts:List TermD}{x:ByteArray}{xs:List ByteArray}(b:qab a t=none):qbb a (t::ts) (x::xs)=qbb (qfs a t.text x) ts xs:=by
 rw [qbb,b]
theorem qt3 {α:Type}{l:List α}{k:Nat}{x:α}(h:l[k]?=some x):l.set k x=l:=by
 obtain⟨b,e⟩:=zA.1 h;rw [←e,set_getElem_self]
theorem q1o {n:Nat}{w:World}{vt vv vl vk:Value}{vars vals ts:List ByteArray}{kn:List Bool}{a:Asg}(hA:qck vars vals kn a)(aW:vars.Nodup)(hv:qaf n w vv vars)(hl:qaf n w vl vals)(hb:BlIn n w vk kn)(ht:qaf n w vt ts)(a0: ∀s,s∈ts->s.size<=1073741824)(hn:n<=w.heap.size)(p:qcg){sa:Value}(hp:qak n w sa p.args)(aV: ∀t,t∈p.args->qeq vars t):
  Calls prog 162 #[.agg #[.string p.pred,sa],vt,vv,vl,vk] w fun e w'=> ∃v' k' ok,e=.returned (.tuple #[v',k',.bool ok])/\wE w w'/\(qbb a p.args ts=none->ok=false)/\
   ∀a',qbb a p.args ts=some a'->ok=true/\ ∃vals' kn',qck vars vals' kn' a'/\w'.ownsRow w.heap.size 9 1 v' vals'.length (vals'.map .string)/\w'.ownsRow w.heap.size 4 1 k' kn'.length (kn'.map .bool):=by
 obtain⟨N,hN⟩:=ex (w.heap.size);obtain⟨cX,ct,rfl,dd,c8,aU⟩:=id ht;obtain⟨av,cv,rfl,de,-,-⟩:=id hv;obtain⟨al,cl,rfl,db,-,-⟩:=id hl;obtain⟨ak,ck,rfl,da,-,-⟩:=id hb;obtain⟨ap,cp,rfl,dc,c7,aT⟩:=id hp;obtain⟨W0,ag⟩:=ex (w.alloc (.cells #[.string p.pred,.slice ap p.args.length cp] 24));have k0:wE w W0:=by rw [←ag];exact kAl
 have p0:W0.heap[N]?=some (.cells #[.string p.pred,.slice ap p.args.length cp] 24 (0,0)):=by rw [←ag,←hN];exact qh _ _
 have z0:W0.heap.size=N+1:=by rw [←ag,←hN];simp
 obtain⟨W1,an⟩:=ex (W0.alloc (.cells #[] 9));have k1:wE W0 W1:=by rw [←an];exact kAl
 have o1:=qfc W0 9 1;rw [an,z0]at o1;obtain⟨b1,bU⟩:=qn2 (qam hl ((k0.trans k1).mt));obtain⟨v2,W2,aY,aM,bP,bR⟩:=qhx (P:=prog) qef 60 o1 al vals.length cl (vals.map .string) wC b1 bU (qn3 _) wA (by have:=k1.size;omega);rw [nil_append,zD]at aM;obtain⟨a2,c2,rfl⟩:=qi aM;have z1:=k1.size;have a1:Keep (fun b=>b<N+1) W0 W2:=k1.mt.trans (bR.mono fun b _ h e=>by
  rcases bP b e with h1 |h1
  ·simp [Value.ownBlock]at h1;omega
  ·omega)
 have z2:=a1.size;obtain⟨W3,ao⟩:=ex (W2.alloc (.cells #[] 4));have k3:wE W2 W3:=by rw [←ao];exact kAl
 have o3:=qfc W2 4 1;rw [ao]at o3;have b7:Keep (fun b=>b<n) w W3:=k0.mt.trans ((a1.mono fun b _ h=>wA).trans k3.mt);obtain⟨b2,bV⟩:=q1l (hb.keep b7);obtain⟨v4,W4,aZ,aX,bQ,bS⟩:=qhx (P:=prog) q44 29 o3 ak kn.length ck (kn.map .bool) wC b2 bV (q1m _) wA k3.size;rw [nil_append,zD]at aX;obtain⟨a4,c4,rfl⟩:=qi aX;have z3:=k3.size;have a3:Keep (fun b=>b<W2.heap.size) W2 W4:=k3.mt.trans (bS.mono fun b _ h e=>by
  rcases bQ b e with h1 |h1
  ·simp [Value.ownBlock]at h1;omega
  ·omega)
 have ai:=qf aM a3 fun b hb=>(zE aM b hb).2;have aj:=aX.mono (show N+1<=W2.heap.size from wA);have aw:Keep (fun b=>b<N+1) W0 W4:=a1.trans (a3.mono fun b _ h=>wA);have cq:N<W4.heap.size:=by have:=a3.size;omega
 have d1:=qb (aw.heap p0 wA) 1 _ rfl;simp only [zD]at d1;rw [←hN]at d1 cq;clear b1 bU bP bR b2 bV bQ bS aM aX o1 o3 k1 k3 b7 a1 a3;by_cases U:p.args.length=ts.length
 ·have bn:((p.args.length:Int) !=ts.length)=false:=by rw [U];simp
  refine qby ?_ hA aW hv hl hb ht a0 hp aV hN ag k0 p0 an aY ao;clear hA aW hv hl hb ht a0 hp aV hN ag k0 p0 an aY ao;intro am a8 bF ce cd cg ba cf a7 l aB bG bH aC aG aD;refine hd7 ?_ aZ ai aj aw aU aT U;clear aZ ai aj aw aU aT U;intro aH aE aF bb a6 a5 Y
  go_enter Tryz.func162,Tryz.ntmps162
  go_wp2_with (at_builtin;first |(refine qbo (v:=.slice (some ⟨w.heap.size+1,0,none⟩) 0 0) (u:=.slice al vals.length cl) (v':=.slice a2 vals.length c2) (w':=W2) rfl (.tmp 17) (.tmp 18) 60 rfl rfl rfl (by rw [aB.o,aC.o,l.o];exact aG.o) ?_) |(refine qbo (v:=.slice (some ⟨W2.heap.size,0,none⟩) 0 0) (u:=.slice ak kn.length ck) (v':=.slice a4 kn.length c4) (w':=W4) rfl (.tmp 20) (.tmp 21) 29 rfl rfl rfl (by rw [aD.o];exact aH.o) ?_));rw [l.o];clear d1
  go_loopw [15] (fun ix wr=> ∃(i:Nat) (us:List ByteArray) (bs:List Bool) (a':Asg),i<=ts.length/\ix=.int .i64 (i:Int)/\Keep (fun b=>b<N+1) W0 wr/\wr.ownsRow (N+1) 9 1 (.slice a2 vals.length c2) vals.length (us.map .string)/\wr.ownsRow (N+1) 4 1 (.slice a4 kn.length c4) kn.length (bs.map .bool)/\qck vars us bs a'/\qbb a p.args ts=qbb a' (p.args.drop i) (ts.drop i)) (fun i _=>ts.length-(intOf i).toNat)
  case atStart=>exact⟨0,vals,kn,a,wA,rfl,bb.o,aE.o,aF.o,am.o,rfl⟩
  case round=>
   obtain⟨i,us,bs,a',hi,rfl,hK,hU,hB,R,c⟩:=hrel;have dn:=hK.size;have c9:(0:Int)<=i:=wA
   have d1:=qb (hK.heap bH.o wA) 1 _ rfl;have c3:N<wr.heap.size:=wA
   simp only [zD]at d1;have kE:Keep (fun b=>b<N) w wr:=bG.o.mt.trans (hK.mono fun b _ h=>wA);by_cases bj:i<ts.length
   ·have cL:(i:Int)<ts.length:=by omega
    have cM:(i:Int)<p.args.length:=by have:=Y.o;omega
    obtain⟨x,hx⟩: ∃x,ts[i]?=some x:=⟨_,zB bj⟩;obtain⟨t,ht⟩: ∃t,p.args[i]?=some t:=⟨_,zB (by have:=Y.o;omega)⟩;obtain⟨bx,ox,rfl,cu,aS⟩:=a6.o i x hx;obtain⟨bt,ot,rfl,bJ,q0,q1⟩:=a5.o i t ht;have kn':Keep (fun b=>b<n) w wr:=kE.mono fun b _ h=>by have:=l.o;omega
    have aS:w.cell? ⟨bx,ox+i*1,none⟩=some (.string x):=aS;have e0:=kn'.cell aS cu;have g0:=kn'.cell q0 bJ;have g1:=kn'.cell q1 bJ;simp only [yB]at e0;have lx:bx<wr.heap.size:=by have:=l.o;omega
    have lt:bt<wr.heap.size:=by have:=l.o;omega
    have aK:p.args.drop i=t::p.args.drop (i+1):=by
     obtain⟨h1,e1⟩:=zA.1 ht;rw [zt h1,e1]
    have bM:ts.drop i=x::ts.drop (i+1):=by
     obtain⟨h1,e1⟩:=zA.1 hx;rw [zt h1,e1]
    have cA:=ba.o x (zH hx);have cx:=a7.o t (zH ht);rw [aK,bM]at c;clear aK bM q0 q1 aS hx ht;cases aN:t.var with
    |false=>
     rw [aN]at g0;have bq:qab a' t=some t.text:=by unfold qab;rw [aN];rfl
     rw [qr2 bq]at c;by_cases au:t.text=x
     ·have bo:=qdn au;rw [zI au]at c;clear au bq;refine hd7 ?_ hK hU hB R c kE kn';clear hK hU hB R c kE kn';intro aA ad ab g d ae bc;go_wp2_with fail
      go_quiet (fail)
      go_wp2_with fail;go_roundw
      case rel=>exact⟨i+1,us,bs,a',wA,by go_num,aA.o.trans (Keep.drewN' _ _ _),qf ad.o (Keep.drewN' (fun _=>True) _ _) (fun _ _=>wF),qf ab.o (Keep.drewN' (fun _=>True) _ _) (fun _ _=>wF),g.o,d.o⟩
      case measure=>simp [intOf];omega
     ·have bo:=qcv au;rw [zF au]at c;clear au bq;refine hd7 ?_ hK hU hB R c kE kn';clear hK hU hB R c kE kn';intro aA ad ab g d ae bc;go_wp2_with fail
      go_quiet (fail)
      go_wp2_with fail;refine yA (v:=.tuple #[.slice a2 vals.length c2,.slice a4 kn.length c4,.bool false]) (by simp [results,Tryz.results162,go_sem]) rfl ⟨_,_,_,rfl,(ae.o.trans (Keep.drewN' _ _ _)).mono fun b hb _=>by have:=l.o;omega,fun _=>rfl,fun a' h=>?_⟩;rw [d.o]at h;cases h
    |true=>
     rw [aN]at g0;have b0:=qp4 n (.slice av vars.length cv) vars t.text wr (qam bF.o kn') (by have:=l.o;omega) (cx aN);have b3:qab a' t=a' t.text:=by unfold qab;rw [aN,zI rfl]
     refine hd9 ?_ hK hU hB R c kE kn' b0 b3;clear hK hU hB R c kE kn' b0 b3;intro aA ad ab g d ae bc bD a9;go_wp2_with fail;refine bD.o.mono ?_;rintro e W9 ⟨q,rfl,bm,hq⟩;have bm:=bm.symm;subst bm;have dm:=(zA.1 hq).1;have cz:=am.o.lv;have cw:=am.o.lk;have cy:=g.o.lv;have cs:=g.o.lk;obtain⟨gV,cI,b6,c6,lV,di,dg,bL,bO⟩:=qsg ad.o wA;obtain⟨gB,cH,b5,c5,lB,dh,df,bK,bN⟩:=qsg ab.o wA;have bk:gB≠gV:=fun e=>qc4 ab.o ad.o wD (b:=gB) (by rw [b5];rfl) (by rw [b6,←e];rfl);cases b6;cases b5;obtain⟨u,hu⟩: ∃u,us[q]?=some u:=⟨_,zB wA⟩;obtain⟨b,aq⟩: ∃b,bs[q]?=some b:=⟨_,zB wA⟩;have cV:=bL q (.string u) (by rw [zP,hu];rfl);have cB:=bK q (.bool b) (by rw [zP,aq];rfl);have fV:=bO q;have fB:=bN q;have dk:(q:Int)<vals.length:=wA
     have dl:(q:Int)<kn.length:=wA
     have dj:(0:Int)<=q:=wA
     have ar:=g.o.kw q t.text hq;rw [aq]at ar;have bi: ∀m:Nat,Keep (fun b=>b<N+1) W0 (((wr.drewN m).setCell ⟨gV,q,none⟩ (.string x)).setCell ⟨gB,q,none⟩ (.bool true))/\(((wr.drewN m).setCell ⟨gV,q,none⟩ (.string x)).setCell ⟨gB,q,none⟩ (.bool true)).ownsRow (N+1) 9 1 (.slice (some ⟨gV,0,none⟩) vals.length c2) vals.length ((us.set q x).map .string)/\(((wr.drewN m).setCell ⟨gV,q,none⟩ (.string x)).setCell ⟨gB,q,none⟩ (.bool true)).ownsRow (N+1) 4 1 (.slice (some ⟨gB,0,none⟩) kn.length c4) kn.length ((bs.set q true).map .bool):=fun m=>by
      have kd:=Keep.drewN' (fun _=>True) wr m;have s1:=qh6 (qf ad.o kd fun _ _=>wF) q (.string x) (by rw [zL];omega);have kV:Keep (fun b=>b≠gV) (wr.drewN m) ((wr.drewN m).setCell ⟨gV,q,none⟩ (.string x)):=kSc;have s2:=qh6 (qf (qf ab.o kd fun _ _=>wF) kV fun b hb e=>bk ((show gB=b from by simpa [Value.ownBlock] using hb).trans e)) q (.bool true) (by rw [zL];omega);have kB:Keep (fun b=>b≠gB) ((wr.drewN m).setCell ⟨gV,q,none⟩ (.string x)) (((wr.drewN m).setCell ⟨gV,q,none⟩ (.string x)).setCell ⟨gB,q,none⟩ (.bool true)):=kSc;rw [map_set,map_set];exact⟨aA.o.trans (kd.mt.trans ((kV.mono fun b _ h=>wA).trans (kB.mono fun b _ h=>wA))),qf s1 kB (fun b hb e=>bk ((show gV=b from by simpa [Value.ownBlock] using hb).trans e).symm),s2⟩
     clear bL bK bO bN cz cw cy cs;have z:=zg bi;clear bi;cases b with
     |true=>
      obtain⟨y,hy⟩:=ar.1 rfl;have cC:y=u:=by
       have:=g.o.val q t.text y hq hy;rw [hu]at this;exact(yI this).symm
      subst cC;have c:=d.o;rw [qr2 (a9.o.trans hy)]at c;by_cases ah:y=x
      ·have bo:=qdn ah;rw [zI ah]at c;have aJ:qck vars (us.set q x) (bs.set q true) a':=by rw [qt3 (by rw [hu,ah]),qt3 aq];exact g.o
       clear ah hu aq ar hy hq d;refine hd2 ?_ c aJ;clear c aJ;intro d az;go_wp2_with fail
       go_quiet (fail)
       go_wp2_with fail;go_roundw
       case rel=>exact⟨i+1,us.set q x,bs.set q true,_,wA,by go_num,(z.o _).1,(z.o _).2.1,(z.o _).2.2,az.o,d.o⟩
       case measure=>simp [intOf];omega
      ·have bo:=qcv ah;rw [zF ah]at c;clear ah hu aq ar hy hq d;refine hd1 ?_ c;clear c;intro d;go_wp2_with fail
       go_quiet (fail)
       go_wp2_with fail;refine yA (v:=.tuple #[.slice (some ⟨gV,0,none⟩) vals.length c2,.slice (some ⟨gB,0,none⟩) kn.length c4,.bool false]) (by simp [results,Tryz.results162,go_sem]) rfl ⟨_,_,_,rfl,(ae.o.trans (Keep.drewN' _ _ _)).mono fun b hb _=>by have:=l.o;omega,fun _=>rfl,fun a' h=>?_⟩;rw [d.o]at h;cases h
     |false=>
      have aL:a' t.text=none:=by
       cases h:a' t.text with
       |none=>rfl
       |some y=>exact absurd (ar.2 ⟨y,h⟩) wC
      have c:=d.o;rw [q45 (a9.o.trans aL)]at c;have aJ:=qwg a8.o g.o hq x cA;clear aL hu aq ar hq d;refine hd2 ?_ c aJ;clear c aJ;intro d az;go_wp2_with fail
      go_quiet (fail)
      go_wp2_with fail;go_roundw
      case rel=>exact⟨i+1,us.set q x,bs.set q true,_,wA,by go_num,(z.o _).1,(z.o _).2.1,(z.o _).2.2,az.o,d.o⟩
      case measure=>simp [intOf];omega
   ·obtain rfl:i=ts.length:=by omega
    have aK:p.args.drop ts.length= []:=xk (by have:=Y.o;omega);rw [aK,xo]at c;have c:qbb a p.args ts=some a':=c;have cr:us.length=vals.length:=by rw [R.lv,am.o.lv]
    have co:bs.length=kn.length:=by rw [R.lk,am.o.lk]
    clear bj aK;refine hd6 ?_ hK hU hB R c kE;clear hK hU hB R c kE;intro aA ad ab g d ae;go_wp2_with fail;refine yA (v:=.tuple #[.slice a2 vals.length c2,.slice a4 kn.length c4,.bool true]) (by simp [results,Tryz.results162,go_sem]) rfl ⟨_,_,_,rfl,ae.o.mono fun b hb _=>by have:=l.o;omega,fun h=>?_,fun cW h=>?_⟩
    ·rw [d.o]at h;cases h
    ·rw [d.o]at h;cases h;exact⟨rfl,us,bs,g.o,by rw [cr];exact ad.o.mono (by have:=l.o;omega),by rw [co];exact ab.o.mono (by have:=l.o;omega)⟩
 ·have bn:((p.args.length:Int) !=ts.length)=true:=by simp;omega
  have aL:=qya (a:=a) U;have kE:Keep (fun b=>b<N) w W4:=k0.mt.trans (aw.mono fun b _ h=>wA);refine qby ?_ hA aW hv hl hb ht a0 hp aV hN ag k0 p0 an aY ao;clear hA aW hv hl hb ht a0 hp aV hN ag k0 p0 an aY ao;intro am a8 bF ce cd cg ba cf a7 l aB bG bH aC aG aD;refine hd9 ?_ aZ ai aj aw aU aT U aL kE;clear aZ ai aj aw aU aT U aL kE;intro aH aE aF bb a6 a5 Y bz ae
  go_enter Tryz.func162,Tryz.ntmps162
  go_wp2_with (at_builtin;first |(refine qbo (v:=.slice (some ⟨w.heap.size+1,0,none⟩) 0 0) (u:=.slice al vals.length cl) (v':=.slice a2 vals.length c2) (w':=W2) rfl (.tmp 17) (.tmp 18) 60 rfl rfl rfl (by rw [aB.o,aC.o,l.o];exact aG.o) ?_) |(refine qbo (v:=.slice (some ⟨W2.heap.size,0,none⟩) 0 0) (u:=.slice ak kn.length ck) (v':=.slice a4 kn.length c4) (w':=W4) rfl (.tmp 20) (.tmp 21) 29 rfl rfl rfl (by rw [aD.o];exact aH.o) ?_));refine yA (v:=.tuple #[.slice a2 vals.length c2,.slice a4 kn.length c4,.bool false]) (by simp [results,Tryz.results162,go_sem]) rfl ⟨_,_,_,rfl,ae.o.mono fun b hb _=>by have:=l.o;omega,fun _=>rfl,fun a' h=>?_⟩;rw [bz.o]at h;cases h
end Go.Proofs
