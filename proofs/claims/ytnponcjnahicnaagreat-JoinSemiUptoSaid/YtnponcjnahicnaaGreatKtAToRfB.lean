/- Parts of the proof. -/
import Derived.Test.YtnponcjnahicnaaGreatProg
import Derived.Test.YtnponcjnahicnaaGreatRoBToCmF
import Derived.Test.YtnponcjnahicnaaGreatHdToKp
import Derived.Test.YtnponcjnahicnaaGreatHoistToRowC
import Derived.Deep.QuietTactic
import Derived.BigQuiet
import Derived.Laws.Cover1
import Derived.Laws.StructEq
set_option linter.unusedSimpArgs false
set_option linter.unusedVariables false
open Go.Proofs.Tryz(prog)
open List(drop_eq_getElem_cons drop_eq_nil_of_le drop_length foldl_append getElem?_eq_getElem getElem?_map length_take map_cons mem_append mem_map mem_of_getElem? mem_singleton nil_append take_add_one take_length)
namespace Go.Proofs
open Go.RowKit Go.Ink Go.Flt R4 P16
attribute [local go_sem] Oper.semAt_some
theorem q0c {m:Nat}{w:World}{a:Option Addr}{c:Nat}{ts:List ByteArray}(h:qae m w (.slice a ts.length c) ts):(∀b,a=some b-> ∀j u,(ts.map Value.string)[j]?=some u->w.cell? (b.add j)=some u)/\(a=none->ts.length=0):=by
 obtain⟨a',c',hv,hl,hc,he⟩:=h;injection hv with h1 h2 h3
 subst h1;refine⟨fun b hb j u hj=>?_,fun h=>?_⟩
 ·rw [getElem?_map]at hj;cases hx:ts[j]? with
  |none=>rw [hx] at hj;cases hj
  |some x=>
   rw [hx]at hj;cases hj;obtain⟨b',o,e,hb',hs⟩:=he j x hx;rw [hb]at e;cases e;unfold qgc at hs;rw [Nat.mul_one]at hs;rw [show((⟨b',o,none⟩:Addr).add j)=⟨b',o+j,none⟩ from by unfold Addr.add;split<;>simp_all];exact hs
 ·cases hts:ts with
  |nil=>rfl
  |cons x xs=>
   obtain⟨b,o,e,-⟩:=he 0 x (by rw [hts];rfl);rw [h]at e;cases e
theorem q0d (ts:List ByteArray): ∀u∈ts.map Value.string,u.oneCell'=true:=fun u hu=>by
 obtain⟨x,_,rfl⟩:=mem_map.1 hu;simp [Value.oneCell']
set_option maxRecDepth 100000 in
theorem qtr {w:World}{m:Nat}{v:Value}{ts:List ByteArray}(h:qae m w v ts)(hm:m<=w.heap.size):Calls prog 71 #[v] w fun e w'=> ∃v',e=.returned v'/\w'.ownsRow w.heap.size 9 1 v' ts.length (ts.map .string)/\Keep (fun _=>True) w w':=by
 obtain⟨a,c,rfl,hl,hc,he⟩:=id h;obtain⟨hs,hn⟩:=q0c h;obtain⟨W0,hW0⟩:=ex (w.alloc (.cells #[] 9));have k0:Keep (fun _=>True) w W0:=by rw [←hW0];exact kAl
 have o0:=qiv w 9 1;rw [hW0]at o0;obtain⟨v',W1,hr,ho,hg,hk⟩:=qji (P:=prog) qga 46 o0 a ts.length c (ts.map .string) (by simp) (fun b' hb j u hj=>k0.cell (hs b' hb j u hj) trivial) hn (q0d ts) (by omega) k0.size;rw [nil_append,Nat.zero_add]at ho;have hk1:Keep (fun b=>b<w.heap.size) w W1:=(k0.mono fun _ _ _=>trivial).trans (hk.mono fun b _ h e=>by
  rcases hg b e with h1 |h1
  ·simp [Value.ownBlock]at h1;omega
  ·have:=k0.size;omega)
 have hk2:Keep (fun _=>True) w W1:=hk1.mono fun b hb _=>hb;rw [←hW0]at hr;obtain⟨a',c',rfl⟩:=qi ho;clear hs hn hg hk hk1 k0 o0 hW0 he h;refine hd3 ?_ hr ho hk2;clear hr ho hk2;intro Xhr Xho Xhk2
 go_enter Tryz.func71,Tryz.ntmps71
 go_wp2_with (at_builtin;refine qcq (v:=.slice (some ⟨w.heap.size,0,none⟩) 0 0) (u:=.slice a ts.length c) (v':=.slice a' ts.length c') (w':=W1) rfl (.tmp 3) (.tmp 4) 46 rfl rfl rfl Xhr.o ?_);go_ret;exact⟨_,rfl,Xho.o,Xhk2.o⟩
set_option maxRecDepth 100000 in
set_option maxHeartbeats 2000000 in
theorem qn1 {w:World}{m:Nat}{v:Value}(p:ByteArray){ts:List ByteArray}(h:qae m w v ts)(hm:m<=w.heap.size):Calls prog 32 #[.agg #[.string p,v]] w fun e w'=> ∃v',e=.returned (.agg #[.string p,v'])/\w'.ownsRow w.heap.size 9 1 v' ts.length (ts.map .string)/\Keep (fun _=>True) w w':=by
 obtain⟨a,c,rfl,hl,hc,he⟩:=id h;obtain⟨N,hN⟩:=ex (w.heap.size);obtain⟨W0,hW0⟩:=ex ((w.alloc (.cells #[.string p,.slice a ts.length c] 52)).alloc (.cells #[.string ⟨#[]⟩,.slice none 0 0] 52));have k0:Keep (fun _=>True) w W0:=by rw [←hW0];exact kAl.trans kAl
 have z0:W0.heap.size=N+2:=by rw [←hW0,←hN];simp
 have p0:W0.heap[N]?=some (.cells #[.string p,.slice a ts.length c] 52 (0,0)):=by rw [←hW0,←hN];exact(Keep.alloc (fun _=>True) _ _).heap (qh w _) trivial
 have p1:W0.heap[N+1]?=some (.cells #[.string ⟨#[]⟩,.slice none 0 0] 52 (0,0)):=by
  rw [←hW0,←hN];have:=qh (w.alloc (.cells #[.string p,.slice a ts.length c] 52)) (.cells #[.string ⟨#[]⟩,.slice none 0 0] 52);rw [World.size_alloc]at this;exact this
 obtain⟨Wd,hWd⟩:=ex (W0.drew);have kd:Keep (fun _=>True) W0 Wd:=by rw [←hWd];exact kDr
 have hS: ∀X,Keep (fun _=>True) W0 X->X.cell? ⟨N,0,none⟩=some (.string p)/\X.cell? ⟨N,1,none⟩=some (.slice a ts.length c):=fun X hX=>by
  have q:=hX.heap p0 trivial;have q0:=qb q 0 _ rfl;have q1:=qb q 1 _ rfl;simp only [Nat.zero_add]at q0 q1;exact⟨q0,q1⟩
 have hT0:=hS Wd kd;have hcl:=qtr (w:=Wd) (qbr h ((k0.trans kd).mono fun _ _ _=>trivial)) (by have:=(k0.trans kd).size;omega);have hzd:=kd.size;refine qhe ?_ h hN hW0 k0 p0 p1 hWd kd hS hT0 hcl he;clear h hN hW0 k0 p0 p1 hWd kd hS hT0 hcl he;intro Xh XhN XhW0 Xk0 Xp0 Xp1 XhWd Xkd XhS XhT0 Xhcl Xhe;refine qbp Tryz.func32 rfl ?_;simp only [Tryz.ntmps32,qdz,Nat.reduceAdd,Nat.reduceSub];gi_wp2;rw [XhW0.o,XhN.o];refine qab ?_;refine qx rfl (fun X=>X.cell? ⟨N,0,none⟩=some (.string p)/\X.cell? ⟨N,1,none⟩=some (.slice a ts.length c)) [6] ?_;rw [XhWd.o];refine qam [0,1,2,3] ?_
 iterate 4
  refine tkR (v:=?_) rfl XhT0.o ?_ ?_;rotate_left
  ·rintro Wq ⟨x1,x2⟩;go_simp
   try with_reducible rfl
  try simp only [qan]
 refine qu ?_;refine hoR 4 rfl fun K XhK0=>?_;gi_wp2;refine⟨trivial,rfl,(callsIn_wide.2 Xhcl.o).mono ?_⟩;rintro e W1 ⟨v',rfl,o1,k1⟩;obtain⟨a1,c1,rfl⟩:=qi o1;have k01:Keep (fun _=>True) W0 W1:=Xkd.o.trans k1;have hT1:=XhS.o W1 k01;have b1:=k01.heap Xp1.o trivial;have d0:=qb b1 0 _ rfl;have d1:=qb b1 1 _ rfl;have f0:=qf b1 0;have f1:=qf b1 1;have l1:=qe b1;simp only [Nat.zero_add]at d0 d1;have kS:Keep (fun b=>b≠N+1) W1 ((W1.setCell ⟨N+1,0,none⟩ (.string p)).setCell ⟨N+1,1,none⟩ (.slice a1 ts.length c1)):=(kSc).trans (kSc);have bS:=q8 1 (.slice a1 ts.length c1) (q8 0 (.string p) b1);obtain⟨W2,hW2⟩:=ex ((W1.setCell ⟨N+1,0,none⟩ (.string p)).setCell ⟨N+1,1,none⟩ (.slice a1 ts.length c1));rw [hW2]at kS bS;have e0:=qb bS 0 _ rfl;have e1:=qb bS 1 _ rfl;have l2:=qe bS;simp only [Nat.zero_add]at e0 e1;have o2:=qg o1 kS (fun b hb=>by have:=(World.ownsRow.lt o1 b hb).1;omega);have k2:Keep (fun _=>True) w W2:=((Xk0.o.trans k01).mono fun _ _ _=>trivial).trans (kS.mono fun b _ (h:b<N)=>by omega) |>.mono fun b hb _=>by have:=XhN.o;omega
 clear k1 k01 b1 bS kS o1;refine hd4 ?_ hT1 hW2 o2 k2;clear hT1 hW2 o2 k2;intro XhT1 XhW2 Xo2 Xk2;gi_wp2;refine XhK0.o _ _ (fun _=>XhT1.o) ?_;refine qam [5] ?_
 iterate 1
  refine tkR (v:=?_) rfl XhT1.o ?_ ?_;rotate_left
  ·rintro Wq ⟨x1,x2⟩;go_simp
   try with_reducible rfl
  try simp only [qan]
 refine qu ?_;refine hoR 6 rfl fun K XhK1=>?_;gi_wp2;rw [XhW2.o];refine XhK1.o _ _ (fun h=>absurd h (by decide)) ?_;refine qk (by kernel_rfl) (qm ?_);clear XhK0 XhK1;gi_wp2;refine bodyPost_ret (v:=.agg #[.string p,.slice a1 ts.length c1]) (by simp [results,Tryz.results32,go_sem,e0,e1,l2]) rfl ⟨_,rfl,Xo2.o.mono (by have:=XhN.o;omega),Xk2.o⟩
def q43 (n:Nat)(w:World)(b o:Nat)(f:ql):Prop:= ∃sv,CellsE w b o [.string f.pred,sv]/\qae n w sv f.tuple
abbrev FactsIn (n:Nat)(w:World)(v:Value)(fs:List ql):Prop:=SliceIn n w 2 (q43 n) v fs
theorem FactsIn.keep {n:Nat}{w w':World}{v:Value}{fs:List ql}(h:FactsIn n w v fs)(hK:Keep (fun k=>k<n) w w'):FactsIn n w' v fs:=
 h.mono fun b o s hb ⟨sv,h1,h2⟩=>⟨sv,fun j v hj=>hK.cell (h1 j v hj) hb,qbr h2 hK⟩
theorem qpk {fs:List ql}{k:Nat}{f:ql}(h:fs[k]?=some f):qbb okF (fs.take (k+1))=qcl okF (qbb okF (fs.take k)) f:=by
 unfold qbb;rw [take_add_one,h,foldl_append]
 rfl
theorem qmv (fs:List ql):(qbb okF fs).length<=fs.length:=by
 have:=qz8 okF fs [];unfold qbb
 simpa using this
theorem qom (fs:List ql): ∀x,x∈qbb okF fs->okF x=true:=by
 have hgo: ∀(l:List ql) (c:List ql),(∀x,x∈c->okF x=true)-> ∀x,x∈l.foldl (qcl okF) c->okF x=true:=by
  intro l
  induction l with
  |nil=>intro c h;exact h
  |cons f l ih=>intro c h;exact ih _ (q5l h f)
 exact hgo fs [] (fun x h=>by cases h)
set_option maxRecDepth 100000 in
set_option maxHeartbeats 2000000 in
theorem qjs {n0:Nat}{g:Gh}{w:World}(hg:GInv g w){n:Nat}{v:Value}{fs:List ql}(hf:FactsIn n w v fs)(hn:n<=w.heap.size)(hfr: ∀b,b<n->g.free b)(hps: ∀f,f∈fs->f.pred.size<=1073741824)(hfew:fs.length<67108864):
  Calls prog 12 #[v] w fun e w'=> ∃S g',e=.returned (qj S)/\GStep n0 g w g' w'/\g'.st=g.with S (qbb okF fs)/\g'.held=g.held/\w.heap.size<=S:=by
 obtain⟨a,c,rfl,hl,hc,he⟩:=id hf;have hnew:=qnh (n0:=n0) hg;refine hd6 ?_ hg hf hfr hps he hnew;clear hg hf hfr hps he hnew;intro Xhg Xhf Xhfr Xhps Xhe Xhnew
 go_enter Tryz.func12,Tryz.ntmps12
 go_wp2_with fail;refine Xhnew.o.mono ?_;rintro e W1 ⟨S,g1,rfl,hs1,hst1,hh1,hS⟩;refine hd3 ?_ hs1 hst1 hh1;clear hs1 hst1 hh1;intro Xhs1 Xhst1 Xhh1;go_wp2_with fail
 go_loopw [4] (fun i' X=> ∃(k:Nat) (g':Gh),k<=fs.length/\i'=.int .i64 (k:Int)/\GStep n0 g w g' X/\g'.st=g.with S (qbb okF (fs.take k))/\g'.held=g.held) (fun i _=>fs.length-(intOf i).toNat)
 case atStart=>exact⟨0,g1,by omega,rfl,Xhs1.o,Xhst1.o,Xhh1.o⟩
 case round=>
  obtain⟨k,g',hk,rfl,hst,hcn,hhe⟩:=hrel;have hzr:=hst.keep.size;by_cases hlt:k<fs.length
  ·have hlt1:(k:Int)<fs.length:=by omega
   have hk0:(0:Int)<=k:=by omega
   obtain⟨f,hfk⟩: ∃f,fs[k]?=some f:=⟨_,getElem?_eq_getElem hlt⟩;obtain⟨b,o,rfl,hb,sv,hcl,hsv⟩:=Xhe.o k f hfk;have kn:Keep (fun b=>b<n) w wr:=hst.keep.mono fun b _ h=>Xhfr.o b h;have d0:=kn.cell (hcl 0 _ rfl) hb;have d1:=kn.cell (hcl 1 _ rfl) hb;have hbw:b<wr.heap.size:=by omega
   have hsvr:=qbr hsv kn;obtain⟨sa,sc,rfl,hsl,-,-⟩:=id hsv;have hcp:=qn1 f.pred hsvr (by omega);have hsn:=qpk hfk;have hfl:=qmv (fs.take k);rw [length_take]at hfl;have hpf:=Xhps.o f (mem_of_getElem? hfk);simp only [Nat.add_zero]at d0;clear hcl hsv hsvr kn hfk;refine hd5 ?_ hst hcn hhe hcp hsn;clear hst hcn hhe hcp hsn;intro Xhst Xhcn Xhhe Xhcp Xhsn;go_wp2_with fail;refine Xhcp.o.mono ?_;rintro e W2 ⟨v',rfl,o2,k2⟩;obtain⟨a2,c2,rfl⟩:=qi o2;have hgi:=Xhst.o.inv.keep (k2.mono fun _ _ _=>trivial);have hSt:g'.st S=some (qbb okF (fs.take k)):=by rw [Xhcn.o];unfold Gh.with;simp
   have hfree: ∀a' n' c',Value.slice a2 f.tuple.length c2=.slice (some a') n' c'->g'.tag a'.block=none:=fun a' n' c' e=>by
    injection e with e1 e2 e3
    subst e1;have h1:=(World.ownsRow.lt o2 a'.block (by simp [Value.ownBlock])).1;cases ht:g'.tag a'.block with
    |none=>rfl
    |some T=>have:=Xhst.o.inv.lt _ _ ht;omega
   have hadd:=qsb (n0:=n0) hgi hSt f W2.heap.size _ (qcn o2 (by omega)) (Nat.le_refl _) hpf (by omega) hfree;have k2':Keep (fun _=>True) wr W2:=k2;clear k2 o2 hSt hfree hgi;refine hd2 ?_ hadd k2';clear hadd k2';intro Xhadd Xk2';go_wp2_with fail;refine Xhadd.o.mono ?_;rintro e W3 ⟨g2,rfl,hs3,hst3,hh3⟩;have hend:GStep n0 g w g2 W3:=(Xhst.o.trans (GStep.own Xhst.o.inv Xk2'.o)).trans hs3;have hst4:g2.st=g.with S (qbb okF (fs.take (k+1))):=by
    rw [hst3,Xhsn.o]
    funext b
    have h:=congrFun Xhcn.o b;unfold Gh.with at h⊢;by_cases hb:b=S<;>simp_all
   refine hd5 ?_ hend hst4 hh3 hs3 hst3;clear hend hst4 hh3 hs3 hst3;intro Xhend Xhst4 Xhh3 Xhs3 Xhst3;go_wp2_with fail;go_roundw
   case rel=>exact⟨k+1,g2,by omega,by go_num,Xhend.o,Xhst4.o,Xhh3.o.trans Xhhe.o⟩
   case measure=>simp [intOf];omega
  ·obtain rfl:k=fs.length:=by omega
   rw [take_length]at hcn;clear hlt;refine hd3 ?_ hst hcn hhe;clear hst hcn hhe;intro Xhst Xhcn Xhhe;go_wp2_with fail;go_ret;exact⟨S,g',rfl,Xhst.o,Xhcn.o,Xhhe.o,hS⟩
set_option maxRecDepth 100000 in
theorem qev (n:Nat)(va vb:Value)(xs ys:List ByteArray)(w:World)(ha:qae n w va xs)(hb:qae n w vb ys)(hn:n<=w.heap.size):
  Calls prog 39 #[va,vb] w fun e w'=>e=.returned (.bool (decide (xs=ys)))/\ ∃m,w'=w.drewN m:=by
 obtain⟨aa,ca,rfl,hla,hca,hea⟩:=id ha;obtain⟨ab,cb,rfl,hlb,hcb,heb⟩:=id hb;refine hd4 ?_ ha hb hea heb;clear ha hb hea heb;intro Xha Xhb Xhea Xheb
 go_enter Tryz.func39,Tryz.ntmps39
 by_cases hl:xs.length=ys.length
 ·have hl1:((xs.length:Int) !=ys.length)=false:=by simp [hl]
  refine hd1 ?_ hl;clear hl;intro Xhl;go_wp2_with fail
  go_loopw [5] (fun i wr=> ∃k:Nat,k<=xs.length/\i=.int .i64 (k:Int)/\(∃m,wr=w.drewN m)/\ ∀j,j<k->xs[j]?=ys[j]?) (fun i _=>xs.length-(intOf i).toNat)
  case atStart=>exact⟨0,by omega,rfl,⟨0,rfl⟩,fun j h=>by omega⟩
  case round=>
   obtain⟨k,hk,rfl,hM,hall⟩:=hrel;have hK:Keep (fun _=>True) w wr:=by obtain⟨m,rfl⟩:=hM;exact Keep.drewN' _ _ _
   have XhM:=Lib.hid hM;clear hM;have hll:=Xhl.o;by_cases hlt:k<xs.length
   ·obtain⟨x,hx⟩: ∃x,xs[k]?=some x:=⟨_,getElem?_eq_getElem hlt⟩;obtain⟨y,hy⟩: ∃y,ys[k]?=some y:=⟨_,getElem?_eq_getElem (by omega)⟩;obtain⟨ba,oa,rfl,hba,hxa⟩:=Xhea.o k x hx;obtain⟨bb,ob,rfl,hbb,hyb⟩:=Xheb.o k y hy;have f1:=hK.cell hxa trivial;have f2:=hK.cell hyb trivial;simp only [Nat.mul_one]at f1 f2;have hs:=hK.size;have hb1:ba<wr.heap.size:=by omega
    have hb2:bb<wr.heap.size:=by omega
    have hlt1:(k:Int)<xs.length:=by omega
    have hlt2:(k:Int)<ys.length:=by omega
    have hk0:(0:Int)<=k:=by omega
    by_cases hxy:x=y
    ·have hne:(x.toList==y.toList)=true:=qhm hxy;have hall2: ∀j,j<k+1->xs[j]?=ys[j]?:=fun j hj=>by
      rcases Nat.lt_succ_iff_lt_or_eq.1 hj with h |rfl
      ·exact hall j h
      ·rw [hx,hy,hxy]
     clear hall hx hy hxy hxa hyb hl1;refine hd2 ?_ hall2 hK;clear hall2 hK;intro Xhall2 XhK;go_wp2_with fail
     go_quiet (fail)
     go_wp2_with fail;go_roundw
     case rel=>exact⟨k+1,by omega,by go_num,(by obtain⟨m,h⟩:=XhM.o;rw [h,World.drewN_drewN];exact⟨_,rfl⟩),Xhall2.o⟩
     case measure=>simp [intOf];omega
    ·have hne:(x.toList==y.toList)=false:=qfq hxy;have hno:decide (xs=ys)=false:=by
      simp only [decide_eq_false_iff_not];intro e;subst e;rw [hx] at hy;cases hy;exact hxy rfl
     clear hall hx hy hxy hxa hyb hl1;refine hd2 ?_ hno hK;clear hno hK;intro Xhno XhK;go_wp2_with fail
     go_quiet (fail)
     go_wp2_with fail;go_ret;exact⟨by rw [Xhno.o];try rfl,(by obtain⟨m,h⟩:=XhM.o;rw [h,World.drewN_drewN];exact⟨_,rfl⟩)⟩
   ·have hyes:decide (xs=ys)=true:=by
     simp only [decide_eq_true_eq];exact q7o hll fun j hj=>hall j (by omega)
    clear hall;refine hd2 ?_ hyes hK;clear hyes hK;intro Xhyes XhK;go_wp2_with fail;go_ret;exact⟨by rw [Xhyes.o];try rfl,XhM.o⟩
 ·have hl1:((xs.length:Int) !=ys.length)=true:=by simp;omega
  have hno:decide (xs=ys)=false:=by
   simp only [decide_eq_false_iff_not];intro e;exact hl (by rw [e])
  clear hl;refine hd1 ?_ hno;clear hno;intro Xhno;go_wp2_with fail;go_ret;exact⟨by rw [Xhno.o];try rfl,⟨0,rfl⟩⟩
theorem qqt (e:Int)(w:World):Calls prog 11 #[.int .i64 e] w fun x w'=>x=.returned (.int .i64 e)/\w'=w:=by
 go_enter Tryz.func11,Tryz.ntmps11
 go_wp2;go_ret;exact⟨by simp,rfl⟩
theorem qwv: ∀(x y:List UInt8),Op.bytesLess x y=ltL (x.map UInt8.toNat) (y.map UInt8.toNat)
 | [],[]=>rfl
 |_::_,[]=>rfl
 | [],_::_=>rfl
 |a::x,b::y=>by
  rw [Op.bytesLess,qwv x y,map_cons,map_cons,ltL];have h1:(a<b)↔a.toNat<b.toNat:=UInt8.lt_iff_toNat_lt;by_cases h:a.toNat<b.toNat
  ·rw [if_pos h];simp [h1.2 h]
  ·rw [if_neg h];have h2:decide (a<b)=false:=by simpa using fun e=>h (h1.1 e)
   rw [h2,Bool.false_or];by_cases h3:b.toNat<a.toNat
   ·rw [if_pos h3];have:a≠b:=fun e=>by subst e;omega
    simp [this]
   ·rw [if_neg h3];have:a=b:=UInt8.toNat_inj.1 (by omega);simp [this]
theorem qrl (a b:ByteArray):Op.bytesLess a.toList b.toList=ltS a b:=by
 rw [qwv,ByteArray.toList_eq,ByteArray.toList_eq]
 rfl
theorem q0e (a b:ByteArray):(!(Op.bytesLess a.toList b.toList ||a.toList==b.toList))=ltS b a:=by
 rw [qrl];by_cases h:a=b
 ·rw [qhm h,h,qlh];rfl
 ·rw [qfq h,Bool.or_false];cases h1:ltS a b with
  |true=>rw [qrj h1];rfl
  |false=>
   cases h2:ltS b a with
   |true=>rfl
   |false=>exact absurd (qin h1 h2) h
def qll (a b:ByteArray):Int:=if ltS a b=true then-1 else if ltS b a=true then 1 else 0
theorem qts (a b:ByteArray)(w:World):Calls prog 136 #[.string a,.string b] w fun x w'=>x=.returned (.int .i64 (qll a b))/\w'=w:=by
 have h1:=qrl a b;have h2:=q0e a b;unfold qll;cases h3:ltS a b with
 |true=>
  rw [h3]at h1;clear h2 h3;rw [if_pos rfl]
  go_enter Tryz.func136,Tryz.ntmps136
  go_wp2;go_ret;exact⟨rfl,rfl⟩
 |false=>
  rw [h3]at h1;rw [if_neg (by simp)];cases h4:ltS b a with
  |true=>
   have h5:(a.toList==b.toList)=false:=qfq fun e=>by subst e;rw [qlh] at h4;cases h4
   clear h2 h3 h4;rw [if_pos rfl]
   go_enter Tryz.func136,Tryz.ntmps136
   go_wp2;go_ret;exact⟨rfl,rfl⟩
  |false=>
   have h5:(a.toList==b.toList)=true:=qhm (qin h3 h4);clear h2 h3 h4;rw [if_neg (by simp)]
   go_enter Tryz.func136,Tryz.ntmps136
   go_wp2;go_ret;exact⟨rfl,rfl⟩
set_option maxRecDepth 100000 in
theorem qrm (n:Nat)(va:Value)(xs:List ByteArray)(x:ByteArray)(w:World)(ha:qae n w va xs)(hn:n<=w.heap.size):
  Calls prog 72 #[va,.string x] w fun e w'=> ∃i:Int,e=.returned (.int .i64 i)/\w'=w/\ -1<=i/\i<=1073741824/\(i<0↔x∉xs):=by
 obtain⟨aa,ca,rfl,hla,hca,hea⟩:=id ha;refine hd2 ?_ ha hea;clear ha hea;intro Xha Xhea
 go_enter Tryz.func72,Tryz.ntmps72
 go_wp2_with fail
 go_loopw [5] (fun i wr=> ∃k:Nat,k<=xs.length/\i=.int .i64 (k:Int)/\wr=w/\x∉xs.take k) (fun i _=>xs.length-(intOf i).toNat)
 case atStart=>exact⟨0,by omega,rfl,rfl,by simp⟩
 case round=>
  obtain⟨k,hk,rfl,rfl,hall⟩:=hrel;by_cases hlt:k<xs.length
  ·obtain⟨y,hx⟩: ∃x,xs[k]?=some x:=⟨_,getElem?_eq_getElem hlt⟩;obtain⟨ba,oa,rfl,hba,hxa⟩:=Xhea.o k y hx;have f1:wr.cell? ⟨ba,oa+k*1,none⟩=some (.string y):=hxa;simp only [Nat.mul_one]at f1;have hb1:ba<wr.heap.size:=by omega
   have hlt1:(k:Int)<xs.length:=by omega
   have hk0:(0:Int)<=k:=by omega
   by_cases hxy:y=x
   ·have hne:(y.toList==x.toList)=true:=qhm hxy;have hin:x∈xs:=hxy▸mem_of_getElem? hx;clear hall hx hxy hxa;refine hd1 ?_ hin;clear hin;intro Xhin;go_wp2_with fail;go_ret;exact⟨_,rfl,rfl,by omega,by omega,⟨fun h=>by omega,fun h=>absurd Xhin.o h⟩⟩
   ·have hne:(y.toList==x.toList)=false:=qfq hxy;have hall2:x∉xs.take (k+1):=by
     rw [take_add_one,hx];simp only [Option.toList_some,mem_append,mem_singleton,not_or];exact⟨hall,fun e=>hxy e.symm⟩
    clear hall hx hxy hxa;refine hd1 ?_ hall2;clear hall2;intro Xhall2;go_wp2_with fail;go_roundw
    case rel=>exact⟨k+1,by omega,by go_num,trivial,Xhall2.o⟩
    case measure=>simp [intOf];omega
  ·obtain rfl:k=xs.length:=by omega
   rw [take_length]at hall;clear hlt;refine hd1 ?_ hall;clear hall;intro Xhall;go_wp2_with fail;go_ret;exact⟨-1,rfl,rfl,by omega,by omega,⟨fun _=>Xhall.o,fun _=>by omega⟩⟩
def qhf (a b:List ByteArray):Int:=if ltR a b=true then-1 else if ltR b a=true then 1 else 0
theorem q0f (x y:ByteArray)(xs ys:List ByteArray):qhf (x::xs) (y::ys)=if qll x y=0 then qhf xs ys else qll x y:=by
 unfold qhf qll;simp only [ltR];by_cases h1:ltS x y=true
 ·simp [h1,qrj h1]
 ·by_cases h2:ltS y x=true
  ·simp [h1,h2]
  ·simp [h1,h2]
theorem q0g {xs ys:List ByteArray}{k:Nat}{x y:ByteArray}(hx:xs[k]?=some x)(hy:ys[k]?=some y):qhf (xs.drop k) (ys.drop k)=if qll x y=0 then qhf (xs.drop (k+1)) (ys.drop (k+1)) else qll x y:=by
 obtain⟨h1,e1⟩:=List.getElem?_eq_some_iff.1 hx;obtain⟨h2,e2⟩:=List.getElem?_eq_some_iff.1 hy;rw [drop_eq_getElem_cons h1,drop_eq_getElem_cons h2,e1,e2,q0f]
theorem q3j {xs ys:List ByteArray}{k:Nat}(h1:k<=xs.length)(h2:k<=ys.length)(h:k=xs.length∨k=ys.length):qhf (xs.drop k) (ys.drop k)=if xs.length<ys.length then-1 else if ys.length<xs.length then 1 else 0:=by
 rcases h with rfl |rfl
 ·rw [drop_length];by_cases h:xs.length<ys.length
  ·rw [if_pos h,drop_eq_getElem_cons h];rfl
  ·rw [if_neg h,if_neg (by omega),drop_eq_nil_of_le (by omega)];rfl
 ·rw [drop_length];by_cases h:ys.length<xs.length
  ·rw [if_neg (by omega),if_pos h,drop_eq_getElem_cons h];rfl
  ·rw [if_neg (by omega),if_neg h,drop_eq_nil_of_le (by omega)];rfl
set_option maxRecDepth 100000 in
theorem qx2 (n:Nat)(va vb:Value)(xs ys:List ByteArray)(w:World)(ha:qae n w va xs)(hb:qae n w vb ys)(hn:n<=w.heap.size):
  Calls prog 101 #[va,vb] w fun e w'=>e=.returned (.int .i64 (qhf xs ys))/\ ∃m,w'=w.drewN m:=by
 obtain⟨aa,ca,rfl,hla,hca,hea⟩:=id ha;obtain⟨ab,cb,rfl,hlb,hcb,heb⟩:=id hb;refine hd4 ?_ ha hb hea heb;clear ha hb hea heb;intro Xha Xhb Xhea Xheb
 go_enter Tryz.func101,Tryz.ntmps101
 go_wp2_with fail
 go_loopw [5] (fun i wr=> ∃k:Nat,k<=xs.length/\k<=ys.length/\i=.int .i64 (k:Int)/\(∃m,wr=w.drewN m)/\qhf xs ys=qhf (xs.drop k) (ys.drop k)) (fun i _=>xs.length-(intOf i).toNat)
 case atStart=>exact⟨0,by omega,by omega,rfl,⟨0,rfl⟩,rfl⟩
 case round=>
  obtain⟨k,hk,hk',rfl,hM,hall⟩:=hrel;have hK:Keep (fun _=>True) w wr:=by obtain⟨m,rfl⟩:=hM;exact Keep.drewN' _ _ _
  have XhM:=Lib.hid hM;clear hM;have hk0:(0:Int)<=k:=by omega
  have hend:(k=xs.length∨k=ys.length)->qhf xs ys=if xs.length<ys.length then-1 else if ys.length<xs.length then 1 else 0:=fun h=>hall.trans (q3j hk hk' h)
  by_cases hlt:k<xs.length
  ·have hlt1:(k:Int)<xs.length:=by omega
   by_cases hlt':k<ys.length
   ·have hlt2:(k:Int)<ys.length:=by omega
    obtain⟨x,hx⟩: ∃x,xs[k]?=some x:=⟨_,getElem?_eq_getElem hlt⟩;obtain⟨y,hy⟩: ∃y,ys[k]?=some y:=⟨_,getElem?_eq_getElem hlt'⟩;obtain⟨ba,oa,rfl,hba,hxa⟩:=Xhea.o k x hx;obtain⟨bb,ob,rfl,hbb,hyb⟩:=Xheb.o k y hy;have f1:=hK.cell hxa trivial;have f2:=hK.cell hyb trivial;simp only [Nat.mul_one]at f1 f2;have hs:=hK.size;have hb1:ba<wr.heap.size:=by omega
    have hb2:bb<wr.heap.size:=by omega
    rw [q0g hx hy]at hall;have hcall:=fun w=>qts x y w;by_cases hxy:qll x y=0
    ·rw [if_pos hxy]at hall;rw [hxy]at hcall;clear hx hy hxy hxa hyb hend;refine hd3 ?_ hall hK hcall;clear hall hK hcall;intro Xhall XhK Xhcall;go_wp2_with fail
     go_quiet ((go_at_call 136;exact Calls.quiet_of_same (Xhcall.o _)))
     go_wp2_with fail;go_roundw
     case rel=>exact⟨k+1,by omega,by omega,by go_num,(by obtain⟨m,h⟩:=XhM.o;rw [h,World.drewN_drewN];exact⟨_,rfl⟩),Xhall.o⟩
     case measure=>simp [intOf];omega
    ·rw [if_neg hxy]at hall;obtain⟨c,hc⟩:=ex (qll x y);rw [hc]at hall hcall hxy;have hne:(c !=0)=true:=by simpa using hxy
     clear hx hy hxy hxa hyb hend hc;refine hd3 ?_ hall hK hcall;clear hall hK hcall;intro Xhall XhK Xhcall;go_wp2_with fail
     go_quiet ((go_at_call 136;exact Calls.quiet_of_same (Xhcall.o _)))
     go_wp2_with fail;go_ret;exact⟨by rw [Xhall.o];try rfl,(by obtain⟨m,h⟩:=XhM.o;rw [h,World.drewN_drewN];exact⟨_,rfl⟩)⟩
   ·have he:=hend (.inr (by omega));rw [if_neg (by omega),if_pos (by omega)]at he;have hlt2:(ys.length:Int)<xs.length:=by omega
    obtain rfl:k=ys.length:=by omega
    clear hall hend hlt hlt';refine hd2 ?_ he hK;clear he hK;intro Xhe XhK;go_wp2_with fail;go_ret;exact⟨by rw [Xhe.o];try rfl,XhM.o⟩
  ·have he:=hend (.inl (by omega));obtain rfl:k=xs.length:=by omega
   by_cases h1:xs.length<ys.length
   ·rw [if_pos h1]at he;have hlt2:(xs.length:Int)<ys.length:=by omega
    clear hall hend hlt h1;refine hd2 ?_ he hK;clear he hK;intro Xhe XhK;go_wp2_with fail;go_ret;exact⟨by rw [Xhe.o];try rfl,XhM.o⟩
   ·rw [if_neg h1,if_neg (by omega)]at he;have hlt2:(xs.length:Int)=ys.length:=by omega
    clear hall hend hlt h1;refine hd2 ?_ he hK;clear he hK;intro Xhe XhK;go_wp2_with fail;go_ret;exact⟨by rw [Xhe.o];try rfl,XhM.o⟩
end Go.Proofs
