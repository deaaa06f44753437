/- Parts of the proof. -/
import Derived.Test.YtnponcjnahicnaaGreatProg
import Derived.Test.YtnponcjnahicnaaGreatRfCToRfE
import Derived.Test.YtnponcjnahicnaaGreatHdToKp
import Derived.Test.YtnponcjnahicnaaGreatHoistToRowC
set_option linter.unusedSimpArgs false
set_option linter.unusedVariables false
open Go.Proofs.Tryz(prog)
open List(append_assoc drop_eq_getElem_cons drop_eq_nil_of_le drop_length flatMap_append flatMap_cons foldl_append getElem?_append_left getElem?_append_right getElem?_eq_getElem length_append length_filter_le length_map mem_flatMap mem_of_getElem? nil_append take_add_one take_append_drop take_length)
namespace Go.Proofs
open Go.RowKit Go.Ink Go.Flt R4 P16
attribute [local go_sem] Oper.semAt_some
def qc3 (r:RuleD):List TermD:=r.head.args++r.body.flatMap qr
def qco (r:RuleD)(k:Nat):List TermD:=r.head.args++(r.body.take k).flatMap qr
theorem qu9 {r:RuleD}{k:Nat}{L:LitD}(h:r.body[k]?=some L):qco r (k+1)=qco r k++qr L:=by
 unfold qco;rw [take_add_one,h,flatMap_append,append_assoc];simp
theorem qoo (r:RuleD)(k:Nat):(qco r k).length<=(qc3 r).length:=by
 unfold qco qc3;rw [length_append,length_append]
 conv=>rhs;rw [←take_append_drop k r.body,flatMap_append,length_append]
 omega
theorem qjj (a b:List TermD):qo (a++b)=qo a++qo b:=by unfold qo;rw [flatMap_append]
theorem q4q {α:Type}{f:α->List Value}{sz:Nat}(hf: ∀x,(f x).length=sz): ∀{xs:List α} {j:Nat} {u:Value},(xs.flatMap f)[j]?=some u-> ∃k i x,j=k*sz+i/\xs[k]?=some x/\(f x)[i]?=some u:=by
 intro xs
 induction xs with
 |nil=>intro j u h;simp at h
 |cons x xs ih=>
  intro j u h;rw [flatMap_cons]at h;by_cases hj:j<sz
  ·rw [getElem?_append_left (by rw [hf];exact hj)]at h;exact⟨0,j,x,by omega,rfl,h⟩
  ·rw [getElem?_append_right (by rw [hf];omega),hf]at h;obtain⟨k,i,y,h1,h2,h3⟩:=ih h;exact⟨k+1,i,y,by rw [Nat.succ_mul];omega,h2,h3⟩
theorem q2c {α:Type}{n sz:Nat}{w:World}{E:World->Nat->Nat->α->Prop}{f:α->List Value}(hf: ∀x,(f x).length=sz){a:Option Addr}{c:Nat}{xs:List α}(h:SliceIn n w sz E (.slice a xs.length c) xs)
  (hE: ∀b o x,E w b o x-> ∀j u,(f x)[j]?=some u->w.cell? ⟨b,o+j,none⟩=some u):
  (∀b,a=some b-> ∀j u,(xs.flatMap f)[j]?=some u->w.cell? (b.add j)=some u)/\(a=none->xs.length=0):=by
 obtain⟨a',c',hv,hl,hc,he⟩:=h;injection hv with h1 h2 h3
 subst h1;refine⟨fun b hb j u hj=>?_,fun h=>?_⟩
 ·obtain⟨k,i,x,rfl,h2,h3⟩:=q4q hf hj;obtain⟨b',o,e,hb',hs⟩:=he k x h2;rw [hb]at e;cases e;rw [show((⟨b',o,none⟩:Addr).add (k*sz+i))=⟨b',o+k*sz+i,none⟩ from by unfold Addr.add;split<;>simp_all [Nat.add_assoc]];exact hE _ _ _ hs _ _ h3
 ·cases hts:xs with
  |nil=>rfl
  |cons x xs=>
   obtain⟨b,o,e,-⟩:=he 0 x (by rw [hts];rfl);rw [h]at e;cases e
theorem qd5 {m:Nat}{w:World}{a:Option Addr}{c:Nat}{ts:List TermD}(h:qak m w (.slice a ts.length c) ts):(∀b,a=some b-> ∀j u,(qo ts)[j]?=some u->w.cell? (b.add j)=some u)/\(a=none->ts.length=0):=
 q2c (f:=fun(t:TermD)=> [.bool t.var,.string t.text]) (fun _=>rfl) h fun b o x hx j u hj=>by
  match j,hj with
  |0,hj=>cases hj;exact hx.1
  |1,hj=>cases hj;exact hx.2
theorem qkv (ts:List TermD): ∀u∈qo ts,u.oneCell'=true:=fun u hu=>by
 unfold qo at hu;obtain⟨t,-,ht⟩:=mem_flatMap.1 hu;simp at ht;rcases ht with rfl |rfl<;>simp [Value.oneCell']
set_option maxRecDepth 100000 in
set_option maxHeartbeats 2000000 in
theorem qva {n:Nat}{r:RuleD}{sh sb:Value}{w:World}(hr:RuleIn n w sh sb r)(hn:n<=w.heap.size)(hN1:(qc3 r).length<=1073741824):
  Calls prog 102 #[qav r sh sb] w fun e w'=> ∃v,e=.returned v/\Keep (fun b=>b<w.heap.size) w w'/\w'.ownsRow w.heap.size 60 2 v (qc3 r).length (qo (qc3 r)):=by
 unfold qav;obtain⟨N,hN⟩:=ex (w.heap.size);have htr:=hr.1;obtain⟨⟨ah,capH,rfl,hlenh,hcaph,helh⟩,⟨ab,capB,rfl,hlenb,hcapb,helb⟩⟩:=id hr;obtain⟨W0,hW0⟩:=ex (w.alloc (.cells #[.string r.head.pred,.slice ah r.head.args.length capH,.slice ab r.body.length capB] 27));have k0:Keep (fun _=>True) w W0:=by rw [←hW0];exact kAl
 have p0:W0.heap[N]?=some (.cells #[.string r.head.pred,.slice ah r.head.args.length capH,.slice ab r.body.length capB] 27 (0,0)):=by rw [←hW0,←hN];exact qh _ _
 have z0:W0.heap.size=N+1:=by rw [←hW0,←hN];simp
 have d0:=qb p0 0 _ rfl;have d1:=qb p0 1 _ rfl;have d2:=qb p0 2 _ rfl;have hbl:=qe p0;simp only [Nat.zero_add]at d0 d1 d2;obtain⟨W1,hW1⟩:=ex (W0.alloc (.cells #[] 60));have k1:Keep (fun _=>True) W0 W1:=by rw [←hW1];exact kAl
 have o1:=qh4 W0 60 2;rw [hW1,z0]at o1;have htw:=qam htr ((k0.trans k1).mono fun _ _ _=>trivial);have hal:=qoo r 0;have ht0:qco r 0=r.head.args:=by unfold qco;simp
 rw [ht0]at hal;obtain⟨v2,W2,hr2,ho2,hg2,hk2⟩:=qje (P:=prog) qhv 22 o1 ah r.head.args.length capH (qo r.head.args) (qa9 _) (qd5 htw).1 (qd5 htw).2 (qkv _) (by omega) (by have:=k1.size;omega);rw [nil_append,Nat.zero_add]at ho2;obtain⟨a2,c2,rfl⟩:=qi ho2;have z1:=k1.size;have hk2':Keep (fun b=>b<N+1) W1 W2:=hk2.mono fun b _ h e=>by
  rcases hg2 b e with h1 |h1
  ·simp [Value.ownBlock]at h1;omega
  ·omega
 have k02:Keep (fun b=>b<N+1) W0 W2:=(k1.mono fun _ _ _=>trivial).trans hk2';clear hg2 hk2 htw o1 htr hk2';refine qq4 ?_ z0 hr helh helb hN hW0 hW1 k0 k1 k02 p0 hr2 ho2 ht0;clear z0 hr helh helb hN hW0 hW1 k0 k1 k02 p0 hr2 ho2 ht0;intro Xz0 Xhr Xhelh Xhelb XhN XhW0 XhW1 Xk0 Xk1 Xk02 Xp0 Xhr2 Xho2 Xht0;refine qbj Tryz.func102 rfl ?_;simp only [Tryz.ntmps102,qdo,Nat.reduceAdd,Nat.reduceSub]
 gi_wp2_with (gi_at_builtin;refine qb6 (v:=.slice (some ⟨w.heap.size+1,0,none⟩) 0 0) (u:=.slice ah r.head.args.length capH) (v':=.slice a2 r.head.args.length c2) (w':=W2) rfl (.tmp 5) (.tmp 8) 22 rfl rfl rfl (by have h:=Xhr2.o;rw [XhW0.o,XhW1.o,XhN.o];exact h) ?_)
 rw [XhN.o];gi_loopw [3,4] (fun v3 ix wr=> ∃(k:Nat),k<=r.body.length/\ix=.int .i64 (k:Int)/\Keep (fun b=>b<N+1) W0 wr/\wr.ownsRow (N+1) 60 2 v3 (qco r k).length (qo (qco r k))) (fun _ i _=>r.body.length-(intOf i).toNat)
 case atStart=>exact⟨0,by omega,rfl,Xk02.o,by rw [Xht0.o];exact Xho2.o⟩
 case round=>
  obtain⟨k,hk,rfl,hK,hO⟩:=hrel;have hbx:=hK.heap Xp0.o (by omega);have e0:=qb hbx 0 _ rfl;have e1:=qb hbx 1 _ rfl;have e2:=qb hbx 2 _ rfl;have hbw0:=qe hbx;simp only [Nat.zero_add]at e0 e1 e2;have hszk:=hK.size;have hk0:(0:Int)<=k:=by omega
  obtain⟨a3,c3,rfl⟩:=qi hO;by_cases hlt:k<r.body.length
  ·have hlt1:(k:Int)<r.body.length:=by omega
   obtain⟨L,hL⟩: ∃L,r.body[k]?=some L:=⟨_,getElem?_eq_getElem hlt⟩;obtain⟨b,off,rfl,hb,sa,hcl,hts⟩:=Xhelb.o k L hL;have kw:Keep (fun b=>b<n) w wr:=(Xk0.o.mono fun _ _ _=>trivial).trans (hK.mono fun b _ h=>by have:=XhN.o;omega);have f0:=kw.cell (hcl 0 _ rfl) hb;have f2:=kw.cell (hcl 2 _ rfl) hb;have f3:=kw.cell (hcl 3 _ rfl) hb;have f4:=kw.cell (hcl 4 _ rfl) hb;have f5:=kw.cell (hcl 5 _ rfl) hb;have f6:=kw.cell (hcl 6 _ rfl) hb;simp only [Nat.add_zero]at f0;have htr:=qam hts kw;have hbw:b<wr.heap.size:=by have:=XhN.o;omega
   have hsn:=qu9 hL;have hll:=qoo r (k+1);obtain⟨asa,csa,rfl,hsl,hsc,hse⟩:=id htr;cases hkind:(L.kind==3) with
   |false=>
    have hlt3:qr L=L.atom.args:=by unfold qr;rw [if_neg (by simpa using hkind)]
    rw [hlt3]at hsn;rw [hsn,length_append]at hll;obtain⟨v',W5,hr5,ho5,hg5,hk5⟩:=qje (P:=prog) qhv 22 hO asa L.atom.args.length csa (qo L.atom.args) (qa9 _) (qd5 htr).1 (qd5 htr).2 (qkv _) (by omega) (by omega);obtain⟨a5,c5,rfl⟩:=qi ho5;have kW:=hK.trans (hk5.mono fun b _ (h:b<N+1) e=>by
     rcases hg5 b e with h1 |h1
     ·exact qfs hO h h1.symm
     ·omega)
    have ho6:W5.ownsRow (N+1) 60 2 (.slice a5 ((qco r k).length+L.atom.args.length) c5) (qco r (k+1)).length (qo (qco r (k+1))):=by
     rw [hsn,qjj,length_append];exact ho5
    clear hL hcl hts htr kw hse hg5 hk5 ho5 hsn f3 f4 f5 f6;refine hd6 ?_ hK hO hbx hr5 kW ho6;clear hK hO hbx hr5 kW ho6;intro XhK XhO Xhbx Xhr5 XkW Xho6
    gi_wp2_with (gi_at_builtin;refine qb6 (v:=.slice a3 (qco r k).length c3) (u:=.slice asa L.atom.args.length csa) (v':=.slice a5 ((qco r k).length+L.atom.args.length) c5) (w':=W5) rfl (.tmp 39) (.tmp 46) 22 rfl rfl rfl Xhr5.o ?_)
    go_roundw
    case rel=>exact⟨k+1,by omega,by go_num,XkW.o,Xho6.o⟩
    case measure=>simp [intOf];omega
   |true=>
    have hlt3:qr L= [L.left,L.right]:=by unfold qr;rw [if_pos (by simpa using hkind)]
    rw [hlt3]at hsn;rw [hsn,length_append]at hll;have h2l: [L.left,L.right].length=2:=rfl;have kd:Keep (fun _=>True) wr wr.drew:=kDr;obtain⟨Wd,hWd⟩:=ex (wr.drew);rw [hWd]at kd;obtain⟨Wb,hWb⟩:=ex (Wd.alloc (.cells #[.bool L.left.var,.string L.left.text,.bool L.right.var,.string L.right.text] 60));have kb:Keep (fun _=>True) Wd Wb:=by rw [←hWb];exact kAl
    have pb:Wb.heap[Wd.heap.size]?=some (.cells #[.bool L.left.var,.string L.left.text,.bool L.right.var,.string L.right.text] 60 (0,0)):=by rw [←hWb];exact qh _ _
    have hO2:=qg hO (kd.trans kb) (fun _ _=>trivial);have hzd:=kd.size;have hzb:=kb.size;obtain⟨v',W5,hr5,ho5,hk5,g5,c5,hv5,hg5,hl5⟩:=app (P:=prog) qhv 22 hO2 ⟨Wd.heap.size,0,none⟩ 2 2 (qo [L.left,L.right]) rfl (fun j u hj=>by
     have:=qb pb j u (by
      rw [show(qo [L.left,L.right])= [Value.bool L.left.var,.string L.left.text,.bool L.right.var,.string L.right.text]from rfl]at hj;exact hj)
     rw [show((⟨Wd.heap.size,0,none⟩:Addr).add j)=⟨Wd.heap.size,0+j,none⟩ from by unfold Addr.add;split<;>simp_all];exact this) (qkv _) (by omega) (by omega) (by omega)
    subst hv5;have kW:=hK.trans ((kd.trans kb).mono (fun _ _ _=>trivial) |>.trans (hk5.mono fun b _ (h:b<N+1)=>qfs hO2 h));have ho6:W5.ownsRow (N+1) 60 2 (.slice (some ⟨g5,0,none⟩) ((qco r k).length+2) c5) (qco r (k+1)).length (qo (qco r (k+1))):=by
     rw [hsn,qjj,length_append];exact ho5
    have hS0:Wd.cell? ⟨N,2,none⟩=some (.slice (some ⟨b,off,none⟩) r.body.length capB)/\Wd.cell? ⟨b,off+k*7+3,none⟩=some (.bool L.left.var)/\Wd.cell? ⟨b,off+k*7+4,none⟩=some (.string L.left.text)/\Wd.cell? ⟨b,off+k*7+5,none⟩=some (.bool L.right.var)/\Wd.cell? ⟨b,off+k*7+6,none⟩=some (.string L.right.text):=
     ⟨kd.cell e2 trivial,kd.cell f3 trivial,kd.cell f4 trivial,kd.cell f5 trivial,kd.cell f6 trivial⟩
    have k5n:Keep (fun b=>b<N+1) Wb W5:=hk5.mono fun b _ (h:b<N+1)=>qfs hO2 h;have hS1:Wb.cell? ⟨N,2,none⟩=some (.slice (some ⟨b,off,none⟩) r.body.length capB)/\Wb.cell? ⟨b,off+k*7+3,none⟩=some (.bool L.left.var)/\Wb.cell? ⟨b,off+k*7+4,none⟩=some (.string L.left.text)/\Wb.cell? ⟨b,off+k*7+5,none⟩=some (.bool L.right.var)/\Wb.cell? ⟨b,off+k*7+6,none⟩=some (.string L.right.text):=
     ⟨kb.cell hS0.1 trivial,kb.cell hS0.2.1 trivial,kb.cell hS0.2.2.1 trivial,kb.cell hS0.2.2.2.1 trivial,kb.cell hS0.2.2.2.2 trivial⟩
    have hbN:b<N+1:=by have:=XhN.o;omega
    have hS2:W5.cell? ⟨N,2,none⟩=some (.slice (some ⟨b,off,none⟩) r.body.length capB)/\W5.cell? ⟨b,off+k*7+3,none⟩=some (.bool L.left.var)/\W5.cell? ⟨b,off+k*7+4,none⟩=some (.string L.left.text)/\W5.cell? ⟨b,off+k*7+5,none⟩=some (.bool L.right.var)/\W5.cell? ⟨b,off+k*7+6,none⟩=some (.string L.right.text):=
     ⟨k5n.cell hS1.1 (show N<N+1 by omega),k5n.cell hS1.2.1 hbN,k5n.cell hS1.2.2.1 hbN,k5n.cell hS1.2.2.2.1 hbN,k5n.cell hS1.2.2.2.2 hbN⟩
    have hbd:b<Wd.heap.size:=by omega
    have hNd:N<Wd.heap.size:=by omega
    clear hL hcl hts htr kw hse hk5 ho5 hsn hg5 hO2 pb k5n;refine qc9 ?_ hK hO hbx hr5 kW ho6 hS0 hS1 hS2 hWd hWb kd kb f3 f4 f5;clear hK hO hbx hr5 kW ho6 hS0 hS1 hS2 hWd hWb kd kb f3 f4 f5;intro XhK XhO Xhbx Xhr5 XkW Xho6 XhS0 XhS1 XhS2 XhWd XhWb Xkd Xkb Xf3 Xf4 Xf5;refine hd1 ?_ f6;clear f6;intro Xf6;gi_wp2;refine qaa ?_;refine qy rfl (fun X=>X.cell? ⟨N,2,none⟩=some (.slice (some ⟨b,off,none⟩) r.body.length capB)/\X.cell? ⟨b,off+k*7+3,none⟩=some (.bool L.left.var)/\X.cell? ⟨b,off+k*7+4,none⟩=some (.string L.left.text)/\X.cell? ⟨b,off+k*7+5,none⟩=some (.bool L.right.var)/\X.cell? ⟨b,off+k*7+6,none⟩=some (.string L.right.text)) [] ?_;rw [XhWd.o];refine qag [0,1,2,3,4,5,6,7,8,9,10,11,12] ?_
    iterate 13
     refine tkR (v:=?_) rfl XhS0.o ?_ ?_;rotate_left
     ·rintro Wq ⟨x1,x2,x3,x4,x5⟩;go_simp
      try with_reducible rfl
     try simp only [qah]
    refine qw ?_;refine hoR 13 rfl fun K XhK0=>?_;gi_wp2;rw [XhWb.o];refine XhK0.o _ _ (fun _=>XhS1.o) ?_;refine hoR 14 rfl fun K XhK1=>?_;refine qb6 rfl (.tmp 24) (.tmp 37) 22 rfl rfl rfl Xhr5.o ?_;gi_wp2;refine XhK1.o _ _ (fun _=>XhS2.o) ?_;refine hoR 15 rfl fun K XhK2=>?_;gi_wp2;refine XhK2.o _ _ (fun _=>XhS2.o) ?_;refine qj (by kernel_rfl) (ql ?_);clear XhK0 XhK1 XhK2;gi_wp2;go_roundw
    case rel=>exact⟨k+1,by omega,by go_num,XkW.o,Xho6.o⟩
    case measure=>simp [intOf];omega
  ·obtain rfl:k=r.body.length:=by omega
   have hfin:qco r r.body.length=qc3 r:=by unfold qco qc3;rw [take_length]
   have hE:Keep (fun b=>b<N) w wr:=(Xk0.o.mono fun _ _ _=>trivial).trans (hK.mono fun b _ h=>by omega);clear hlt;refine hd5 ?_ hK hO hE hbx hfin;clear hK hO hE hbx hfin;intro XhK XhO XhE Xhbx Xhfin;gi_wp2;refine bodyPost_ret (results_tmp rfl _ _ _) rfl ?_;exact⟨_,rfl,by rw [XhN.o];exact XhE.o,by rw [XhN.o];rw [←Xhfin.o];exact XhO.o.mono (show N<=N+1 by omega)⟩
def qg8 (r:RuleD):List ByteArray:=(qac (qc3 r)).foldl qq []
theorem qgx {w:World}{base:Nat}{e:TypeId}{v:Value}{n:Nat}{ts:List TermD}(h:w.ownsRow base e 2 v n (qo ts))(hn:n=ts.length)(hb:ts.length<=1073741824):qak w.heap.size w v ts:=
 qdw h ts hn hb TermE fun b k t ht hc=>by
  have hk: ∀j,j<2->(qo ts)[k*2+j]?=([Value.bool t.var,.string t.text]:List Value)[j]?:=fun j hj=>qbc (fun(t:TermD)=> [Value.bool t.var,.string t.text]) 2 (fun _=>rfl) _ k j t ht hj;exact⟨by have:=hc 0 (by omega);rw [hk 0 (by omega)] at this;exact this,by have:=hc 1 (by omega);rw [hk 1 (by omega)] at this;exact this⟩
set_option maxRecDepth 100000 in
set_option maxHeartbeats 2000000 in
theorem qwr {n:Nat}{r:RuleD}{sh sb:Value}{w:World}(hr:RuleIn n w sh sb r)(hn:n<=w.heap.size)(hN1:(qc3 r).length<=1073741824):
  Calls prog 63 #[qav r sh sb] w fun e w'=> ∃v,e=.returned v/\Keep (fun b=>b<w.heap.size) w w'/\w'.ownsRow w.heap.size 9 1 v (qg8 r).length ((qg8 r).map .string):=by
 obtain⟨N,hN⟩:=ex (w.heap.size);obtain⟨W0,hW0⟩:=ex (w.alloc (.cells #[.string r.head.pred,sh,sb] 27));have k0:Keep (fun _=>True) w W0:=by rw [←hW0];exact kAl
 have p0:W0.heap[N]?=some (.cells #[.string r.head.pred,sh,sb] 27 (0,0)):=by rw [←hW0,←hN];exact qh _ _
 have z0:W0.heap.size=N+1:=by rw [←hW0,←hN];simp
 have hcall:=qva (w:=W0) (hr.keep (k0.mono fun _ _ _=>trivial)) (by omega) hN1;have d0:=qb p0 0 _ rfl;have d1:=qb p0 1 _ rfl;have d2:=qb p0 2 _ rfl;have hbl:=qe p0;simp only [Nat.zero_add]at d0 d1 d2;unfold qav at hcall⊢;obtain⟨⟨ah,capH,rfl,hlenh,hcaph,helh⟩,⟨ab,capB,rfl,hlenb,hcapb,helb⟩⟩:=id hr;obtain⟨ts,hts⟩:=ex (qc3 r);have hvf:qg8 r=(qac ts).foldl qq []:=by unfold qg8;rw [hts]
 rw [hts]at hcall hN1;refine hd9 ?_ hr hN hW0 k0 p0 hcall hvf helh helb;clear hr hN hW0 k0 p0 hcall hvf helh helb;intro Xhr XhN XhW0 Xk0 Xp0 Xhcall Xhvf Xhelh Xhelb
 go_enter Tryz.func63,Tryz.ntmps63
 go_wp2_with fail;rw [XhW0.o];refine Xhcall.o.mono ?_;rintro e W1 ⟨v,rfl,k1,hO⟩;have z1:=k1.size;have hA:=qgx hO rfl hN1;obtain⟨av,cv,rfl,-,hcv,hel⟩:=id hA;obtain⟨M,hM⟩:=ex (W1.heap.size);have hNM:N+1<=M:=by omega
 rw [hM]at hel;rw [XhN.o];clear hO hA;refine hd3 ?_ k1 hel hM;clear k1 hel hM;intro Xk1 Xhel XhM;go_wp2_with fail
 go_loopw [4,5] (fun v4 ix wr=> ∃(k:Nat),k<=ts.length/\ix=.int .i64 (k:Int)/\Keep (fun b=>b<M) W1 wr/\wr.ownsRow M 9 1 v4 ((qac (ts.take k)).foldl qq []).length (((qac (ts.take k)).foldl qq []).map .string)) (fun _ i _=>ts.length-(intOf i).toNat)
 case atStart=>exact⟨0,by omega,rfl,Keep.refl _ _,World.ownsRow_nil _ _ _ _⟩
 case round=>
  obtain⟨j,hj,rfl,hJ,hO2⟩:=hrel;have hszj:=hJ.size;have hj0:(0:Int)<=j:=by omega
  by_cases hjt:j<ts.length
  ·have hjt1:(j:Int)<ts.length:=by omega
   obtain⟨u,hu⟩: ∃u,ts[j]?=some u:=⟨_,getElem?_eq_getElem hjt⟩;obtain⟨bt,ot,rfl,hbt,ht0,ht1⟩:=Xhel.o j u hu;have q0:=hJ.cell ht0 (show bt<M by omega);have q1:=hJ.cell ht1 (show bt<M by omega);have hbtw:bt<wr.heap.size:=by have:=XhM.o;omega
   have hll:=qeh (qac (ts.take j)) [];have hvl:=qln ts j;have hvl2:(qac ts).length<=ts.length:=by unfold qac;rw [length_map];exact length_filter_le _ _
   have hl0:([]:List ByteArray).length=0:=rfl;cases huv:u.var with
   |false=>
    rw [huv]at q0;have hno:=qu7 hu huv;clear ht0 ht1 hu huv;refine hd3 ?_ hJ hO2 hno;clear hJ hO2 hno;intro XhJ XhO2 Xhno;go_wp2_with fail;go_roundw
    case rel=>exact⟨j+1,by omega,by go_num,XhJ.o,by rw [Xhno.o];exact XhO2.o⟩
    case measure=>simp [intOf];omega
   |true=>
    rw [huv]at q0;have hyes:(qac (ts.take (j+1))).foldl qq []=qq ((qac (ts.take j)).foldl qq []) u.text:=by rw [qsj hu huv,foldl_append];rfl
    have hS:=qcw hO2 (by omega);obtain⟨ss,hss⟩:=ex ((qac (ts.take j)).foldl qq []);rw [hss]at hO2 hyes hS hll;clear ht0 ht1 hu huv hss;refine hd4 ?_ hJ hO2 hyes hS;clear hJ hO2 hyes hS;intro XhJ XhO2 Xhyes XhS;go_wp2_with fail;refine(qng wr.heap.size _ ss u.text _ XhS.o (Nat.le_refl _)).mono ?_;rintro e W3 ⟨i,rfl,hw3,hi1,hi2,hin⟩;subst hw3;by_cases hneg:i<0
    ·have hout:=hin.1 hneg;have htk2:(qac (ts.take (j+1))).foldl qq []=ss++ [u.text]:=Xhyes.o.trans (if_neg hout);obtain⟨v',W4,hr2,ho2,hk2,g2,cap2,hv2,hg2,hl2⟩:=qc7 qfu 46 XhO2.o [.string u.text] rfl (by simp [Value.oneCell']) (by omega) (by have:=XhM.o;omega);subst hv2;have kW:=XhJ.o.trans (hk2.mono fun b _ (h:b<M)=>qfs XhO2.o h);have ho3:W4.ownsRow M 9 1 (.slice (some ⟨g2,0,none⟩) (ss.length+1) cap2) ((qac (ts.take (j+1))).foldl qq []).length (((qac (ts.take (j+1))).foldl qq []).map .string):=by
      rw [htk2]
      simpa using ho2
     clear hin hout htk2 ho2 hk2 hg2 hl2;refine hd3 ?_ hr2 kW ho3;clear hr2 kW ho3;intro Xhr2 XkW Xho3;go_wp2_with (at_builtin;refine qcs rfl _ _ _ rfl rfl rfl Xhr2.o ?_);go_roundw
     case rel=>exact⟨j+1,by omega,by go_num,XkW.o,Xho3.o⟩
     case measure=>simp [intOf];omega
    ·have hout:u.text∈ss:=by
      by_cases h:u.text∈ss
      ·exact h
      ·exact absurd (hin.2 h) hneg
     have htk2:(qac (ts.take (j+1))).foldl qq []=ss:=Xhyes.o.trans (if_pos hout);clear hin hout;refine hd1 ?_ htk2;clear htk2;intro Xhtk2;go_wp2_with fail;go_roundw
     case rel=>exact⟨j+1,by omega,by go_num,XhJ.o,by rw [Xhtk2.o];exact XhO2.o⟩
     case measure=>simp [intOf];omega
  ·obtain rfl:j=ts.length:=by omega
   rw [take_length,←Xhvf.o]at hO2;have hE:Keep (fun b=>b<N) w wr:=(Xk0.o.mono fun _ _ _=>trivial).trans ((Xk1.o.trans (hJ.mono fun b _ h=>by omega)).mono fun b _ h=>by omega);clear hjt;refine hd3 ?_ hJ hO2 hE;clear hJ hO2 hE;intro XhJ XhO2 XhE;go_wp2_with fail;go_ret;exact⟨_,rfl,by rw [XhN.o];exact XhE.o,by rw [XhN.o];exact XhO2.o.mono (show N<=M by omega)⟩
def qhn (l:List ByteArray):Bool:=l.any fun x=>decide (64<=x.size)
set_option maxRecDepth 100000 in
set_option maxHeartbeats 2000000 in
theorem q4r {n:Nat}{r:RuleD}{sh sb:Value}{w:World}(hr:RuleIn n w sh sb r)(hn:n<=w.heap.size)(hN1:(qc3 r).length<=1073741824):
  Calls prog 23 #[qav r sh sb] w fun e w'=>e=.returned (.bool (qhn (qg8 r)))/\Keep (fun b=>b<w.heap.size) w w':=by
 obtain⟨N,hN⟩:=ex (w.heap.size);obtain⟨W0,hW0⟩:=ex (w.alloc (.cells #[.string r.head.pred,sh,sb] 27));have k0:Keep (fun _=>True) w W0:=by rw [←hW0];exact kAl
 have p0:W0.heap[N]?=some (.cells #[.string r.head.pred,sh,sb] 27 (0,0)):=by rw [←hW0,←hN];exact qh _ _
 have z0:W0.heap.size=N+1:=by rw [←hW0,←hN];simp
 have hcall:=qwr (w:=W0) (hr.keep (k0.mono fun _ _ _=>trivial)) (by omega) hN1;have d0:=qb p0 0 _ rfl;have d1:=qb p0 1 _ rfl;have d2:=qb p0 2 _ rfl;have hbl:=qe p0;simp only [Nat.zero_add]at d0 d1 d2;unfold qav at hcall⊢;obtain⟨⟨ah,capH,rfl,hlenh,hcaph,helh⟩,⟨ab,capB,rfl,hlenb,hcapb,helb⟩⟩:=id hr;obtain⟨vs,hvs⟩:=ex (qg8 r);have hvl:vs.length<=1073741824:=by
  rw [←hvs];have h1:=qeh (qac (qc3 r)) [];have h2:(qac (qc3 r)).length<=(qc3 r).length:=by unfold qac;rw [length_map];exact length_filter_le _ _
  have hl0:([]:List ByteArray).length=0:=rfl;unfold qg8;omega
 rw [hvs]at hcall⊢;refine hd9 ?_ hr hN hW0 k0 p0 hcall hvs helh helb;clear hr hN hW0 k0 p0 hcall hvs helh helb;intro Xhr XhN XhW0 Xk0 Xp0 Xhcall Xhvs Xhelh Xhelb
 go_enter Tryz.func23,Tryz.ntmps23
 go_wp2_with fail;rw [XhW0.o];refine Xhcall.o.mono ?_;rintro e W1 ⟨v,rfl,k1,hO⟩;have z1:=k1.size;have hA:=qcw hO hvl;obtain⟨av,cv,rfl,-,hcv,hel⟩:=id hA;have hE:Keep (fun b=>b<N) w W1:=(Xk0.o.mono fun _ _ _=>trivial).trans (k1.mono fun b _ h=>by omega);rw [XhN.o];clear hO hA k1;refine hd2 ?_ hel hE;clear hel hE;intro Xhel XhE;go_wp2_with fail
 go_loopw [4] (fun ix wr=> ∃(k:Nat),k<=vs.length/\ix=.int .i64 (k:Int)/\wr=W1/\qhn vs=qhn (vs.drop k)) (fun i _=>vs.length-(intOf i).toNat)
 case atStart=>exact⟨0,by omega,rfl,rfl,rfl⟩
 case round=>
  obtain⟨j,hj,rfl,rfl,hlg⟩:=hrel;have hj0:(0:Int)<=j:=by omega
  by_cases hjt:j<vs.length
  ·have hjt1:(j:Int)<vs.length:=by omega
   obtain⟨u,hu⟩: ∃u,vs[j]?=some u:=⟨_,getElem?_eq_getElem hjt⟩;obtain⟨bt,ot,rfl,hbt,ht0⟩:=Xhel.o j u hu;have q0:wr.cell? ⟨bt,ot+j*1,none⟩=some (.string u):=ht0;simp only [Nat.mul_one]at q0;have hdr:qhn (vs.drop j)=(decide (64<=u.size) ||qhn (vs.drop (j+1))):=by
    obtain⟨h1,e1⟩:=List.getElem?_eq_some_iff.1 hu;rw [drop_eq_getElem_cons h1,e1];rfl
   rw [hdr]at hlg;by_cases hbig:64<=u.size
   ·have hbig1:(64:Int)<=u.size:=by omega
    have hlg2:qhn vs=true:=by rw [hlg,decide_eq_true hbig];rfl
    clear hlg hdr ht0 hu;refine hd1 ?_ hlg2;clear hlg2;intro Xhlg2;go_wp2_with fail;go_ret;exact⟨by rw [Xhlg2.o];try rfl,by rw [XhN.o];exact XhE.o⟩
   ·have hbig1:(u.size:Int)<64:=by omega
    have hlg2:qhn vs=qhn (vs.drop (j+1)):=by rw [hlg,decide_eq_false hbig];rfl
    clear hlg hdr ht0 hu;refine hd1 ?_ hlg2;clear hlg2;intro Xhlg2;go_wp2_with fail;go_roundw
    case rel=>exact⟨j+1,by omega,by go_num,trivial,Xhlg2.o⟩
    case measure=>simp [intOf];omega
  ·obtain rfl:j=vs.length:=by omega
   have hlg2:qhn vs=false:=by rw [hlg,drop_length];rfl
   clear hjt hlg;refine hd1 ?_ hlg2;clear hlg2;intro Xhlg2;go_wp2_with fail;go_ret;exact⟨by rw [Xhlg2.o];try rfl,by rw [XhN.o];exact XhE.o⟩
theorem qmu {fs:List qm}{k:Nat}{f:qm}(h:fs[k]?=some f)(l:List ByteArray):qcj (fs.drop k) l=if l.length<=400 then qcj (fs.drop (k+1)) (qp5 l f) else l:=by
 obtain⟨h1,e1⟩:=List.getElem?_eq_some_iff.1 h;rw [drop_eq_getElem_cons h1,e1];rfl
set_option maxRecDepth 100000 in
set_option maxHeartbeats 2000000 in
theorem q4s {n:Nat}{r:RuleD}{sh sb v:Value}{fs:List qm}{w:World}(hr:RuleIn n w sh sb r)(hf:FactsIn n w v fs)(hn:n<=w.heap.size)(hN1:r.stands.length<=1073741824)(htl: ∀f,f∈fs->f.tuple.length<=1073741424):
  Calls prog 7 #[qav r sh sb,v] w fun e w'=>e=.returned (.bool (qh7 r fs))/\Keep (fun b=>b<w.heap.size) w w':=by
 obtain⟨N,hN⟩:=ex (w.heap.size);obtain⟨W0,hW0⟩:=ex (w.alloc (.cells #[.string r.head.pred,sh,sb] 27));have k0:Keep (fun _=>True) w W0:=by rw [←hW0];exact kAl
 have p0:W0.heap[N]?=some (.cells #[.string r.head.pred,sh,sb] 27 (0,0)):=by rw [←hW0,←hN];exact qh _ _
 have z0:W0.heap.size=N+1:=by rw [←hW0,←hN];simp
 have hr0:=hr.keep (k0.mono fun _ _ _=>trivial);obtain⟨af,cf,rfl,hlf,hcf,hef⟩:=id hf;have hchv:=fun(many:Nat) (X:World) (hX:RuleIn n X sh sb r) (hnX:n<=X.heap.size) (hm:many<=1000000)=>qwq (w:=X) (many:=many) hX hnX hN1 hm;unfold qav at hchv⊢;obtain⟨⟨ah,capH,rfl,hlenh,hcaph,helh⟩,⟨ab,capB,rfl,hlenb,hcapb,helb⟩⟩:=id hr;by_cases hbig:400<fs.length
 ·have hv:qh7 r fs=true:=by unfold qh7;rw [if_pos hbig]
  have hbig1:(400:Int)<fs.length:=by omega
  refine qoy ?_ hr hf hN hW0 k0 p0 hr0 hef htl hchv helh helb hv;clear hr hf hN hW0 k0 p0 hr0 hef htl hchv helh helb hv;intro Xhr Xhf XhN XhW0 Xk0 Xp0 Xhr0 Xhef Xhtl Xhchv Xhelh Xhelb Xhv
  go_enter Tryz.func7,Tryz.ntmps7
  go_wp2_with fail;go_ret;exact⟨by rw [Xhv.o];try rfl,kAl⟩
 ·have hv:qh7 r fs=(decide (400<(qcj fs []).length) ||qer r (qcj fs []).length):=by unfold qh7;rw [if_neg hbig]
  have hbig1:(fs.length:Int)<=400:=by omega
  refine qoy ?_ hr hf hN hW0 k0 p0 hr0 hef htl hchv helh helb hv;clear hr hf hN hW0 k0 p0 hr0 hef htl hchv helh helb hv;intro Xhr Xhf XhN XhW0 Xk0 Xp0 Xhr0 Xhef Xhtl Xhchv Xhelh Xhelb Xhv
  go_enter Tryz.func7,Tryz.ntmps7
  go_wp2_with fail;rw [XhW0.o,XhN.o]
  go_loopw [5,6] (fun v5 ix wr=> ∃(k:Nat) (l:List ByteArray),k<=fs.length/\ix=.int .i64 (k:Int)/\Keep (fun b=>b<N+1) W0 wr/\wr.ownsRow (N+1) 9 1 v5 l.length (l.map .string)/\l.length<=1073741824/\qcj fs []=qcj (fs.drop k) l) (fun _ i _=>fs.length-(intOf i).toNat)
  case atStart=>exact⟨0,[],by omega,rfl,Keep.refl _ _,World.ownsRow_nil _ _ _ _,by simp,rfl⟩
  case round=>
   obtain⟨k,l,hk,rfl,hK,hO,hll,hat⟩:=hrel;have hbx:=hK.heap Xp0.o (by omega);have d0:=qb hbx 0 _ rfl;have d1:=qb hbx 1 _ rfl;have d2:=qb hbx 2 _ rfl;have hbl:=qe hbx;simp only [Nat.zero_add]at d0 d1 d2;have hszk:=hK.size;have hk0:(0:Int)<=k:=by omega
   obtain⟨al,cl,rfl⟩:=qi hO;have kw:Keep (fun b=>b<N) w wr:=(Xk0.o.mono fun _ _ _=>trivial).trans (hK.mono fun b _ h=>by omega);have hEnd:(k=fs.length∨400<l.length)->qcj fs []=l:=fun h=>by
    rcases h with rfl |h
    ·rw [hat,drop_length];rfl
    ·rw [hat];by_cases hk2:k<fs.length
     ·obtain⟨f,hfk⟩: ∃f,fs[k]?=some f:=⟨_,getElem?_eq_getElem hk2⟩;rw [qmu hfk,if_neg (by omega)]
     ·rw [drop_eq_nil_of_le (by omega)];rfl
   by_cases hmany:400<l.length
   ·have hfin:qh7 r fs=true:=by rw [Xhv.o,hEnd (.inr hmany),decide_eq_true hmany];rfl
    have hm1:(400:Int)<l.length:=by omega
    by_cases hlt:k<fs.length
    ·have hlt1:(k:Int)<fs.length:=by omega
     clear hEnd hat;refine hd5 ?_ hfin hK hO kw hbx;clear hfin hK hO kw hbx;intro Xhfin XhK XhO Xkw Xhbx;go_wp2_with fail;go_ret;exact⟨by rw [Xhfin.o];try rfl,by rw [XhN.o];exact Xkw.o⟩
    ·obtain rfl:k=fs.length:=by omega
     clear hEnd hat hlt;refine hd5 ?_ hfin hK hO kw hbx;clear hfin hK hO kw hbx;intro Xhfin XhK XhO Xkw Xhbx;go_wp2_with fail;go_ret;exact⟨by rw [Xhfin.o];try rfl,by rw [XhN.o];exact Xkw.o⟩
   ·have hm1:(l.length:Int)<=400:=by omega
    by_cases hlt:k<fs.length
    ·have hlt1:(k:Int)<fs.length:=by omega
     obtain⟨f,hfk⟩: ∃f,fs[k]?=some f:=⟨_,getElem?_eq_getElem hlt⟩;obtain⟨b,o,rfl,hb,sv,hcl,hsv⟩:=Xhef.o k f hfk;have kn:Keep (fun b=>b<n) w wr:=kw.mono fun b _ h=>by have:=XhN.o;omega
     have f0:=kn.cell (hcl 0 _ rfl) hb;have f1:=kn.cell (hcl 1 _ rfl) hb;simp only [Nat.add_zero]at f0;have hbw:b<wr.heap.size:=by have:=XhN.o;omega
     have htu:=Xhtl.o f (mem_of_getElem? hfk);have hcall:=qu4 (n:=n) f.pred hO (qck hsv kn) (by have:=XhN.o;omega) (by omega) (by omega);have hlen2:=qeh f.tuple l;rw [qmu hfk,if_pos (by omega)]at hat;obtain⟨l2,hl2⟩:=ex (f.tuple.foldl qq l);unfold qp5 at hat;rw [hl2]at hat hcall hlen2;obtain⟨sa,sc,rfl,hsl,-,-⟩:=id hsv;clear hcl hsv hfk kn hEnd hl2;refine hd6 ?_ hat hK hO kw hbx hcall;clear hat hK hO kw hbx hcall;intro Xhat XhK XhO Xkw Xhbx Xhcall;go_wp2_with fail;refine Xhcall.o.mono ?_;rintro e W2 ⟨v',rfl,k2,o2⟩;have hK2:=XhK.o.trans k2;obtain⟨a2,c2,rfl⟩:=qi o2;have hl2b:l2.length<=1073741824:=by omega
     clear k2;refine hd2 ?_ hK2 o2;clear hK2 o2;intro XhK2 Xo2;go_wp2_with fail;go_roundw
     case rel=>exact⟨k+1,l2,by omega,by go_num,XhK2.o,Xo2.o,hl2b,Xhat.o⟩
     case measure=>simp [intOf];omega
    ·obtain rfl:k=fs.length:=by omega
     have hfin:qh7 r fs=qer r l.length:=by rw [Xhv.o,hEnd (.inl rfl),decide_eq_false hmany];rfl
     have hcall:=Xhchv.o l.length wr (Xhr.o.keep (kw.mono fun b _ h=>by have:=XhN.o;omega)) (by have:=XhN.o;omega) (by omega);obtain⟨c,hc⟩:=ex (qer r l.length);rw [hc]at hfin hcall;clear hEnd hat hlt;refine hd6 ?_ hfin hK hO kw hbx hcall;clear hfin hK hO kw hbx hcall;intro Xhfin XhK XhO Xkw Xhbx Xhcall;go_wp2_with fail;refine Xhcall.o.mono ?_;rintro e W2 ⟨rfl,k2⟩;have hE:=Xkw.o.trans (k2.mono fun b _ h=>by omega);clear k2;refine hd1 ?_ hE;clear hE;intro XhE;go_wp2_with fail;go_ret;have hm2:decide ((400:Int)<l.length)=false:=by simp;omega
     refine⟨?_,by rw [XhN.o];exact XhE.o⟩;rw [Xhfin.o];show Ending.returned (Value.bool (decide ((400:Int)<l.length) ||c))=_;rw [hm2]
     rfl
end Go.Proofs
