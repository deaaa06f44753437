/- Parts of the proof. -/
import Derived.Test.YtnponcjnahicnaaGreatProg
import Derived.Test.YtnponcjnahicnaaGreatRfJToRfK
import Derived.Test.YtnponcjnahicnaaGreatKtBToLwD
import Derived.Test.YtnponcjnahicnaaGreatEcDToCmB
import Derived.Laws.Concat
import Derived.Test.YtnponcjnahicnaaGreatHdToKp
import Derived.Test.YtnponcjnahicnaaGreatRoBToCmF
import Derived.Test.YtnponcjnahicnaaGreatJnDToJnE
import Derived.Test.YtnponcjnahicnaaGreatRfCToRfG
set_option linter.unusedSimpArgs false
set_option linter.unusedVariables false
open Go.Proofs.Tryz(prog)
open List(append_nil flatMap_append getD_eq_getElem?_getD getElem?_eq_getElem getElem?_map getElem_mem length_append length_map length_singleton length_take map_append mem_append mem_cons mem_cons_of_mem mem_cons_self mem_filter mem_flatMap mem_iff_getElem? mem_map mem_of_getElem? mem_of_mem_take mem_range mem_singleton not_mem_nil pairwise_append pairwise_pair take_add_one take_length)
namespace Go.Proofs
open Go.RowKit Go.Ink Go.Flt R4 P16
def ApartV (v u:Value):Prop:= ∀b,v.ownBlock=some b->u.ownBlock≠some b
theorem ApartV.symm {v u:Value}(h:ApartV v u):ApartV u v:=fun b hb hv=>h b hv hb
structure MqsAt (P:Nat->Prop)(w:World)(v:Value)(qs:List MQ):Prop where
 own:w.ownsRow 0 48 2 v qs.length (qs.flatMap qal)
 blk: ∀b,v.ownBlock=some b->P b
 rows: ∀q,q∈qs->w.ownsRow 0 9 1 q.2.1 q.1.head.length (q.1.head.map .string)/\w.ownsRow 0 9 1 q.2.2 q.1.vals.length (q.1.vals.map .string)
 blks: ∀q,q∈qs->(∀b,q.2.1.ownBlock=some b->P b)/\ ∀b,q.2.2.ownBlock=some b->P b
 apart:(qs.flatMap qal).Pairwise ApartV
theorem MqsAt.keep {P P' C:Nat->Prop}{w w':World}{v:Value}{qs:List MQ}(h:MqsAt P w v qs)(hK:Keep C w w')(hC: ∀b,b<w.heap.size->P b->C b/\P' b):MqsAt P' w' v qs:=
 ⟨qg h.own hK (fun b hb=>(hC b (World.ownsRow.lt h.own b hb).2 (h.blk b hb)).1),fun b hb=>(hC b (World.ownsRow.lt h.own b hb).2 (h.blk b hb)).2,
  fun q hq=>⟨qg (h.rows q hq).1 hK (fun b hb=>(hC b (World.ownsRow.lt (h.rows q hq).1 b hb).2 ((h.blks q hq).1 b hb)).1),qg (h.rows q hq).2 hK (fun b hb=>(hC b (World.ownsRow.lt (h.rows q hq).2 b hb).2 ((h.blks q hq).2 b hb)).1)⟩,
  fun q hq=>⟨fun b hb=>(hC b (World.ownsRow.lt (h.rows q hq).1 b hb).2 ((h.blks q hq).1 b hb)).2,fun b hb=>(hC b (World.ownsRow.lt (h.rows q hq).2 b hb).2 ((h.blks q hq).2 b hb)).2⟩,h.apart⟩
theorem qwz {P:Nat->Prop}(w:World):MqsAt P w (.slice none 0 0) []:=
 ⟨World.ownsRow_nil _ _ _ _,fun b hb=>(by simp [Value.ownBlock] at hb),fun q hq=>(by cases hq),fun q hq=>(by cases hq),.nil⟩
theorem MqsAt.lt {P:Nat->Prop}{w:World}{v:Value}{qs:List MQ}(h:MqsAt P w v qs): ∀x,x∈qs.flatMap qal-> ∀b,x.ownBlock=some b->b<w.heap.size:=fun x hx b hb=>by
 obtain⟨q,hq,hx⟩:=mem_flatMap.1 hx;unfold qal at hx;simp only [mem_cons,not_mem_nil,or_false]at hx;rcases hx with rfl |rfl
 ·exact(World.ownsRow.lt (h.rows q hq).1 b hb).2
 ·exact(World.ownsRow.lt (h.rows q hq).2 b hb).2
theorem MqsAt.mq {P:Nat->Prop}{w:World}{v:Value}{qs:List MQ}(h:MqsAt P w v qs)(hl:qs.length<=1073741824)(hr: ∀q,q∈qs->q.1.head.length<=1073741824/\q.1.vals.length<=1073741824):quv w.heap.size w v qs/\ ∀q,q∈qs->MqOk w.heap.size w q:=
 ⟨qp9 h.own rfl hl,fun q hq=>⟨qcn (h.rows q hq).1 (hr q hq).1,qcn (h.rows q hq).2 (hr q hq).2⟩⟩
theorem MqsAt.perm {P P':Nat->Prop}{w w':World}{v v':Value}{qs os:List MQ}{base:Nat}{C:Nat->Prop}(h:MqsAt P w v qs)(hK:Keep C w w')(hC: ∀b,b<w.heap.size->P b->C b/\P' b)(ho:w'.ownsRow base 48 2 v' os.length (os.flatMap qal))(hb: ∀b,base<=b->P' b)(hp:os.Perm qs):MqsAt P' w' v' os:=by
 have h':=h.keep hK hC;exact⟨ho.mono (Nat.zero_le _),fun b hv=>hb b (World.ownsRow.lt ho b hv).1,fun q hq=>h'.rows q (hp.mem_iff.1 hq),fun q hq=>h'.blks q (hp.mem_iff.1 hq),
  (List.Perm.pairwise_iff (fun h=>ApartV.symm h) (hp.flatMap_right qal)).2 h'.apart⟩
theorem MqsAt.snoc {P:Nat->Prop}{w:World}{v:Value}{qs:List MQ}(h:MqsAt P w v qs){m:qad}{vh vv:Value}{n:Nat}(h1:w.ownsRow n 9 1 vh m.head.length (m.head.map .string))(h2:w.ownsRow n 9 1 vv m.vals.length (m.vals.map .string))
  (hb1: ∀b,vh.ownBlock=some b->P b) (hb2: ∀b,vv.ownBlock=some b->P b) (hd: ∀b,vh.ownBlock=some b->vv.ownBlock≠some b) (hold: ∀x,x∈qs.flatMap qal-> ∀b,x.ownBlock=some b->b<n) (hl:qs.length<=1073741824) (hPn: ∀b,w.heap.size<=b->P b):
  ∃a c g cap W',v=.slice a qs.length c/\(Builtin.append_ #[41,41] 41 #[v,.slice (some ⟨w.heap.size,0,none⟩) 1 1]).run prog (w.alloc (.cells #[vh,vv] 48))=.ok (.slice (some ⟨g,0,none⟩) (qs.length+1) cap) W'/\
   MqsAt P W' (.slice (some ⟨g,0,none⟩) (qs.length+1) cap) (qs++ [(m,vh,vv)])/\Keep (fun b=>v.ownBlock≠some b) w W':=by
 obtain⟨v3,Y3,hr3,ho3,hk3,gb,cap,hv3,hgb,hgl⟩:=qc4 (P:=prog) qoz 41 h.own [vh,vv] rfl (by obtain⟨a,c,rfl⟩:=qi h1;obtain⟨a,c,rfl⟩:=qi h2;simp [Value.oneCell']) (by omega) (Nat.zero_le _);subst hv3;obtain⟨a,c,hv⟩:=qi h.own;refine⟨a,c,gb,cap,Y3,hv,hr3,⟨?_,fun b hb=>?_,fun q hq=>?_,fun q hq=>?_,?_⟩,hk3.mono fun b _ h e=>h e.symm⟩
 ·rw [length_append,length_singleton,flatMap_append];exact ho3
 ·have hb':gb=b:=by simpa [Value.ownBlock] using hb
  subst hb';rcases hgb with hg |hg
  ·exact h.blk _ hg
  ·exact hPn _ hg
 ·have key: ∀{x:Value} {t:List ByteArray} {base:Nat},w.ownsRow base 9 1 x t.length (t.map .string)->Y3.ownsRow 0 9 1 x t.length (t.map .string):=fun hx=>(qg hx hk3 (fun b hb e=>qdg hx h.own (by decide) hb e.symm)).mono (Nat.zero_le _);rcases mem_append.1 hq with hq |hq
  ·exact⟨key (h.rows q hq).1,key (h.rows q hq).2⟩
  ·rw [mem_singleton.1 hq];exact⟨key h1,key h2⟩
 ·rcases mem_append.1 hq with hq |hq
  ·exact h.blks q hq
  ·rw [mem_singleton.1 hq];exact⟨hb1,hb2⟩
 ·rw [flatMap_append,pairwise_append];refine⟨h.apart,?_,fun x hx y hy b hb hy'=>?_⟩
  ·show [vh,vv].Pairwise ApartV;rw [pairwise_pair];exact hd
  ·have h3:=hold x hx b hb;have hy2:y=vh∨y=vv:=by simpa [qal] using hy
   rcases hy2 with rfl |rfl
   ·have:=(World.ownsRow.lt h1 b hy').1;omega
   ·have:=(World.ownsRow.lt h2 b hy').1;omega
structure GWay (n0:Nat)(g:Gh)(w:World)(γ:Gh)(X:World):Prop where
 keep:Keep g.free w X
 new: ∀b,b<w.heap.size->g.free b->γ.free b
 held: ∀b,b<n0->γ.held b=g.held b
 st:γ.st=g.st
theorem GWay.refl {n0:Nat}{g:Gh}{w X:World}(h:Keep (fun _=>True) w X):GWay n0 g w g X:=⟨h.mono fun _ _ _=>trivial,fun _ _ h=>h,fun _ _=>rfl,rfl⟩
theorem GWay.stay {n0:Nat}{g γ:Gh}{w X Y:World}{C:Nat->Prop}(h:GWay n0 g w γ X)(hK:Keep C X Y)(hC: ∀b,b<w.heap.size->C b):GWay n0 g w γ Y:=
 ⟨⟨hK.os.trans h.keep.os,hK.tape.trans h.keep.tape,hK.output.trans h.keep.output,Nat.le_trans h.keep.size hK.size,fun k hk hf=>(hK.block k (Nat.lt_of_lt_of_le hk h.keep.size) (hC k hk)).trans (h.keep.block k hk hf)⟩,h.new,h.held,h.st⟩
theorem GWay.step {n0:Nat}{Ss:List Nat}{g γ γ':Gh}{w X Y:World}(h:GWay n0 g w γ X)(hs:(qbt n0 Ss).istep γ X γ' Y):GWay n0 g w γ' Y:=
 ⟨⟨hs.1.keep.os.trans h.keep.os,hs.1.keep.tape.trans h.keep.tape,hs.1.keep.output.trans h.keep.output,Nat.le_trans h.keep.size hs.1.keep.size,fun k hk hf=>(hs.1.keep.block k (Nat.lt_of_lt_of_le hk h.keep.size) (h.new k hk hf)).trans (h.keep.block k hk hf)⟩,
  fun b hb hf=>hs.1.new b (Nat.lt_of_lt_of_le hb h.keep.size) (h.new b hb hf),fun b hb=>(hs.1.held b hb).trans (h.held b hb),hs.2.trans h.st⟩
theorem GWay.gstep {n0:Nat}{g γ:Gh}{w X:World}(h:GWay n0 g w γ X)(hi:GInv γ X):GStep n0 g w γ X:=
 ⟨h.keep,fun S c hS=>⟨[],by rw [append_nil,h.st];exact hS⟩,h.new,h.held,hi⟩
theorem qb0 {g:Gh}{w:World}(h:GInv g w){b:Nat}(hb:w.heap.size<=b):g.free b:=by
 refine⟨?_,?_⟩
 ·cases e:g.tag b with
  |none=>rfl
  |some T=>have:=h.lt b T e;omega
 ·cases e:g.held b with
  |none=>rfl
  |some o=>have:=qe (h.hold b o e);omega
def q0k (c cN:List ql)(b:Asg)(L:LitD):Prop:=
 if L.kind=3 then qy b L.left≠qy b L.right
 else if L.kind=2 then L.atom.args.map (qcs b)∉qo cN L.atom.pred L.atom.args.length
 else∃t,t∈qo c L.atom.pred L.atom.args.length/\L.atom.args.map (qy b)=t.map some
theorem qoo (c cN:List ql)(body:List LitD)(b:Asg)(i:Nat):qek (qcc body (fun _=>c) cN) body b i↔q0k c cN b (body.getD i default):=Iff.rfl
theorem qew {c cN:List ql}{body:List LitD}(hk:qio body)(b:Asg):b∈qbd (qcc body (fun _=>c) cN) body↔qg3 qb3 b (qw body (qag body))/\ ∀L,L∈body->q0k c cN b L:=by
 rw [qe0,qto];constructor
 ·rintro⟨⟨-,h1,h2⟩,h3⟩;refine⟨h1,fun L hL=>?_⟩;obtain⟨i,hi⟩:=mem_iff_getElem?.1 hL;have hl:=(List.getElem?_eq_some_iff.1 hi).1;have hL':body.getD i default=L:=by rw [getD_eq_getElem?_getD,hi];rfl
  rw [←hL',←qoo];rcases hk i hl with h |h
  ·refine h2 i ?_;unfold qag;rw [mem_filter,mem_range];exact⟨hl,by simp [h]⟩
  ·exact h3 i hl h
 ·rintro⟨h1,h2⟩;have hget: ∀i,i<body.length->body.getD i default∈body:=fun i hi=>by
   rw [getD_eq_getElem?_getD,getElem?_eq_getElem hi];exact getElem_mem hi
  exact⟨⟨fun x v h=>(by cases h),h1,fun i hi=>(qoo ..).2 (h2 _ (hget i (qc8 hi).1))⟩,fun i hi _=>(qoo ..).2 (h2 _ (hget i hi))⟩
theorem qn4 {g:Gh}{W:World}(hg:GInv g W)(s sN:Option Nat)(body:List LitD): ∀i,((qij g s sN body).pos i).Nodup:=fun i=>qhu (qip hg s) _ _
theorem qnn {g:Gh}{W:World}(hg:GInv g W)(s sN:Option Nat){r:RuleD}(hr:qcr r):qd5 ((qju g s sN r (-1)).map (qbz r))=qcv (qij g s sN r.body) r:=by
 obtain⟨h1,h2,h3⟩:=qhv (qhg hg (fun _=>s) sN hr (-1) qpl);exact qwu (qn4 hg s sN r.body) h1 h2 h3
theorem qw0 {g:Gh}{W:World}(hg:GInv g W)(s sN:Option Nat){r:RuleD}(hr:qcr r):(qju g s sN r (-1)).length=(qbd (qij g s sN r.body) r.body).length:=by
 have h:=congrArg List.length (qnn hg s sN hr);unfold qcv at h;rw [qgp,qgp,length_map,length_map]at h;exact h
theorem qx5 {l:List ql}{f:ql}(h:f∈qbb okF l):f∈l:=by
 have hgo: ∀(l c:List ql),f∈l.foldl (qcl okF) c->f∈c∨f∈l:=by
  intro l
  induction l with
  |nil=>intro c h;exact .inl h
  |cons x l ih=>
   intro c h;rcases ih _ h with h |h
   ·unfold qcl at h;split at h
    ·rcases mem_append.1 h with h |h
     ·exact .inl h
     ·exact .inr (by rw [mem_singleton.1 h];exact mem_cons_self ..)
    ·exact .inl h
   ·exact .inr (mem_cons_of_mem _ h)
 rcases hgo l [] h with h |h
 ·cases h
 ·exact h
theorem qi5 {r:RuleD}{l:List ql}(h:qgh r l=false):l.length<=400/\(qci l []).length<=400/\qel r (qci l []).length=false:=by
 unfold qgh at h;split at h
 ·cases h
 ·rw [Bool.or_eq_false_iff]at h;exact⟨by omega,by have:=h.1;simp only [decide_eq_false_iff_not] at this;omega,h.2⟩
theorem qqu {g:Gh}{W:World}(hg:GInv g W){S:Nat}{c:List ql}(hS:g.st S=some c)(sN:Option Nat){r:RuleD}(hr:qcr r){l:List ql}(hc: ∀f,f∈c->f∈l)(hv:qgh r l=false):(qju g (some S) sN r (-1)).length<=20000:=by
 rw [qw0 hg _ _ hr];obtain⟨-,h2,h3⟩:=qi5 hv;refine qks (qn4 hg _ _ _) (fun i t s ht hs=>?_) h3;have hm:=(qay.1 ht).1;simp only [qcg,hS,Option.getD_some]at hm;exact((qjq (fs:=l) (l:= [])).2 h2).2 _ s (hc _ hm) hs
theorem qno {α:Type}{n n' sz:Nat}{w:World}{U U':Nat->Prop}{E:World->Nat->Nat->α->Prop}{v:Value}{xs:List α}(h:SliceIn n w sz (UE U E) v xs)(hn:n<=n')(hU: ∀b,U b->U' b):SliceIn n' w sz (UE U' E) v xs:=
 SliceIn.wider h hn fun b _ _ _ hx=>⟨hU b hx.1,hx.2⟩
theorem JoinAt.wide {U U':Nat->Prop}{n n':Nat}{w:World}{J:Nat}{r:RuleD}{vars:List ByteArray}{pos:List Int}{vha vb vv va vt vh:Value}(h:JoinAt U n w J r vars pos vha vb vv va vt vh)(hn:n<=n')(hU: ∀b,U b->U' b):JoinAt U' n' w J r vars pos vha vb vv va vt vh:=
 ⟨hU _ h.uJ,h.box,qno h.head hn hU,SliceIn.wider h.body hn fun b o x _ hx=>by
   obtain⟨h1,sa,h2,h3⟩:=hx;exact⟨hU b h1,sa,h2,qno h3 hn hU⟩,
  qno h.vrow hn hU,qno h.at' hn hU,SliceIn.wider h.terms hn fun b o x _ hx=>by
   obtain⟨h1,v,h2,h3⟩:=hx;exact⟨hU b h1,v,h2,qno h3 hn hU⟩,qno h.slots hn hU⟩
def JoinIs (g:Gh)(w:World)(J:Nat)(r:RuleD):Prop:=
 ∃vha vb vv va vt vh,JoinAt (fun b=>b<w.heap.size/\g.free b) w.heap.size w J r (qak r) (qdr r.body r.body.length) vha vb vv va vt vh
theorem JoinIs.step {n0:Nat}{g g':Gh}{w w':World}{J:Nat}{r:RuleD}(h:JoinIs g w J r)(hs:GStep n0 g w g' w'):JoinIs g' w' J r:=by
 obtain⟨vha,vb,vv,va,vt,vh,h⟩:=h;have h2:=h.keep hs.keep (fun b hb=>hb.2) (fun b hb=>hb.1);exact⟨vha,vb,vv,va,vt,vh,h2.wide hs.keep.size fun b hb=>⟨Nat.lt_of_lt_of_le hb.1 hs.keep.size,hs.new b hb.1 hb.2⟩⟩
theorem qpm {g:Gh}{w w':World}(hg:GInv g w){J:Nat}{r:RuleD}{vha vb vv va vt vh:Value}(h:JoinAt (fun b=>w.heap.size<=b/\b<w'.heap.size) w'.heap.size w' J r (qak r) (qdr r.body r.body.length) vha vb vv va vt vh):JoinIs g w' J r:=
 ⟨vha,vb,vv,va,vt,vh,h.wide (Nat.le_refl _) fun b hb=>⟨hb.2,qb0 hg hb.1⟩⟩
theorem GStep.below {n0:Nat}{g:Gh}{X Y:World}(h:GInv g X)(hK:Keep (fun b=>b<X.heap.size) X Y):GStep n0 g X g Y:=
 GStep.own h ⟨hK.os,hK.tape,hK.output,hK.size,fun k hk _=>hK.block k hk hk⟩
def bA:ByteArray:=⟨#[97]⟩
def bB:ByteArray:=⟨#[98]⟩
def bC:ByteArray:=⟨#[99]⟩
def qg9:List ql:= [⟨bE,[bA,bB]⟩,⟨bE,[bB,bC]⟩,⟨bE,[bC,bA]⟩]
theorem qn5:qbb okF qg9=qg9:=by decide
theorem q3o:qff qg4=0:=by decide
theorem q3p:qak qg4= [bX,bZ,bY]:=by decide
theorem q5t:(qdr qg4.body qg4.body.length).length=2:=by decide
theorem qw1:qcv (qcc qg4.body (fun _=>qg9) qg9) qg4= [⟨[bA,bC],[bA,bC,bB]⟩,⟨[bB,bA],[bB,bA,bC]⟩,⟨[bC,bB],[bC,bB,bA]⟩]:=by decide
end Go.Proofs
namespace Go.Proofs
open Go.RowKit Go.Ink Go.Flt R4 P16
attribute [local go_sem] Oper.semAt_some
def q61 (n0:Nat)(g:Gh)(w:World)(S nb:Nat)(l:List qad)(k:Nat)(γ:Gh)(X:World):Prop:=
 ∃(vl:Value) (qs:List MQ),X.heap[nb]?=some (.cells #[vl] 41 (0,0))/\γ.free nb/\MqsAt (fun b=>γ.free b/\S<=b) X vl qs/\qs.map (·.1)=l.take k/\GWay n0 g w γ X
def GaI (n0:Nat)(g:Gh)(w:World)(N:Nat)(lim:Int)(l:List qad)(k:Nat)(γ:Gh)(X:World):Prop:=
 (0<=lim->(k:Int)<=lim)/\X.heap[N]?=some (.cells #[.int .i64 lim] 3 (0,0))/\γ.free N/\q61 n0 g w (N+4) (N+1) l k γ X
def GaX (n0:Nat)(g:Gh)(w:World)(N:Nat)(lim:Int)(l:List qad)(c:Code)(k:Nat)(γ:Gh)(X:World):Prop:=
 c=.exit 0/\lim=(k:Int)/\X.heap[N]?=some (.cells #[.int .i64 lim] 3 (0,0))/\γ.free N/\q61 n0 g w (N+4) (N+1) l k γ X
def qkt (lim:Int)(n:Nat):Nat:=if lim<0 then n else min lim.toNat n
set_option maxRecDepth 100000 in
set_option maxHeartbeats 1000000 in
theorem qmw {n0:Nat}{Ss:List Nat}{g:Gh}{w:World}(hg:GInv g w)(hs:qeq Ss g)(hn0:n0<=w.heap.size){gf:Nat}{lb:Array Value}(eg: ∀args w,(callFunc gf args).run prog w=.ok (.enter gf args) w){all:Gh->List Asg}{r:RuleD}{V:World->Prop}{U:Nat->Prop}
  (hit:qpq prog gf lb (qbt n0 Ss) (fun γ=>(all γ).length) (fun γ0 k γ n X args=> ∃b,(all γ0)[k]?=some b/\qkn r (qak r) b γ n X args) V U) (hU: ∀b,U b->g.free b) (hV: ∀X,Keep (fun b=>b<w.heap.size) w X->V X) (hVst: ∀X Y,V X->Keep (fun b=>b<w.heap.size) X Y->V Y) (hfew:(all g).length<=67108864) (hrs:r.head.args.length<=1073741824/\(qak r).length<=1073741824) (lim:Int):
  Calls prog 19 #[.func (.func gf) #[] lb,.int .i64 lim] w fun e w'=> ∃g' v qs,e=.returned v/\GStep n0 g w g' w'/\g'.st=g.st/\MqsAt (fun b=>g'.free b/\w.heap.size<=b) w' v qs/\qs.map (·.1)=qd5 (((all g).map (qbz r)).take (qkt lim (all g).length)):=by
 obtain⟨N,hN⟩:=ex (w.heap.size);obtain⟨W0,hW0⟩:=ex ((w.alloc (.cells #[.int .i64 lim] 3)).alloc (.cells #[.slice none 0 0] 41));have k0:Keep (fun _=>True) w W0:=by rw [←hW0];exact kAl.trans kAl
 have z0:W0.heap.size=N+2:=by rw [←hW0,←hN];simp
 have p0:W0.heap[N]?=some (.cells #[.int .i64 lim] 3 (0,0)):=by rw [←hW0,←hN];exact(Keep.alloc (fun _=>True) _ _).heap (qh w _) trivial
 have p1:W0.heap[N+1]?=some (.cells #[.slice none 0 0] 41 (0,0)):=by
  rw [←hW0,←hN];have:=qh (w.alloc (.cells #[.int .i64 lim] 3)) (.cells #[.slice none 0 0] 41);rw [World.size_alloc]at this;exact this
 have hg0:=hg.keep (k0.mono fun _ _ _=>trivial);have hV0:=hV W0 (k0.mono fun _ _ _=>trivial);have hnil: ∀u,(binOp BinOp.eql 44 (.func (.func gf) #[] lb) .nilFunc).run prog u=.ok (.bool false) u:=fun u=>by kernel_rfl
 have hE: ∀(D:Nat) (γ:Gh) (W:World) (k:Nat) (vl:Value) (qs:List MQ),k<=(all g).length->D=N+2->γ.free D->W.heap[D]?=some (.deferred (some []))->W.heap[N+1]?=some (.cells #[vl] 41 (0,0))->γ.free (N+1)->MqsAt (fun b=>γ.free b/\N+4<=b) W vl qs->qs.map (·.1)=((all g).map (qbz r)).take k->GWay n0 g w γ W->GInv γ W->qkt lim (all g).length=k->
   Calls prog 20 #[vl] W fun e W'=> ∃v',e=.returned v'/\W'.heap[D]?=some (.deferred (some []))/\ ∃g' qs,GStep n0 g w g' (W'.putObj D (.deferred none))/\g'.st=g.st/\MqsAt (fun b=>g'.free b/\w.heap.size<=b) (W'.putObj D (.deferred none)) v' qs/\qs.map (·.1)=qd5 (((all g).map (qbz r)).take (qkt lim (all g).length)):=by
  intro D γ W k vl qs hk hD hfD hWD hbx hbf hm hql hway hinv hlim;have hqk:qs.length=k:=by
   have:=congrArg List.length hql;rw [length_map,length_take,length_map]at this;omega
  have hsm: ∀q,q∈qs->q.1.head.length<=1073741824/\q.1.vals.length<=1073741824:=fun q hq=>by
   have h1:q.1∈((all g).map (qbz r)).take k:=by rw [←hql];exact mem_map.2 ⟨q,hq,rfl⟩
   obtain⟨b,-,hb⟩:=mem_map.1 (mem_of_mem_take h1);rw [←hb];unfold qbz;simp only [length_map];exact hrs
  obtain⟨hin,hok⟩:=hm.mq (by omega) hsm;refine(qqa hin hok (Nat.le_refl _) (Nat.le_refl _) (by omega)).mono ?_;rintro e W' ⟨v',rfl,hK,os,ho,hs',hp⟩;have hDW:=qe hWD;have kD:Keep (fun b=>b<W.heap.size/\b≠D) W (W'.putObj D (.deferred none)):=(hK.mono fun b _ h=>h.1).trans (Keep.putObj _ _ _ (by simp));refine⟨v',rfl,hK.heap hWD hDW,γ,os,(hway.stay kD fun b hb=>⟨by omega,by omega⟩).gstep (hinv.keep (kD.mono fun b hb h=>⟨hb,fun e=>h (e▸hfD)⟩)),hway.st,?_,by rw [hs',hql,hlim]⟩;exact hm.perm kD (fun b hb hp=>⟨⟨hb,by omega⟩,hp.1,by omega⟩) (qg ho (Keep.putObj (C:=fun b=>b≠D) _ _ _ (by simp)) (fun b hb e=>by have:=(World.ownsRow.lt ho b hb).1;omega)) (fun b hb=>⟨qb0 hinv hb,by omega⟩) hp
 refine qxu ?_ hE hg hs eg hit hU hV hVst hN hW0 k0 p0 p1 hg0 hV0;clear hE hg hs eg hit hU hV hVst hN hW0 k0 p0 p1 hg0 hV0;intro XhE Xhg Xhs Xeg Xhit XhU XhV XhVst XhN XhW0 Xk0 Xp0 Xp1 Xhg0 XhV0;refine qfu Tryz.func19 rfl ?_;simp only [Tryz.ntmps19,qdz,Nat.reduceAdd,Nat.reduceSub];gi_wp2;rw [XhW0.o,XhN.o];refine qm1 (qbt n0 Ss) g (gf:=gf) (lb:=lb) rfl Xeg.o Xhit.o XhU.o (fun γ0 k γ n X args h=>?ps) ⟨Xhg0.o,Xhs.o⟩ (fun b hb=>qb0 Xhg0.o hb) XhV0.o (fun X Y hv hk=>XhVst.o X Y hv (hk.mono fun b _ hb=>by have:=XhN.o;omega))
  (GaI n0 g w N lim ((all g).map (qbz r))) (GaX n0 g w N lim ((all g).map (qbz r))) ?hI ?hIx ?hIs ?hIxs ?h0 ?round ?done ?stop
 case ps=>obtain⟨b,-,vh,vv,rfl,-⟩:=h;rfl
 case hI=>
  rintro k γ X Y ⟨h1,h2,h3,vl,qs,h4,h5,h6,h7,h8⟩ hK;exact⟨h1,hK.heap h2 (.inl (by omega)),h3,vl,qs,hK.heap h4 (.inl (by omega)),h5,h6.keep hK (fun b _ hp=>⟨.inr (by omega),hp⟩),h7,h8.stay hK (fun b hb=>.inl (by have:=XhN.o;omega))⟩
 case hIx=>
  rintro c k γ X Y ⟨h0,h1,h2,h3,vl,qs,h4,h5,h6,h7,h8⟩ hK;exact⟨h0,h1,hK.heap h2 (.inl (by omega)),h3,vl,qs,hK.heap h4 (.inl (by omega)),h5,h6.keep hK (fun b _ hp=>⟨.inr (by omega),hp⟩),h7,h8.stay hK (fun b hb=>.inl (by have:=XhN.o;omega))⟩
 case hIs=>
  rintro k γ X γ' Y ⟨h1,h2,h3,vl,qs,h4,h5,h6,h7,h8⟩ hs';exact⟨h1,hs'.1.keep.heap h2 h3,hs'.1.new N (qe h2) h3,vl,qs,hs'.1.keep.heap h4 h5,hs'.1.new _ (qe h4) h5,h6.keep hs'.1.keep (fun b hb hp=>⟨hp.1,hs'.1.new b hb hp.1,hp.2⟩),h7,h8.step hs'⟩
 case hIxs=>
  rintro c k γ X γ' Y ⟨h0,h1,h2,h3,vl,qs,h4,h5,h6,h7,h8⟩ hs';exact⟨h0,h1,hs'.1.keep.heap h2 h3,hs'.1.new N (qe h2) h3,vl,qs,hs'.1.keep.heap h4 h5,hs'.1.new _ (qe h4) h5,h6.keep hs'.1.keep (fun b hb hp=>⟨hp.1,hs'.1.new b hb hp.1,hp.2⟩),h7,h8.step hs'⟩
 case h0=>exact⟨fun h=>by simpa using h,Xp0.o,qb0 Xhg.o (by have:=XhN.o;omega),.slice none 0 0,[],Xp1.o,qb0 Xhg.o (by have:=XhN.o;omega),qwz _,rfl,GWay.refl Xk0.o⟩
 case stop=>
  rintro D c k γ W hD hfD hWD hsd hk ⟨rfl,h1,h2,h3,vl,qs,h4,h5,h6,h7,h8⟩ hinvW hVW;have hlg:qkt lim (all g).length=k:=by unfold qkt;rw [if_neg (by omega)];omega
  have hfin:=XhE.o D γ W k vl qs (by omega) (by have:=hD;omega) hfD hWD h4 h5 h6 h7 h8 hinvW.1 hlg;have e0:=qb h4 0 _ rfl;have f0:=qe h4;simp only [Nat.zero_add]at e0;clear h1 h2 h4 h6 h7 h8 hinvW hVW hlg;refine hd1 ?_ hfin;clear hfin;intro Xhfin;gi_wp2;refine⟨trivial,rfl,(callsIn_wide.2 Xhfin.o).mono ?_⟩;rintro e W9 ⟨v9,rfl,hWD9,h9⟩;refine hd2 ?_ hWD9 h9;clear hWD9 h9;intro XhWD9 Xh9;gi_wp2;obtain⟨g9,q9,h9⟩:=Xh9.o;refine qg7 XhWD9.o (qbx (results_tmp rfl _ _ _) ⟨g9,v9,q9,rfl,h9⟩)
 case round=>
  rintro l k γ X0 X args hBl hlX hfl hk ⟨hkl,hN0,hNf,vl,qs,hbx,hbf,hmq,hql,hway⟩ hs1 hinvX hVX hsz ⟨b,hbk,vh,vv,rfl,ho1,ho2,hf1,hf2,hd⟩;obtain⟨ah,ch,rfl⟩:=qi ho1;obtain⟨av,cv,rfl⟩:=qi ho2;obtain⟨X1,hX1⟩:=ex (X.alloc (.cells #[.slice ah r.head.args.length ch,.slice av (qak r).length cv] 48));obtain⟨nm,hnm⟩:=ex (X.heap.size);have kx:Keep (fun _=>True) X X1:=by rw [←hX1];exact kAl
  have px:X1.heap[nm]?=some (.cells #[.slice ah r.head.args.length ch,.slice av (qak r).length cv] 48 (0,0)):=by rw [←hX1,←hnm];exact qh _ _
  have zx:X1.heap.size=nm+1:=by rw [←hX1,←hnm];simp
  refine qoi ?_ hkl hN0 hbx hmq hway hs1 hinvX hVX hfl hX1 hnm kx px hbk;clear hkl hN0 hbx hmq hway hs1 hinvX hVX hfl hX1 hnm kx px hbk;intro Xhkl XhN0 Xhbx Xhmq Xhway Xhs1 XhinvX XhVX Xhfl XhX1 Xhnm Xkx Xpx Xhbk;gi_wp2;rw [XhX1.o,Xhnm.o];refine⟨Xkx.o.mono fun _ _ _=>trivial,fun Y hY hYs hYl=>?_⟩;have hl1:l=N+3:=by have:=Xhfl.o.2.2;omega
  have zX0:=(Xhs1.o.1.keep).size;have zX:=Xkx.o.size;have zY:=hY.size;have hnm':=Xhnm.o;have kXY:Keep (fun b=>b≠l) X Y:=(Xkx.o.mono fun _ _ _=>trivial).trans hY;have aN:=hY.heap (Xkx.o.heap (Xhs1.o.1.keep.heap XhN0.o hNf) trivial) (show N≠l by omega);have aB:=hY.heap (Xkx.o.heap (Xhs1.o.1.keep.heap Xhbx.o hbf) trivial) (show N+1≠l by omega);have aM:=hY.heap Xpx.o (show nm≠l by omega);have c0:=qb aN 0 _ rfl;have c1:=qb aB 0 _ rfl;have c2:=qb aM 0 _ rfl;have c3:=qb aM 1 _ rfl;have l0:=qe aN;have l1:=qe aB;have l2:=qe aM;simp only [Nat.zero_add]at c0 c1 c2 c3;have hqk:qs.length=k:=by
   have:=congrArg List.length hql;rw [length_map,length_take,length_map]at this;omega
  have hmX:MqsAt (fun b=>γ.free b/\N+4<=b) X vl qs:=Xhmq.o.keep Xhs1.o.1.keep (fun b hb hp=>⟨hp.1,Xhs1.o.1.new b hb hp.1,hp.2⟩);have hmY:MqsAt (fun b=>γ.free b/\N+4<=b) Y vl qs:=hmX.keep kXY (fun b hb hp=>⟨by omega,hp⟩);have hvo:=hmY.blk;have o1:=qg ho1 kXY (fun b hb e=>by have:=(World.ownsRow.lt ho1 b hb).1;omega);have o2:=qg ho2 kXY (fun b hb e=>by have:=(World.ownsRow.lt ho2 b hb).1;omega);obtain⟨b0,hb0⟩:=ex (qbz r b);have hh:b0.head=r.head.args.map (qcs b):=by rw [←hb0];rfl
  have hv:b0.vals=(qak r).map fun x=>(b x).getD ⟨#[]⟩:=by rw [←hb0];rfl
  have hfrX: ∀u,X.heap.size<=u->γ.free u:=fun u hu=>qb0 XhinvX.o.1 hu;obtain⟨al,cl,gb,cap,Y3,hvl,hr3,hm3,hk3⟩:=hmY.snoc (m:=b0) (vh:=.slice ah r.head.args.length ch) (vv:=.slice av (qak r).length cv) (n:=X0.heap.size) (by rw [hh,length_map];exact o1) (by rw [hv,length_map];exact o2)
   (fun u hu=>⟨hf1 u hu,by have:=(World.ownsRow.lt ho1 u hu).1;omega⟩) (fun u hu=>⟨hf2 u hu,by have:=(World.ownsRow.lt ho2 u hu).1;omega⟩) hd Xhmq.o.lt (by omega) (fun u hu=>⟨hfrX u (by omega),by omega⟩)
  subst hvl;rw [hqk]at c1 aB hr3 hm3;have bY3:=hk3.heap aB (fun e=>by have:=(hvo (N+1) e).2;omega);have c4:=qb bY3 0 _ rfl;have f4:=qf bY3 0;have l4:=qe bY3;simp only [Nat.zero_add]at c4;have hgo:(0<=lim->((k+1:Nat):Int)<=lim)->qfa (qbt n0 Ss) W0.heap.size l X.heap.size V γ Y (Y3.setCell ⟨N+1,0,none⟩ (.slice (some ⟨gb,0,none⟩) (k+1) cap)) (fun γ'=>GaI n0 g w N lim ((all g).map (qbz r)) (k+1) γ' (Y3.setCell ⟨N+1,0,none⟩ (.slice (some ⟨gb,0,none⟩) (k+1) cap))):=fun hlim=>by
   have e3:((all g).map (qbz r)).take (k+1)=(qs++ [(b0,Value.slice ah r.head.args.length ch,Value.slice av (qak r).length cv)]).map (·.1):=by
    rw [map_append,hql,take_add_one,getElem?_map,Xhbk.o,←hb0];rfl
   have nY3:=hk3.heap aN (fun e=>by have:=(hvo N e).2;omega);have kZ:Keep (fun b=>b≠N+1) Y3 (Y3.setCell ⟨N+1,0,none⟩ (.slice (some ⟨gb,0,none⟩) (k+1) cap)):=kSc;have kYZ:Keep (fun b=>b≠N+1/\(Value.slice al qs.length cl).ownBlock≠some b) Y (Y3.setCell ⟨N+1,0,none⟩ (.slice (some ⟨gb,0,none⟩) (k+1) cap)):=(hk3.mono fun b _ h=>h.2).trans (kZ.mono fun b _ h=>h.1);have kXZ:Keep (fun b=>b≠l/\b≠N+1/\(Value.slice al qs.length cl).ownBlock≠some b) X (Y3.setCell ⟨N+1,0,none⟩ (.slice (some ⟨gb,0,none⟩) (k+1) cap)):=(kXY.mono fun b _ h=>h.1).trans (kYZ.mono fun b _ h=>h.2);refine⟨γ,(qbt n0 Ss).invk XhinvX.o (kXZ.mono fun b _ h=>⟨fun e=>h (e▸Xhfl.o.1),fun e=>h (e▸hbf),fun e=>h (hvo b e).1⟩),XhVst.o _ _ XhVX.o (kXZ.mono fun b _ h=>⟨by have:=XhN.o;omega,by have:=XhN.o;omega,fun e=>by have:=(hvo b e).2;have:=XhN.o;omega⟩),GBd.refl _ _,kYZ.mono fun b _ h=>⟨by omega,fun e=>by have:=(hvo b e).2;omega⟩,hlim,kZ.heap nY3 (show N≠N+1 by omega),hNf,_,_,qgu _ bY3,hbf,hm3.keep kZ (fun b _ hp=>⟨by omega,hp⟩),e3.symm,?_⟩;exact((Xhway.o.step Xhs1.o).stay kXZ fun b hb=>⟨by have:=XhN.o;omega,by have:=XhN.o;omega,fun e=>by have:=(hvo b e).2;have:=XhN.o;omega⟩)
  have hstop: ∀q:Int,q=(k:Int)->lim=q->qfa (qbt n0 Ss) W0.heap.size l X.heap.size V γ Y Y (fun γ'=>GaX n0 g w N lim ((all g).map (qbz r)) (.exit 0) k γ' Y):=fun q hq hlim=>by
   refine⟨γ,(qbt n0 Ss).invk XhinvX.o (kXY.mono fun b _ h e=>h (e▸Xhfl.o.1)),XhVst.o _ _ XhVX.o (kXY.mono fun b _ h=>by have:=XhN.o;omega),GBd.refl _ _,Keep.refl _ _,rfl,hlim.trans hq,aN,hNf,_,qs,(by rw [hqk];exact aB),hbf,hmY,hql,(Xhway.o.step Xhs1.o).stay kXY fun b hb=>by have:=XhN.o;omega⟩
  clear aN aB aM bY3 hmX hmY hvo o1 o2 hh hv hfrX hm3 hk3 kXY hb0;have hway3:(lim=(k:Int))∨((k:Int)<lim)∨lim<0:=by
   have:=Xhkl.o;omega
  have hk0:(0:Int)<=k:=by omega
  refine qc5 ?_ hY hgo hstop hr3 hql hf1 hf2 hd ho1 ho2 hnil zx hYs z0 hqk hl1;clear hY hgo hstop hr3 hql hf1 hf2 hd ho1 ho2 hnil zx hYs z0 hqk hl1;intro XhY Xhgo Xhstop Xhr3 Xhql Xhf1 Xhf2 Xhd Xho1 Xho2 Xhnil Xzx XhYs Xz0 Xhqk Xhl1;clear zX0 zX zY hnm';rcases hway3 with h3 |h3 |h3
  ·have h4:(0:Int)<=lim:=by omega
   have hs4:=Xhstop.o _ rfl h3;have h5:((k:Int)==lim)=true:=beq_iff_eq.2 h3.symm;refine hd2 ?_ h3 hs4;clear h3 hs4;intro Xh3 Xhs4;gi_wp2;exact Xhs4.o
  ·have h4:(0:Int)<=lim:=by omega
   have h5: ¬(k:Int)=lim:=by omega
   gi_wp2_with (gi_at_builtin;refine qch rfl _ _ _ rfl rfl rfl Xhr3.o ?_)
   exact Xhgo.o (fun _=>by omega)
  ·have h4: ¬(0:Int)<=lim:=by omega
   gi_wp2_with (gi_at_builtin;refine qch rfl _ _ _ rfl rfl rfl Xhr3.o ?_)
   exact Xhgo.o (fun _=>by omega)
 case done=>
  rintro D γ W hD hfD hWD hsd ⟨h1,h2,h3,vl,qs,h4,h5,h6,h7,h8⟩ hinvW hVW;have hlg:qkt lim (all g).length=(all g).length:=by
   unfold qkt;split
   ·rfl
   ·have:=h1 (by omega);omega
  have hfin:=XhE.o D γ W _ vl qs (Nat.le_refl _) (by have:=hD;omega) hfD hWD h4 h5 h6 h7 h8 hinvW.1 hlg;have e0:=qb h4 0 _ rfl;have f0:=qe h4;simp only [Nat.zero_add]at e0;clear h1 h2 h4 h6 h7 h8 hinvW hVW hlg;refine hd1 ?_ hfin;clear hfin;intro Xhfin;gi_wp2;refine⟨trivial,rfl,(callsIn_wide.2 Xhfin.o).mono ?_⟩;rintro e W9 ⟨v9,rfl,hWD9,h9⟩;refine hd2 ?_ hWD9 h9;clear hWD9 h9;intro XhWD9 Xh9;gi_wp2;obtain⟨g9,q9,h9⟩:=Xh9.o;refine qg7 XhWD9.o (qbx (results_tmp rfl _ _ _) ⟨g9,v9,q9,rfl,h9⟩)
theorem qsj {n0:Nat}{Ss:List Nat}{g:Gh}{w:World}(hg:GInv g w)(hs:qeq Ss g)(hn0:n0<=w.heap.size){J:Nat}{r:RuleD}(hr:qcr r)(hj:JoinIs g w J r){s sN:Option Nat}(hsS: ∀S,s=some S->S∈Ss)(hsN: ∀S,sN=some S->S∈Ss){Bj Bx Bn:Nat}
  (b1:w.heap[Bj]?=some (.cells #[qj J] 31 (0,0))) (b2:w.heap[Bx]?=some (.cells #[qz s] 37 (0,0))) (b3:w.heap[Bn]?=some (.cells #[qz sN] 37 (0,0))) (f1:g.free Bj) (f2:g.free Bx) (f3:g.free Bn) (hfew:(qju g s sN r (-1)).length<=67108864) (lim:Int):
  Calls prog 19 #[.func (.func 47) #[] #[qj Bj,qj Bx,qj Bn],.int .i64 lim] w fun e w'=> ∃g' v qs,e=.returned v/\GStep n0 g w g' w'/\g'.st=g.st/\MqsAt (fun b=>g'.free b/\w.heap.size<=b) w' v qs/\qs.map (·.1)=qd5 (((qju g s sN r (-1)).map (qbz r)).take (qkt lim (qju g s sN r (-1)).length)):=by
 obtain⟨vha,vb,vv,va,vt,vh,hj⟩:=hj;exact qmw (all:=fun γ=>qju γ s sN r (-1)) (V:=EachV (fun b=>b<w.heap.size/\g.free b) w.heap.size n0 w) (U:=fun b=>b<w.heap.size/\g.free b) hg hs hn0 (qc6 Tryz.func47 (by kernel_rfl) rfl)
  (qzt hr hj (fun b hb=>hb.1) hsS hsN ⟨qe b1,f1⟩ b1 ⟨qe b2,f2⟩ b2 ⟨qe b3,f3⟩ b3) (fun b hb=>hb.2) (fun X hX=>⟨fun b hb=>hX.block b hb.1 hb.1,hX.size,Nat.le_trans hn0 hX.size⟩) (fun X Y hV hK=>hV.keep (fun b hb=>hb.1) hK (fun b hb=>hb.1)) hfew ⟨by have:=qjg hr.formed;omega,by have:=qlf hr.formed r.body.length (Nat.le_refl _);rw [qi9 hr.formed] at this;have:=qjh hr.formed;omega⟩ lim
theorem qw2 (n:Nat):qkt (-1) n=n:=by unfold qkt;rw [if_pos (by omega)]
theorem qjv {n0:Nat}{Ss:List Nat}{g:Gh}{w:World}(hg:GInv g w)(hs:qeq Ss g)(hn0:n0<=w.heap.size){J:Nat}{r:RuleD}(hr:qcr r)(hj:JoinIs g w J r){s sN:Option Nat}(hsS: ∀S,s=some S->S∈Ss)(hsN: ∀S,sN=some S->S∈Ss){Bj Bx Bn:Nat}
  (b1:w.heap[Bj]?=some (.cells #[qj J] 31 (0,0))) (b2:w.heap[Bx]?=some (.cells #[qz s] 37 (0,0))) (b3:w.heap[Bn]?=some (.cells #[qz sN] 37 (0,0))) (f1:g.free Bj) (f2:g.free Bx) (f3:g.free Bn) (hfew:(qju g s sN r (-1)).length<=67108864):
  Calls prog 19 #[.func (.func 47) #[] #[qj Bj,qj Bx,qj Bn],.int .i64 (-1)] w fun e w'=> ∃g' v qs,e=.returned v/\GStep n0 g w g' w'/\g'.st=g.st/\MqsAt (fun b=>g'.free b/\w.heap.size<=b) w' v qs/\qs.map (·.1)=qcv (qij g s sN r.body) r:=by
 refine(qsj hg hs hn0 hr hj hsS hsN b1 b2 b3 f1 f2 f3 hfew (-1)).mono ?_;rintro e w' ⟨g',v,qs,h1,h2,h3,h4,h5⟩;refine⟨g',v,qs,h1,h2,h3,h4,?_⟩;rw [h5,qw2,←qnn hg s sN hr,←length_map (f:=qbz r),take_length]
def gh0:Gh:=⟨fun _=>none,fun _=>none,fun _=>none⟩
theorem qnp (w:World):GInv gh0 w:=⟨fun S c h=>(by cases h),fun b S T h=>(by cases h),fun b T h=>(by cases h),fun b o h=>(by cases h),fun b o h=>(by cases h),fun b S R U h=>(by cases h)⟩
theorem qid (b:Nat):gh0.free b:=⟨rfl,rfl⟩
theorem q5u {g:Gh}{S:Nat}{fs:List ql}(h:g.st S=some (qbb okF fs)):qeq [S] g:=fun S' hS'=>by
 rw [mem_singleton.1 hS'];exact⟨_,h,qom fs⟩
theorem qqv {n0:Nat}{g:Gh}{X Y:World}(h:GStep n0 gh0 X g Y):Keep (fun _=>True) X Y:=h.keep.mono fun b _ _=>qid b
theorem qjd {w:World}{n B t:Nat}{xs:List ByteArray}(h:w.heap[B]?=some (.cells (xs.map Value.string).toArray t (0,0)))(hn:B<n)(hl:xs.length<=1073741824):qae n w (.slice (some ⟨B,0,none⟩) xs.length xs.length) xs:=qez (qln h hl) hn
set_option maxRecDepth 100000 in
set_option maxHeartbeats 2000000 in
theorem qmx (w:World):Calls prog 8 #[] w fun e w'=>e=.returned (.bool true)/\Keep (fun b=>b<w.heap.size) w w':=by
 obtain⟨N,hN⟩:=ex (w.heap.size);obtain⟨W0,hW0⟩:=ex ((((w.alloc (.cells #[.string ⟨#[97]⟩,.string ⟨#[98]⟩] 9)).alloc (.cells #[.string ⟨#[98]⟩,.string ⟨#[99]⟩] 9)).alloc (.cells #[.string ⟨#[99]⟩,.string ⟨#[97]⟩] 9)).alloc (.cells #[.string ⟨#[101]⟩,.slice (some ⟨w.heap.size,0,none⟩) 2 2,.string ⟨#[101]⟩,.slice (some ⟨w.heap.size+1,0,none⟩) 2 2,.string ⟨#[101]⟩,.slice (some ⟨w.heap.size+2,0,none⟩) 2 2] 52));have k0:Keep (fun _=>True) w W0:=by rw [←hW0];exact((kAl.trans kAl).trans kAl).trans kAl
 have z0:W0.heap.size=N+4:=by rw [←hW0,←hN];simp
 have p0:W0.heap[N]?=some (.cells ([bA,bB].map Value.string).toArray 9 (0,0)):=by rw [←hW0,←hN];exact(((Keep.alloc (fun _=>True) _ _).trans kAl).trans kAl).heap (qh w _) trivial
 have p1:W0.heap[N+1]?=some (.cells ([bB,bC].map Value.string).toArray 9 (0,0)):=by
  rw [←hW0,←hN];have:=qh (w.alloc (.cells #[.string ⟨#[97]⟩,.string ⟨#[98]⟩] 9)) (.cells #[.string ⟨#[98]⟩,.string ⟨#[99]⟩] 9);rw [World.size_alloc]at this;exact((Keep.alloc (fun _=>True) _ _).trans kAl).heap this trivial
 have p2:W0.heap[N+2]?=some (.cells ([bC,bA].map Value.string).toArray 9 (0,0)):=by
  rw [←hW0,←hN];have:=qh ((w.alloc (.cells #[.string ⟨#[97]⟩,.string ⟨#[98]⟩] 9)).alloc (.cells #[.string ⟨#[98]⟩,.string ⟨#[99]⟩] 9)) (.cells #[.string ⟨#[99]⟩,.string ⟨#[97]⟩] 9);rw [World.size_alloc,World.size_alloc]at this;exact(Keep.alloc (fun _=>True) _ _).heap this trivial
 have p3:W0.heap[N+3]?=some (.cells #[.string ⟨#[101]⟩,.slice (some ⟨N,0,none⟩) 2 2,.string ⟨#[101]⟩,.slice (some ⟨N+1,0,none⟩) 2 2,.string ⟨#[101]⟩,.slice (some ⟨N+2,0,none⟩) 2 2] 52 (0,0)):=by
  rw [←hW0,←hN];have:=qh (((w.alloc (.cells #[.string ⟨#[97]⟩,.string ⟨#[98]⟩] 9)).alloc (.cells #[.string ⟨#[98]⟩,.string ⟨#[99]⟩] 9)).alloc (.cells #[.string ⟨#[99]⟩,.string ⟨#[97]⟩] 9)) (.cells #[.string ⟨#[101]⟩,.slice (some ⟨w.heap.size,0,none⟩) 2 2,.string ⟨#[101]⟩,.slice (some ⟨w.heap.size+1,0,none⟩) 2 2,.string ⟨#[101]⟩,.slice (some ⟨w.heap.size+2,0,none⟩) 2 2] 52);rw [World.size_alloc,World.size_alloc,World.size_alloc]at this;exact this
 have hF:FactsIn (N+4) W0 (.slice (some ⟨N+3,0,none⟩) 3 3) qg9:=by
  refine⟨_,3,rfl,by decide,⟨by decide,by decide⟩,fun k f hk=>⟨N+3,0,rfl,by omega,?_⟩⟩
  match k,hk with
  |0,hk=>
   cases hk;refine⟨.slice (some ⟨N,0,none⟩) 2 2,fun j v hj=>?_,qjd p0 (by omega) (by decide)⟩
   match j,hj with
   |0,hj=>cases hj;exact qb p3 0 _ rfl
   |1,hj=>cases hj;exact qb p3 1 _ rfl
  |1,hk=>
   cases hk;refine⟨.slice (some ⟨N+1,0,none⟩) 2 2,fun j v hj=>?_,qjd p1 (by omega) (by decide)⟩
   match j,hj with
   |0,hj=>cases hj;exact qb p3 2 _ rfl
   |1,hj=>cases hj;exact qb p3 3 _ rfl
  |2,hk=>
   cases hk;refine⟨.slice (some ⟨N+2,0,none⟩) 2 2,fun j v hj=>?_,qjd p2 (by omega) (by decide)⟩
   match j,hj with
   |0,hj=>cases hj;exact qb p3 4 _ rfl
   |1,hj=>cases hj;exact qb p3 5 _ rfl
 have hst:=qjs (n0:=W0.heap.size) (qnp W0) hF (by omega) (fun b _=>qid b) (by decide) (by decide);rw [qn5]at hst;refine hd9 ?_ hN hW0 k0 p0 p1 p2 p3 hF hst;clear hN hW0 k0 p0 p1 p2 p3 hF hst;intro XhN XhW0 Xk0 Xp0 Xp1 Xp2 Xp3 XhF Xhst
 go_enter Tryz.func8,Tryz.ntmps8
 go_wp2_with fail;rw [XhW0.o,XhN.o];refine Xhst.o.mono ?_;rintro e W1 ⟨S,g1,rfl,hs1,hst1,-,hS⟩;have h1:=qqv hs1;have hS1:g1.st S=some qg9:=by rw [hst1];unfold Gh.with;simp
 refine hd4 ?_ hs1 h1 hst1 hS1;clear hs1 h1 hst1 hS1;intro Xhs1 Xh1 Xhst1 XhS1;go_wp2_with fail;refine(q5n W1).mono ?_;rintro e W2 ⟨vh,vb,rfl,hR,k2⟩;have hcm:=qkk hR (Nat.le_refl _);have i1:=Xhs1.o.inv;have s2:=GStep.below (n0:=0) i1 k2;unfold qbf at hcm⊢;refine hd5 ?_ hR k2 hcm i1 s2;clear hR k2 hcm i1 s2;intro XhR Xk2 Xhcm Xi1 Xs2;go_wp2_with fail;refine Xhcm.o.mono ?_;rintro e W3 ⟨k3,⟨h0,-⟩ |⟨hro,J,vha,vbb,vv,va,vt,vhh,rfl,hj⟩⟩
 ·exact absurd q3o h0
 have i2:=Xs2.o.inv;have s3:=GStep.below (n0:=0) i2 k3;have hji:=qpm i2 hj;have hea:=qjj J (some S) (some S) W3;have hsz3:=k3.size;unfold qz at hea;simp only [Option.map_some]at hea;clear hj;refine hd6 ?_ hro k3 i2 s3 hji hea;clear hro k3 i2 s3 hji hea;intro Xhro Xk3 Xi2 Xs3 Xhji Xhea;go_wp2_with fail;refine Xhea.o.mono ?_;rintro e W4 ⟨rfl,b1,b2,b3,z4,k4⟩;have s4:=GStep.own (n0:=0) Xs3.o.inv k4;have hji4:=Xhji.o.step s4;have i4:=s4.inv;have hfr: ∀b,W3.heap.size<=b->g1.free b:=fun b hb=>qb0 Xs3.o.inv hb;have hga:=qjv (n0:=0) (Ss:= [S]) i4 (q5u (fs:=qg9) (by rw [qn5];exact XhS1.o)) (Nat.zero_le _) Xhro.o hji4 (s:=some S) (sN:=some S) (fun S' h=>by cases h;exact mem_singleton.2 rfl) (fun S' h=>by cases h;exact mem_singleton.2 rfl) b1 (by unfold qz;exact b2) (by unfold qz;exact b3) (hfr _ (Nat.le_refl _)) (hfr _ (by omega)) (hfr _ (by omega)) (by
  rw [qw0 i4 _ _ Xhro.o];have:=congrArg List.length (show qcv (qij g1 (some S) (some S) qg4.body) qg4=_ from(by unfold qij qcg;simp only [XhS1.o,Option.getD_some];exact qw1));unfold qcv at this;rw [qgp,length_map]at this;rw [this];decide)
 have hrf:qcv (qij g1 (some S) (some S) qg4.body) qg4= [⟨[bA,bC],[bA,bC,bB]⟩,⟨[bB,bA],[bB,bA,bC]⟩,⟨[bC,bB],[bC,bB,bA]⟩]:=by
  unfold qij qcg;simp only [XhS1.o,Option.getD_some];exact qw1
 rw [hrf]at hga;clear b1 b2 b3;refine hd8 ?_ k4 s4 hji4 i4 hfr hga hrf z4;clear k4 s4 hji4 i4 hfr hga hrf z4;intro Xk4 Xs4 Xhji4 Xi4 Xhfr Xhga Xhrf Xz4;go_wp2_with fail;refine Xhga.o.mono ?_;rintro e W5 ⟨g5,v5,qs,rfl,s5,hst5,hm5,hq5⟩;have hql:qs.length=3:=by have:=congrArg List.length hq5;simpa using this
 obtain⟨q0,hq0⟩: ∃q0,qs[0]?=some q0:=⟨_,getElem?_eq_getElem (by omega)⟩;have hq01:q0.1=⟨[bA,bC],[bA,bC,bB]⟩:=by
  have:=congrArg (fun l=>l[0]?) hq5;simp only [getElem?_map,hq0]at this
  simpa using this
 have hsm: ∀m:qad,m∈qs.map (·.1)->m.head.length<=1073741824/\m.vals.length<=1073741824:=by
  rw [hq5]
  decide
 obtain⟨hin,hok⟩:=hm5.mq (by omega) (fun q hq=>hsm _ (mem_map.2 ⟨q,hq,rfl⟩));have hok0:=hok q0 (mem_of_getElem? hq0);obtain⟨av5,cv5,rfl,-,-,hel⟩:=hin;obtain⟨b,o,rfl,hb5,hcl⟩:=hel 0 q0 hq0;have c0:=hcl 0 _ rfl;have c1:=hcl 1 _ rfl;simp only [Nat.zero_mul,Nat.add_zero]at c0 c1;obtain⟨m0,vh0,vv0⟩:=q0;simp only at c0 c1 hq01;subst hq01;obtain⟨ha0,hv0⟩:=hok0;simp only at ha0 hv0;obtain⟨ah0,ch0,rfl,-,-,-⟩:=id ha0;obtain⟨avv,cvv,rfl,-,-,-⟩:=id hv0;have hS5:g5.st S=some qg9:=by rw [hst5];exact XhS1.o
 have hlen:=qkb (s5.inv.store S qg9 hS5);rw [show(qg9.length:Int)=3 from rfl]at hlen;have hj5:=Xhji4.o.step s5;rw [hql];clear hel hcl hq0 hok hm5 hq5 hql hst5 hsm;refine hd7 ?_ ha0 hv0 hlen hj5 s5 c0 c1;clear ha0 hv0 hlen hj5 s5 c0 c1;intro Xha0 Xhv0 Xhlen Xhj5 Xs5 Xc0 Xc1;go_wp2_with fail;refine(qqt _ _).mono ?_;rintro e w9 ⟨rfl,hw9⟩;have hw9:=hw9.symm;subst hw9;go_wp2_with fail;refine Xhlen.o.mono ?_;rintro e W6 ⟨rfl,k6⟩;have d0:=k6.cell Xc0.o trivial;have hb6:b<W6.heap.size:=Nat.lt_of_lt_of_le hb5 k6.size;obtain⟨W7,hW7⟩:=ex (W6.alloc (.cells #[.string ⟨#[97]⟩,.string ⟨#[99]⟩] 9));have k7:Keep (fun _=>True) W6 W7:=by rw [←hW7];exact kAl
 have n7:W7.heap[W6.heap.size]?=some (.cells ([bA,bC].map Value.string).toArray 9 (0,0)):=by rw [←hW7];exact qh _ _
 have z7:W7.heap.size=W6.heap.size+1:=by rw [←hW7];simp
 have ht7:=qev W7.heap.size _ _ _ _ W7 (qez (qgk Xha0.o ((k6.trans k7).mono fun _ _ _=>trivial)) (by have:=k6.size;omega)) (qjd n7 (by omega) (by decide)) (Nat.le_refl _);rw [decide_eq_true (rfl: [bA,bC]= [bA,bC])]at ht7;refine hd6 ?_ k6 k7 n7 z7 hW7 ht7;clear k6 k7 n7 z7 hW7 ht7;intro Xk6 Xk7 Xn7 Xz7 XhW7 Xht7;go_wp2_with fail;rw [XhW7.o];refine Xht7.o.mono ?_;rintro e W8 ⟨rfl,m8,hW8⟩;have k8:Keep (fun _=>True) W7 W8:=by rw [hW8];exact Keep.drewN' _ _ _
 have e1:=k8.cell (Xk7.o.cell (Xk6.o.cell Xc1.o trivial) trivial) trivial;have hb8:b<W8.heap.size:=by have:=Xk7.o.size;have:=k8.size;omega
 obtain⟨W9,hW9⟩:=ex (W8.alloc (.cells #[.string ⟨#[97]⟩,.string ⟨#[99]⟩,.string ⟨#[98]⟩] 9));have k9:Keep (fun _=>True) W8 W9:=by rw [←hW9];exact kAl
 have n9:W9.heap[W8.heap.size]?=some (.cells ([bA,bC,bB].map Value.string).toArray 9 (0,0)):=by rw [←hW9];exact qh _ _
 have z9:W9.heap.size=W8.heap.size+1:=by rw [←hW9];simp
 have k69:=((Xk6.o.trans Xk7.o).trans k8).trans k9;have ht9:=qev W9.heap.size _ _ _ _ W9 (qez (qgk Xhv0.o (k69.mono fun _ _ _=>trivial)) (by have:=k69.size;omega)) (qjd n9 (by omega) (by decide)) (Nat.le_refl _);rw [decide_eq_true (rfl: [bA,bC,bB]= [bA,bC,bB])]at ht9;refine hd8 ?_ hW8 k8 k9 n9 z9 hW9 ht9 k69;clear hW8 k8 k9 n9 z9 hW9 ht9 k69;intro XhW8 Xk8 Xk9 Xn9 Xz9 XhW9 Xht9 Xk69;go_wp2_with fail;rw [XhW9.o];refine Xht9.o.mono ?_;rintro e WA ⟨rfl,mA,hWA⟩;have kA:Keep (fun _=>True) W9 WA:=by rw [hWA];exact Keep.drewN' _ _ _
 have k5A:=Xk69.o.trans kA;have hjA:JoinIs g5 WA J qg4:=Xhj5.o.step (GStep.own (n0:=0) Xs5.o.inv k5A);obtain⟨ja,jb,jv,jq,jt,jh,hjA⟩:=hjA;have hvar:=qs5 hjA (Nat.le_refl _);rw [q3p]at hvar;refine hd5 ?_ hWA kA k5A hjA hvar;clear hWA kA k5A hjA hvar;intro XhWA XkA Xk5A XhjA Xhvar;go_wp2_with fail;refine Xhvar.o.mono ?_;rintro e WB ⟨vo,rfl,ho,kB⟩;obtain⟨ao,co,rfl⟩:=qi ho;have hso:=qcn (ss:= [bX,bZ,bY]) ho (by decide);obtain⟨WC,hWC⟩:=ex (WB.alloc (.cells #[.string ⟨#[88]⟩,.string ⟨#[90]⟩,.string ⟨#[89]⟩] 9));have kC:Keep (fun _=>True) WB WC:=by rw [←hWC];exact kAl
 have nC:WC.heap[WB.heap.size]?=some (.cells ([bX,bZ,bY].map Value.string).toArray 9 (0,0)):=by rw [←hWC];exact qh _ _
 have zC:WC.heap.size=WB.heap.size+1:=by rw [←hWC];simp
 have htC:=qev WC.heap.size _ _ _ _ WC (qez (qgk hso (kC.mono fun _ _ _=>trivial)) (by omega)) (qjd nC (by omega) (by decide)) (Nat.le_refl _);rw [decide_eq_true (rfl: [bX,bZ,bY]= [bX,bZ,bY])]at htC;refine hd8 ?_ ho kB hso hWC kC nC zC htC;clear ho kB hso hWC kC nC zC htC;intro Xho XkB Xhso XhWC XkC XnC XzC XhtC;go_wp2_with fail;rw [XhWC.o];refine XhtC.o.mono ?_;rintro e WD ⟨rfl,mD,hWD⟩;have kD:Keep (fun _=>True) WC WD:=by rw [hWD];exact Keep.drewN' _ _ _
 have kAD:=(XkB.o.trans XkC.o).trans kD;have hpo:=qny (XhjA.o.keep kAD (fun _ _=>trivial) (fun b hb=>hb.1));rw [q5t]at hpo;have hE:Keep (fun b=>b<w.heap.size) w WD:=by
  have q0:=Xk0.o.size;have q1:=Xh1.o.size;have q2:=Xk2.o.size;exact(Xk0.o.mono fun _ _ _=>trivial).trans ((Xh1.o.mono fun _ _ _=>trivial).trans ((Xk2.o.mono fun b _ h=>by omega).trans ((Xk3.o.mono fun b _ h=>by omega).trans ((Xk4.o.mono fun _ _ _=>trivial).trans ((Xs5.o.keep.mono fun b _ h=>Xhs1.o.new b (by omega) (qid b)).trans ((Xk5A.o.trans kAD).mono fun _ _ _=>trivial))))))
 refine hd5 ?_ hWD kD kAD hpo hE;clear hWD kD kAD hpo hE;intro XhWD XkD XkAD Xhpo XhE;go_wp2_with fail;refine Xhpo.o.mono ?_;rintro e w9 ⟨rfl,hw9⟩;have hw9:=hw9.symm;subst hw9;go_wp2_with fail;go_ret;exact⟨rfl,XhE.o⟩
end Go.Proofs
