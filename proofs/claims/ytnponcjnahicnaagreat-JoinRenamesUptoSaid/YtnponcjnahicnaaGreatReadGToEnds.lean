/- Parts of the proof. -/
import Derived.Test.YtnponcjnahicnaaGreatRows
import Derived.Test.YtnponcjnahicnaaGreatDataToOwnB
import Derived.WalkKit
import Derived.ProofKit
import Derived.OpenShut
import Derived.Deep.Slices
import Derived.Deep.Strs
import Derived.Lib.SmallJoins
import Derived.Test.YtnponcjnahicnaaGreatSetToRule
import Derived.Test.YtnponcjnahicnaaGreatKtAToRfB
import Derived.Carry
set_option linter.unusedSimpArgs false
set_option linter.unusedVariables false
open Go.Proofs.Tryz(prog)
open List(drop_succ_cons drop_zero flatMap_cons getElem?_eq_getElem getElem?_map getElem?_range length_append length_filter_le length_map length_range map_append map_cons map_const' map_map map_nil mem_append_left mem_append_right mem_cons_of_mem mem_cons_self mem_iff_getElem? range_succ sum_append sum_cons sum_nil sum_replicate_nat take_succ_cons take_zero)
namespace Go.Proofs
open Go.RowKit Go.Ink Go.ChangeShapes Go.WideShapes
section
variable {H : Type} {enc : TypeId × Value -> H} {w : World}
def qbe (d:DataW H):Nat:=YtnponcjnahicnaaGreat.Rows.uptoBulk d
def qob (l:List (DataW H)):Nat:=YtnponcjnahicnaaGreat.Rows.uptoBulkAll l
theorem qpf (d:DataW H):1<=qbe d:=by
 cases d with
 |lit l=>cases l<;>simp [qbe,YtnponcjnahicnaaGreat.Rows.uptoBulk]
 |nil=>simp [qbe,YtnponcjnahicnaaGreat.Rows.uptoBulk]
 |ptr d=>simp [qbe,YtnponcjnahicnaaGreat.Rows.uptoBulk]
 |slice elems spare=>simp [qbe,YtnponcjnahicnaaGreat.Rows.uptoBulk]
 |agg parts=>simp [qbe,YtnponcjnahicnaaGreat.Rows.uptoBulk]
 |iface t d=>simp [qbe,YtnponcjnahicnaaGreat.Rows.uptoBulk]
 |map entries=>simp [qbe,YtnponcjnahicnaaGreat.Rows.uptoBulk]
 |held h=>simp [qbe,YtnponcjnahicnaaGreat.Rows.uptoBulk]
theorem qns (l:List (DataW H)):qob l=(l.map qbe).sum:=by
 induction l with
 |nil=>simp [qob,YtnponcjnahicnaaGreat.Rows.uptoBulkAll]
 |cons x r ih=>
  simp only [map_cons,sum_cons,←ih];simp [qob,qbe,YtnponcjnahicnaaGreat.Rows.uptoBulkAll]
theorem qkc (l:List (DataW H)):qbe (.agg l)=(l.map qbe).sum+1:=by
 rw [←qns];simp [qob,qbe,YtnponcjnahicnaaGreat.Rows.uptoBulk]
theorem qy2 (l s:List (DataW H)):(l.map qbe).sum+1<=qbe (.slice l s):=by
 rw [←qns];simp only [qob,qbe,YtnponcjnahicnaaGreat.Rows.uptoBulk];omega
theorem qnt {n:Nat}{f g:Nat->Nat}(h: ∀i,i<n->f i<=g i):((List.range n).map f).sum<=((List.range n).map g).sum:=by
 induction n with
 |zero=>simp
 |succ n ih=>
  have h1:=ih (fun i hi=>h i (by omega));have h2:=h n (by omega);simp only [range_succ,map_append,sum_append,map_cons,map_nil,sum_cons,sum_nil];omega
theorem q1u: ∀{n:Nat} {g:Nat->Nat} {i:Nat},i<n->g i<=((List.range n).map g).sum:=by
 intro n g
 induction n with
 |zero=>intro i h;omega
 |succ n ih=>
  intro i hi;simp only [range_succ,map_append,sum_append,map_cons,map_nil,sum_cons,sum_nil];rcases Nat.lt_succ_iff_lt_or_eq.1 hi with h |rfl
  ·have:=ih h;omega
  ·omega
theorem qus {a:Addr}(h:a.spot=none)(n:Nat):a.add n=⟨a.block,a.off+n,none⟩:=by
 obtain⟨b,o,s⟩:=a;simp only at h;subst h;unfold Addr.add;split<;>simp_all
theorem qjs {α:Type}[Inhabited α]{t e:TypeId}{sz fuel:Nat}{cs:List Value}{y:DataW H×List MemPlace}{E:World->Nat->Nat->α->Prop}{size:α->Nat}
  (ht:prog.underlying t=some (.slice e)) (hc:prog.cellsOf e=sz) (hp:0<sz)
  (h:DataW.trod enc prog w 0 (fun _=>true) true fuel t cs=some y) (hb:qbe y.1<=1048576)
  (hel: ∀b off n cs' y',b<w.heap.size->(∀j v,cs'[j]?=some v->w.cell? ⟨b,off+j,none⟩=some v)->
   DataW.trod enc prog w 0 (fun _=>true) true n e cs'=some y'->qbe y'.1<=1048576-> ∃x,E w b off x/\size x<=qbe y'.1):
  ∃v xs,cs= [v]/\SliceIn w.heap.size w sz E v xs/\xs.length+1<=qbe y.1/\(xs.map size).sum+1<=qbe y.1:=by
 rcases Deep.open_slice ht h with ⟨rfl,rfl⟩ |⟨a,len,cap,m,n,D,Pl,rfl,_,hl,hm,hmm,rfl,hx⟩
 ·exact⟨_,[],rfl,⟨none,0,rfl,by simp,by simp [maxLen],by simp⟩,by simpa using qpf _,by simpa using qpf _⟩
 simp only [if_true]at hmm;simp only at hb;have hB:=qy2 ((List.range len).map D) ((List.range (m-len)).map fun j=>D (len+j));rw [map_map]at hB;have hD: ∀i,i<len->qbe (D i)<=((List.range len).map (qbe∘D)).sum:=fun i hi=>q1u (g:=qbe∘D) hi;have hone:len<=((List.range len).map (qbe∘D)).sum:=by
  have:=qnt (n:=len) (f:=fun _=>1) (g:=qbe∘D) (fun i _=>qpf _);have h1:((List.range len).map fun _=>1).sum=len:=by rw [map_const',sum_replicate_nat,length_range,Nat.mul_one]
  omega
 have ha:0<len->a.spot=none:=fun h0=>by
  obtain⟨cs',h1,_⟩:=hx 0 (by omega);obtain⟨_,hl',hcell⟩:=World.cells?_some h1;have h2:cs'[0]?=some (cs'[0]'(by omega)):=getElem?_eq_getElem _;have h3:=hcell 0 (by omega);rw [h2]at h3;simp only [Nat.zero_mul,Addr.add,if_true]at h3;unfold World.cell? at h3;split at h3
  ·split at h3
   ·cases h3
   ·rename_i hs;cases hsp:a.spot with
    |none=>rfl
    |some q=>rw [hsp] at hs;simp at hs
  ·cases h3
 have key: ∀i,i<len-> ∃x,(E w a.block (a.off+i*sz) x/\a.block<w.heap.size)/\size x<=qbe (D i):=fun i hi=>by
  have hsp:=ha (by omega);obtain⟨cs',h1,h2⟩:=hx i (by omega);obtain⟨_,hl',hcell⟩:=World.cells?_some h1;have hblk:a.block<w.heap.size:=by
   have:=World.cells?_block h1 (by omega)
   rwa [qus hsp] at this
  obtain⟨x,hE,hs⟩:=hel a.block (a.off+i*sz) n cs' _ hblk (fun j v hj=>by
   have hjl:=(List.getElem?_eq_some_iff.1 hj).1;have h3:=hcell j (by omega);rw [Deep.add_add,qus hsp,hj,hc,←Nat.add_assoc]at h3;exact h3) h2 (by have:=hD i hi;simp only;omega)
  exact⟨x,⟨hE,hblk⟩,hs⟩
 obtain⟨f,hf⟩:=Deep.choose_lt key;have hsum:=qnt (n:=len) (f:=size∘f) (g:=qbe∘D) (fun i hi=>(hf i hi).2);refine⟨_,(List.range len).map f,rfl,⟨some a,cap,by simp,by simp;omega,⟨by simpa using hl,hm⟩,fun k x hk=>?_⟩,by simp only [length_map,length_range];omega,by rw [map_map];simp only;omega⟩;have hkl:k<len:=by simpa using (List.getElem?_eq_some_iff.1 hk).1
 rw [getElem?_map,getElem?_range hkl]at hk;simp only [Option.map_some,Option.some.injEq]at hk;subst hk;refine⟨a.block,a.off,?_,(hf k hkl).1.2,(hf k hkl).1.1⟩;have hsp:=ha (by omega);obtain⟨b,o,s⟩:=a;simp only at hsp;rw [hsp]
end
section
variable {H : Type} {enc : TypeId × Value -> H} {w : World}
theorem qmc:prog.cellsOf 60=2:=by kernel_rfl
theorem qmd:prog.cellsOf 24=2:=by kernel_rfl
theorem qsb:prog.cellsOf 64=7:=by kernel_rfl
theorem qy3:prog.cellsOf 27=3:=by kernel_rfl
theorem qy4:prog.cellsOf 4=1:=by kernel_rfl
theorem qif:prog.cellsOf 9=1:=by kernel_rfl
theorem qwl:prog.cellsOf 22=1:=by kernel_rfl
theorem qy5:prog.cellsOf 25=1:=by kernel_rfl
theorem qy6:prog.cellsOf 62=1:=by kernel_rfl
def qiz (t:TermD):Prop:=t.text.size<=1048576
def qs9 (L:LitD):Prop:=(∀t,t∈L.atom.args->qiz t)/\qiz L.left/\qiz L.right
def q7z (r:RuleD):Prop:=(∀t,t∈r.head.args->qiz t)/\ ∀L,L∈r.body->qs9 L
theorem qnu {α:Type}{n:Nat}{w:World}{sz:Nat}{E:World->Nat->Nat->α->Prop}{G:α->Prop}{v:Value}{xs:List α}(h:SliceIn n w sz E v xs)(hE: ∀b o x,E w b o x->G x): ∀x,x∈xs->G x:=by
 intro x hx;obtain⟨a,cap,_,_,_,hel⟩:=h;obtain⟨k,hk⟩:=mem_iff_getElem?.1 hx;obtain⟨b,off,_,_,he⟩:=hel k x hk;exact hE _ _ _ he
set_option maxRecDepth 100000 in
theorem qnv {fuel:Nat}{cs:List Value}{y:DataW H×List MemPlace}(h:DataW.trod enc prog w 0 (fun _=>true) true fuel 60 cs=some y):
  ∃t:TermD,cs= [.bool t.var,.string t.text]/\t.text.size<=qbe y.1:=by
 obtain⟨y0,y1,n,rfl,hl,h0,h1⟩:=trod_struct2 Tryz.underlying60 h;rw [qmc]at hl
 match cs,hl with
 | [c0,c1],_=>
  simp only [qy4,qif,drop_zero,drop_succ_cons,take_succ_cons,take_zero]at h0 h1;obtain⟨b,hb,_⟩:=DataW.trod_bool Tryz.underlying4 h0;obtain⟨s,hs,hy,_⟩:=DataW.trod_string Tryz.underlying9 h1;cases hb;cases hs;refine⟨⟨b,s⟩,rfl,?_⟩;have hb1:qbe y1.1=s.size+1:=by
   rw [hy];show s.data.toList.length+1=_;rw [Array.length_toList]
   rfl
  have hb2:=qkc [y0.1,y1.1];simp only [map_cons,map_nil,sum_cons,sum_nil]at hb2;simp only [hb2];omega
set_option maxRecDepth 100000 in
theorem qy7 {fuel:Nat}{cs:List Value}{y:DataW H×List MemPlace}(h:DataW.trod enc prog w 0 (fun _=>true) true fuel 22 cs=some y)(hb:qbe y.1<=1048576):
  ∃v ts,cs= [v]/\qak w.heap.size w v ts/\ts.length+1<=qbe y.1/\ ∀t,t∈ts->qiz t:=by
 obtain⟨v,xs,h1,h2,h3,_⟩:=qjs (E:=fun w b o t=>TermE w b o t/\qiz t) (size:=fun _=>0) Tryz.underlying22 qmc (by omega) h hb (fun b off n cs' y' _ hc h' hb'=>by
  obtain⟨t,rfl,ht⟩:=qnv h';exact⟨t,⟨⟨hc 0 _ rfl,hc 1 _ rfl⟩,by unfold qiz;omega⟩,by omega⟩)
 exact⟨v,xs,h1,h2.mono fun _ _ _ _ h=>h.1,h3,qnu h2 fun _ _ _ h=>h.2⟩
set_option maxRecDepth 100000 in
theorem qsc {fuel:Nat}{cs:List Value}{y:DataW H×List MemPlace}(h:DataW.trod enc prog w 0 (fun _=>true) true fuel 24 cs=some y)(hb:qbe y.1<=1048576):
  ∃(a:qd8) (sa:Value),cs= [.string a.pred,sa]/\qak w.heap.size w sa a.args/\a.args.length+1<=qbe y.1/\ ∀t,t∈a.args->qiz t:=by
 obtain⟨y0,y1,n,rfl,hl,h0,h1⟩:=trod_struct2 Tryz.underlying24 h;rw [qmd]at hl
 match cs,hl with
 | [c0,c1],_=>
  simp only [qwl,qif,drop_zero,drop_succ_cons,take_succ_cons,take_zero]at h0 h1;simp only [qkc,map_cons,map_nil,sum_cons,sum_nil]at hb⊢;obtain⟨s,hs,_⟩:=DataW.trod_string Tryz.underlying9 h0;obtain⟨v,ts,hv,ht,hlen,hfine⟩:=qy7 h1 (by omega);cases hs;cases hv;exact⟨⟨s,ts⟩,c1,rfl,ht,by simp only;omega,hfine⟩
set_option maxRecDepth 100000 in
theorem q4f {fuel:Nat}{cs:List Value}{y:DataW H×List MemPlace}(h:DataW.trod enc prog w 0 (fun _=>true) true fuel 64 cs=some y)(hb:qbe y.1<=1048576):
  ∃(L:LitD) (sa:Value),cs=qae L sa/\qak w.heap.size w sa L.atom.args/\L.atom.args.length+1<=qbe y.1/\qs9 L:=by
 obtain⟨y0,y1,y2,y3,n,rfl,hl,h0,h1,h2,h3⟩:=Go.Joins.trod_struct4 Tryz.underlying64 h;rw [qsb]at hl
 match cs,hl with
 | [c0,c1,c2,c3,c4,c5,c6],_=>
  simp only [qy6,qmd,qmc,drop_zero,drop_succ_cons,take_succ_cons,take_zero]at h0 h1 h2 h3;simp only [qkc,map_cons,map_nil,sum_cons,sum_nil]at hb⊢;obtain⟨k,hk,_⟩:=DataW.trod_int Tryz.underlying62 h0;obtain⟨a,sa,ha,ht,hlen,hfine⟩:=qsc h1 (by omega);obtain⟨l,hl,hfl⟩:=qnv h2;obtain⟨r,hr,hfr⟩:=qnv h3;cases hk;cases ha;cases hl;cases hr;exact⟨⟨k,a,l,r⟩,c2,rfl,ht,by simp only;omega,hfine,by unfold qiz;simp only;omega,by unfold qiz;simp only;omega⟩
set_option maxRecDepth 100000 in
theorem q1v {fuel:Nat}{cs:List Value}{y:DataW H×List MemPlace}(h:DataW.trod enc prog w 0 (fun _=>true) true fuel 25 cs=some y)(hb:qbe y.1<=1048576):
  ∃v ls,cs= [v]/\qga w.heap.size w v ls/\(ls.map fun L=>L.atom.args.length+1).sum+1<=qbe y.1/\ ∀L,L∈ls->qs9 L:=by
 obtain⟨v,xs,h1,h2,_,h3⟩:=qjs (E:=fun W b o L=>LitE w.heap.size W b o L/\qs9 L) (size:=fun L:LitD=>L.atom.args.length+1) Tryz.underlying25 qsb (by omega) h hb (fun b off n cs' y' _ hc h' hb'=>by
  obtain⟨L,sa,rfl,ht,hlen,hfine⟩:=q4f h' hb';exact⟨L,⟨⟨sa,hc,ht⟩,hfine⟩,hlen⟩)
 exact⟨v,xs,h1,h2.mono fun _ _ _ _ h=>h.1,h3,qnu h2 fun _ _ _ h=>h.2⟩
def qpg (r:RuleD):Nat:=r.head.args.length+(r.body.map fun L=>L.atom.args.length+1).sum+1
set_option maxRecDepth 100000 in
theorem q1w {fuel:Nat}{cs:List Value}{y:DataW H×List MemPlace}(h:DataW.trod enc prog w 0 (fun _=>true) true fuel 27 cs=some y)(hb:qbe y.1<=1048576):
  ∃(r:RuleD) (sh sb:Value),cs= [.string r.head.pred,sh,sb]/\RuleIn w.heap.size w sh sb r/\qpg r<=qbe y.1/\q7z r:=by
 obtain⟨y0,y1,n,rfl,hl,h0,h1⟩:=trod_struct2 Tryz.underlying27 h;rw [qy3]at hl
 match cs,hl with
 | [c0,c1,c2],_=>
  simp only [qy5,qmd,drop_zero,drop_succ_cons,take_succ_cons,take_zero]at h0 h1;simp only [qkc,map_cons,map_nil,sum_cons,sum_nil]at hb⊢;obtain⟨a,sa,ha,ht,hlen,hf1⟩:=qsc h0 (by omega);obtain⟨v,ls,hv,hls,hlen2,hf2⟩:=q1v h1 (by omega);cases ha;cases hv;exact⟨⟨a,ls⟩,c1,c2,rfl,⟨ht,hls⟩,by simp only [qpg];omega,hf1,hf2⟩
end
theorem qxp (L:LitD):L.uses.length<=L.atom.args.length+2:=by
 unfold LitD.uses;rw [length_map];refine Nat.le_trans (length_filter_le _ _) ?_;unfold LitD.terms;split
 ·omega
 ·split<;>simp
theorem q4g (ls:List LitD):(ls.flatMap LitD.uses).length<=2*(ls.map fun L=>L.atom.args.length+1).sum:=by
 induction ls with
 |nil=>simp
 |cons L ls ih=>
  have:=qxp L;simp only [flatMap_cons,length_append,map_cons,sum_cons];omega
section
variable {H : Type} {enc : TypeId × Value -> H} {w : World}
theorem qqh:prog.cellsOf 52=2:=by kernel_rfl
theorem qy8:prog.cellsOf 46=1:=by kernel_rfl
def q5i (f:qm):Prop:=f.pred.size<=1048576/\f.tuple.length<=1048576
set_option maxRecDepth 100000 in
theorem qut {fuel:Nat}{cs:List Value}{y:DataW H×List MemPlace}(h:DataW.trod enc prog w 0 (fun _=>true) true fuel 9 cs=some y):
  ∃s:ByteArray,cs= [.string s]/\s.size+1=qbe y.1:=by
 obtain⟨s,hs,hy,_⟩:=DataW.trod_string Tryz.underlying9 h;refine⟨s,hs,?_⟩;rw [hy];show _=s.data.toList.length+1;rw [Array.length_toList]
 rfl
set_option maxRecDepth 100000 in
theorem q1x {fuel:Nat}{cs:List Value}{y:DataW H×List MemPlace}(h:DataW.trod enc prog w 0 (fun _=>true) true fuel 46 cs=some y)(hb:qbe y.1<=1048576):
  ∃v ts,cs= [v]/\qaf w.heap.size w v ts/\ts.length+1<=qbe y.1:=by
 obtain⟨v,xs,h1,h2,h3,_⟩:=qjs (E:=fun w b o t=>qgi w b o t) (size:=fun _=>0) Tryz.underlying46 qif (by omega) h hb (fun b off n cs' y' _ hc h' hb'=>by
  obtain⟨t,rfl,ht⟩:=qut h';exact⟨t,hc 0 _ rfl,by omega⟩)
 exact⟨v,xs,h1,h2,h3⟩
set_option maxRecDepth 100000 in
theorem qqi {fuel:Nat}{cs:List Value}{y:DataW H×List MemPlace}(h:DataW.trod enc prog w 0 (fun _=>true) true fuel 28 cs=some y)(hb:qbe y.1<=1048576):
  ∃v fs,cs= [v]/\FactsIn w.heap.size w v fs/\fs.length+1<=qbe y.1/\ ∀f,f∈fs->q5i f:=by
 obtain⟨v,xs,h1,h2,h3,_⟩:=qjs (E:=fun W b o f=>q5c w.heap.size W b o f/\q5i f) (size:=fun _=>0) Tryz.underlying28 qqh (by omega) h hb (fun b off n cs' y' _ hc h' hb'=>by
  obtain⟨y0,y1,n,rfl,hl,h0,h1⟩:=trod_struct2 Tryz.underlying52 h';rw [qqh]at hl
  match cs',hl with
  | [c0,c1],_=>
   simp only [qy8,qif,drop_zero,drop_succ_cons,take_succ_cons,take_zero]at h0 h1;simp only [qkc,map_cons,map_nil,sum_cons,sum_nil]at hb'⊢;obtain⟨s,hs,hsz⟩:=qut h0;obtain⟨v,ts,hv,ht,hlen⟩:=q1x h1 (by omega);cases hs;cases hv;exact⟨⟨s,ts⟩,⟨⟨c1,hc,ht⟩,by constructor<;>simp only<;>omega⟩,by omega⟩)
 exact⟨v,xs,h1,h2.mono fun _ _ _ _ h=>h.1,h3,qnu h2 fun _ _ _ h=>h.2⟩
end
end Go.Proofs
namespace Go.Proofs
open Go.RowKit Go.ChangeShapes Go.WideShapes
theorem quu {H:Type}{enc:TypeId×Value->H}{P:Program}(hl:laidOutB P=true){W W':World}(hb:Below W.heap.size W W'){sp:Nat->Bool}:
  ∀{ts:List TypeId} {vs:List Value} {ds:List (DataW H)} {p:List MemPlace},(∀t,t∈ts->P.readableRec t=true/\t<P.types.size)->
   DataW.TrodAll enc P W 0 (fun _=>true) true ts vs ds p->(∀x,x∈p->x.block<W.heap.size)->(∀x,x∈p->sp x.block=true)->DataW.TrodAll enc P W' 0 sp true ts vs ds p
 | [],_,_,_,_,h,_,_=>by
  obtain⟨rfl,rfl,rfl⟩:=trodAll_nil h;exact trodAll_mk0
 |t::ts,_,_,_,hr,h,h1,h2=>by
  obtain⟨v,vs1,d,ds1,a,b,rfl,rfl,rfl,k1,k2⟩:=trodAll_cons h;exact trodAll_cons_mk (WideElems.Trod_stays hl (hr t mem_cons_self).1 (hr t mem_cons_self).2 k1 (fun x hx=>hb.same (h1 x (mem_append_left _ hx))) (fun x hx=>h2 x (mem_append_left _ hx)))
   (quu hl hb (fun u hu=>hr u (mem_cons_of_mem _ hu)) k2 (fun x hx=>h1 x (mem_append_right _ hx)) (fun x hx=>h2 x (mem_append_right _ hx)))
theorem qy9 {H:Type}{enc:TypeId×Value->H}{P:Program}{f:Func}{s:ChangeSpec}{apart fresh handsOn:Bool}{W W':World}{args:Array Value}{v:Value}{ds gs:List (DataW H)}{before:List MemPlace}
  (hW:DataW.Whole enc P f.params.toList s.vars apart W args.toList ds gs before) (hv:s.vars= []) (hv2:(s.fn H (ds++gs)).vars= [])
  (hres: ∀b,DataW.TrodAll enc P W' b (fun _=>false) handsOn f.resultTypes.toList (v.resultList f.resultTypes.size) (s.fn H (ds++gs)).results [])
  (hargs:(s.fn H (ds++gs)).args=ds) (hl:laidOutB P=true) (hr: ∀t,t∈f.params.toList->P.readableRec t=true/\t<P.types.size) (hb:Below W.heap.size W W'):
  s.post enc P f apart fresh handsOn false W args v W':=by
 have hlt:=hW.lt;have hW':=hW;obtain⟨p,q,hA,hV,rfl,_,_⟩:=hW;rw [hv]at hV;obtain⟨rfl,rfl⟩:=trodVars_none hV;refine⟨ds,[],_,[],p,[],hW',hres _,?_,?_,hb.frame _,fun h=>by cases h⟩
 ·rw [hargs];exact quu hl hb hr hA (fun x hx=>hlt x (by simpa using hx)) (fun x hx=>by simpa using hlt x (by simpa using hx))
 ·rw [hv,hv2];rfl
end Go.Proofs
