/- Parts of the proof. -/
import Derived.Test.YtnponcjnahicnaaGreatRows
import Derived.Test.YtnponcjnahicnaaGreatDataToOwnB
import Derived.WalkKit
import Derived.ProofKit
import Derived.OpenShut
import Derived.Deep.Slices
import Derived.Deep.Strs
import Derived.Lib.SmallJoins
import Derived.Test.YtnponcjnahicnaaGreatSetToRule
import Derived.Test.YtnponcjnahicnaaGreatKtAToRfB
import Derived.Carry
set_option linter.unusedSimpArgs false
set_option linter.unusedVariables false
open Go.Proofs.Tryz(prog)
open List(drop_succ_cons drop_zero flatMap_cons getElem?_eq_getElem getElem?_map getElem?_range length_append length_filter_le length_map length_range map_append map_cons map_const' map_map map_nil mem_append mem_append_left mem_append_right mem_cons_of_mem mem_cons_self mem_iff_getElem? range_succ sum_append sum_cons sum_nil sum_replicate_nat take_succ_cons take_zero)
namespace Go.Proofs
open Go.RowKit Go.Ink Go.ChangeShapes Go.WideShapes
def q49 (w:World)(b o:Nat)(s:Bool):Prop:=w.cell? ⟨b,o,none⟩=some (.bool s)
abbrev qxa (n:Nat)(w:World)(v:Value)(ss:List Bool):Prop:=SliceIn n w 1 q49 v ss
section
variable {H : Type} {enc : TypeId × Value -> H} {w : World}
def qbg (d:DataW H):Nat:=YtnponcjnahicnaaGreat.Rows.uptoBulk d
def qnt (l:List (DataW H)):Nat:=YtnponcjnahicnaaGreat.Rows.uptoBulkAll l
theorem qow (d:DataW H):1<=qbg d:=by
 cases d with
 |lit l=>cases l<;>simp [qbg,YtnponcjnahicnaaGreat.Rows.uptoBulk]
 |nil=>simp [qbg,YtnponcjnahicnaaGreat.Rows.uptoBulk]
 |ptr d=>simp [qbg,YtnponcjnahicnaaGreat.Rows.uptoBulk]
 |slice elems spare=>simp [qbg,YtnponcjnahicnaaGreat.Rows.uptoBulk]
 |agg parts=>simp [qbg,YtnponcjnahicnaaGreat.Rows.uptoBulk]
 |iface t d=>simp [qbg,YtnponcjnahicnaaGreat.Rows.uptoBulk]
 |map entries=>simp [qbg,YtnponcjnahicnaaGreat.Rows.uptoBulk]
 |held h=>simp [qbg,YtnponcjnahicnaaGreat.Rows.uptoBulk]
theorem qna (l:List (DataW H)):qnt l=(l.map qbg).sum:=by
 induction l with
 |nil=>simp [qnt,YtnponcjnahicnaaGreat.Rows.uptoBulkAll]
 |cons x r ih=>
  simp only [map_cons,sum_cons,←ih];simp [qnt,qbg,YtnponcjnahicnaaGreat.Rows.uptoBulkAll]
theorem qif (l:List (DataW H)):qbg (.agg l)=(l.map qbg).sum+1:=by
 rw [←qna];simp [qnt,qbg,YtnponcjnahicnaaGreat.Rows.uptoBulk]
theorem qyr (l s:List (DataW H)):(l.map qbg).sum+1<=qbg (.slice l s):=by
 rw [←qna];simp only [qnt,qbg,YtnponcjnahicnaaGreat.Rows.uptoBulk];omega
theorem qnb {n:Nat}{f g:Nat->Nat}(h: ∀i,i<n->f i<=g i):((List.range n).map f).sum<=((List.range n).map g).sum:=by
 induction n with
 |zero=>simp
 |succ n ih=>
  have h1:=ih (fun i hi=>h i (by omega));have h2:=h n (by omega);simp only [range_succ,map_append,sum_append,map_cons,map_nil,sum_cons,sum_nil];omega
theorem q1g: ∀{n:Nat} {g:Nat->Nat} {i:Nat},i<n->g i<=((List.range n).map g).sum:=by
 intro n g
 induction n with
 |zero=>intro i h;omega
 |succ n ih=>
  intro i hi;simp only [range_succ,map_append,sum_append,map_cons,map_nil,sum_cons,sum_nil];rcases Nat.lt_succ_iff_lt_or_eq.1 hi with h |rfl
  ·have:=ih h;omega
  ·omega
theorem quc {a:Addr}(h:a.spot=none)(n:Nat):a.add n=⟨a.block,a.off+n,none⟩:=by
 obtain⟨b,o,s⟩:=a;simp only at h;subst h;unfold Addr.add;split<;>simp_all
theorem qh2 {α:Type}[Inhabited α]{t e:TypeId}{sz fuel:Nat}{cs:List Value}{y:DataW H×List MemPlace}{E:World->Nat->Nat->α->Prop}{size:α->Nat}
  (ht:prog.underlying t=some (.slice e)) (hc:prog.cellsOf e=sz) (hp:0<sz)
  (h:DataW.trod enc prog w 0 (fun _=>true) true fuel t cs=some y) (hb:qbg y.1<=1048576)
  (hel: ∀b off n cs' y',b<w.heap.size->(∀j v,cs'[j]?=some v->w.cell? ⟨b,off+j,none⟩=some v)->
   DataW.trod enc prog w 0 (fun _=>true) true n e cs'=some y'->qbg y'.1<=1048576-> ∃x,E w b off x/\size x<=qbg y'.1):
  ∃v xs,cs= [v]/\SliceIn w.heap.size w sz E v xs/\xs.length+1<=qbg y.1/\(xs.map size).sum+1<=qbg y.1:=by
 rcases Deep.open_slice ht h with ⟨rfl,rfl⟩ |⟨a,len,cap,m,n,D,Pl,rfl,_,hl,hm,hmm,rfl,hx⟩
 ·exact⟨_,[],rfl,⟨none,0,rfl,by simp,by simp [maxLen],by simp⟩,by simpa using qow _,by simpa using qow _⟩
 simp only [if_true]at hmm;simp only at hb;have hB:=qyr ((List.range len).map D) ((List.range (m-len)).map fun j=>D (len+j));rw [map_map]at hB;have hD: ∀i,i<len->qbg (D i)<=((List.range len).map (qbg∘D)).sum:=fun i hi=>q1g (g:=qbg∘D) hi;have hone:len<=((List.range len).map (qbg∘D)).sum:=by
  have:=qnb (n:=len) (f:=fun _=>1) (g:=qbg∘D) (fun i _=>qow _);have h1:((List.range len).map fun _=>1).sum=len:=by rw [map_const',sum_replicate_nat,length_range,Nat.mul_one]
  omega
 have ha:0<len->a.spot=none:=fun h0=>by
  obtain⟨cs',h1,_⟩:=hx 0 (by omega);obtain⟨_,hl',hcell⟩:=World.cells?_some h1;have h2:cs'[0]?=some (cs'[0]'(by omega)):=getElem?_eq_getElem _;have h3:=hcell 0 (by omega);rw [h2]at h3;simp only [Nat.zero_mul,Addr.add,if_true]at h3;unfold World.cell? at h3;split at h3
  ·split at h3
   ·cases h3
   ·rename_i hs;cases hsp:a.spot with
    |none=>rfl
    |some q=>rw [hsp] at hs;simp at hs
  ·cases h3
 have key: ∀i,i<len-> ∃x,(E w a.block (a.off+i*sz) x/\a.block<w.heap.size)/\size x<=qbg (D i):=fun i hi=>by
  have hsp:=ha (by omega);obtain⟨cs',h1,h2⟩:=hx i (by omega);obtain⟨_,hl',hcell⟩:=World.cells?_some h1;have hblk:a.block<w.heap.size:=by
   have:=World.cells?_block h1 (by omega)
   rwa [quc hsp] at this
  obtain⟨x,hE,hs⟩:=hel a.block (a.off+i*sz) n cs' _ hblk (fun j v hj=>by
   have hjl:=(List.getElem?_eq_some_iff.1 hj).1;have h3:=hcell j (by omega);rw [Deep.add_add,quc hsp,hj,hc,←Nat.add_assoc]at h3;exact h3) h2 (by have:=hD i hi;simp only;omega)
  exact⟨x,⟨hE,hblk⟩,hs⟩
 obtain⟨f,hf⟩:=Deep.choose_lt key;have hsum:=qnb (n:=len) (f:=size∘f) (g:=qbg∘D) (fun i hi=>(hf i hi).2);refine⟨_,(List.range len).map f,rfl,⟨some a,cap,by simp,by simp;omega,⟨by simpa using hl,hm⟩,fun k x hk=>?_⟩,by simp only [length_map,length_range];omega,by rw [map_map];simp only;omega⟩;have hkl:k<len:=by simpa using (List.getElem?_eq_some_iff.1 hk).1
 rw [getElem?_map,getElem?_range hkl]at hk;simp only [Option.map_some,Option.some.injEq]at hk;subst hk;refine⟨a.block,a.off,?_,(hf k hkl).1.2,(hf k hkl).1.1⟩;have hsp:=ha (by omega);obtain⟨b,o,s⟩:=a;simp only at hsp;rw [hsp]
end
section
variable {H : Type} {enc : TypeId × Value -> H} {w : World}
theorem qlx:prog.cellsOf 60=2:=by kernel_rfl
theorem qly:prog.cellsOf 24=2:=by kernel_rfl
theorem qrz:prog.cellsOf 64=7:=by kernel_rfl
theorem qpy:prog.cellsOf 27=3:=by kernel_rfl
theorem qpz:prog.cellsOf 4=1:=by kernel_rfl
theorem qh3:prog.cellsOf 9=1:=by kernel_rfl
theorem qv6:prog.cellsOf 22=1:=by kernel_rfl
theorem qys:prog.cellsOf 25=1:=by kernel_rfl
theorem qyt:prog.cellsOf 62=1:=by kernel_rfl
def qil (t:TermD):Prop:=t.text.size<=1048576
def qsx (L:LitD):Prop:=(∀t,t∈L.atom.args->qil t)/\qil L.left/\qil L.right
def q5a (r:RuleD):Prop:=(∀t,t∈r.head.args->qil t)/\ ∀L,L∈r.body->qsx L
theorem qkj {α:Type}{n:Nat}{w:World}{sz:Nat}{E:World->Nat->Nat->α->Prop}{G:α->Prop}{v:Value}{xs:List α}(h:SliceIn n w sz E v xs)(hE: ∀b o x,E w b o x->G x): ∀x,x∈xs->G x:=by
 intro x hx;obtain⟨a,cap,_,_,_,hel⟩:=h;obtain⟨k,hk⟩:=mem_iff_getElem?.1 hx;obtain⟨b,off,_,_,he⟩:=hel k x hk;exact hE _ _ _ he
set_option maxRecDepth 100000 in
theorem qnc {fuel:Nat}{cs:List Value}{y:DataW H×List MemPlace}(h:DataW.trod enc prog w 0 (fun _=>true) true fuel 60 cs=some y):
  ∃t:TermD,cs= [.bool t.var,.string t.text]/\t.text.size<=qbg y.1:=by
 obtain⟨y0,y1,n,rfl,hl,h0,h1⟩:=trod_struct2 Tryz.underlying60 h;rw [qlx]at hl
 match cs,hl with
 | [c0,c1],_=>
  simp only [qpz,qh3,drop_zero,drop_succ_cons,take_succ_cons,take_zero]at h0 h1;obtain⟨b,hb,_⟩:=DataW.trod_bool Tryz.underlying4 h0;obtain⟨s,hs,hy,_⟩:=DataW.trod_string Tryz.underlying9 h1;cases hb;cases hs;refine⟨⟨b,s⟩,rfl,?_⟩;have hb1:qbg y1.1=s.size+1:=by
   rw [hy];show s.data.toList.length+1=_;rw [Array.length_toList]
   rfl
  have hb2:=qif [y0.1,y1.1];simp only [map_cons,map_nil,sum_cons,sum_nil]at hb2;simp only [hb2];omega
set_option maxRecDepth 100000 in
theorem qyu {fuel:Nat}{cs:List Value}{y:DataW H×List MemPlace}(h:DataW.trod enc prog w 0 (fun _=>true) true fuel 22 cs=some y)(hb:qbg y.1<=1048576):
  ∃v ts,cs= [v]/\qaj w.heap.size w v ts/\ts.length+1<=qbg y.1/\ ∀t,t∈ts->qil t:=by
 obtain⟨v,xs,h1,h2,h3,_⟩:=qh2 (E:=fun w b o t=>TermE w b o t/\qil t) (size:=fun _=>0) Tryz.underlying22 qlx (by omega) h hb (fun b off n cs' y' _ hc h' hb'=>by
  obtain⟨t,rfl,ht⟩:=qnc h';exact⟨t,⟨⟨hc 0 _ rfl,hc 1 _ rfl⟩,by unfold qil;omega⟩,by omega⟩)
 exact⟨v,xs,h1,h2.mono fun _ _ _ _ h=>h.1,h3,qkj h2 fun _ _ _ h=>h.2⟩
set_option maxRecDepth 100000 in
theorem qr0 {fuel:Nat}{cs:List Value}{y:DataW H×List MemPlace}(h:DataW.trod enc prog w 0 (fun _=>true) true fuel 24 cs=some y)(hb:qbg y.1<=1048576):
  ∃(a:qed) (sa:Value),cs= [.string a.pred,sa]/\qaj w.heap.size w sa a.args/\a.args.length+1<=qbg y.1/\ ∀t,t∈a.args->qil t:=by
 obtain⟨y0,y1,n,rfl,hl,h0,h1⟩:=trod_struct2 Tryz.underlying24 h;rw [qly]at hl
 match cs,hl with
 | [c0,c1],_=>
  simp only [qv6,qh3,drop_zero,drop_succ_cons,take_succ_cons,take_zero]at h0 h1;simp only [qif,map_cons,map_nil,sum_cons,sum_nil]at hb⊢;obtain⟨s,hs,_⟩:=DataW.trod_string Tryz.underlying9 h0;obtain⟨v,ts,hv,ht,hlen,hfine⟩:=qyu h1 (by omega);cases hs;cases hv;exact⟨⟨s,ts⟩,c1,rfl,ht,by simp only;omega,hfine⟩
set_option maxRecDepth 100000 in
theorem q35 {fuel:Nat}{cs:List Value}{y:DataW H×List MemPlace}(h:DataW.trod enc prog w 0 (fun _=>true) true fuel 64 cs=some y)(hb:qbg y.1<=1048576):
  ∃(L:LitD) (sa:Value),cs=qaf L sa/\qaj w.heap.size w sa L.atom.args/\L.atom.args.length+1<=qbg y.1/\qsx L:=by
 obtain⟨y0,y1,y2,y3,n,rfl,hl,h0,h1,h2,h3⟩:=Go.Joins.trod_struct4 Tryz.underlying64 h;rw [qrz]at hl
 match cs,hl with
 | [c0,c1,c2,c3,c4,c5,c6],_=>
  simp only [qyt,qly,qlx,drop_zero,drop_succ_cons,take_succ_cons,take_zero]at h0 h1 h2 h3;simp only [qif,map_cons,map_nil,sum_cons,sum_nil]at hb⊢;obtain⟨k,hk,_⟩:=DataW.trod_int Tryz.underlying62 h0;obtain⟨a,sa,ha,ht,hlen,hfine⟩:=qr0 h1 (by omega);obtain⟨l,hl,hfl⟩:=qnc h2;obtain⟨r,hr,hfr⟩:=qnc h3;cases hk;cases ha;cases hl;cases hr;exact⟨⟨k,a,l,r⟩,c2,rfl,ht,by simp only;omega,hfine,by unfold qil;simp only;omega,by unfold qil;simp only;omega⟩
set_option maxRecDepth 100000 in
theorem q1h {fuel:Nat}{cs:List Value}{y:DataW H×List MemPlace}(h:DataW.trod enc prog w 0 (fun _=>true) true fuel 25 cs=some y)(hb:qbg y.1<=1048576):
  ∃v ls,cs= [v]/\qf3 w.heap.size w v ls/\(ls.map fun L=>L.atom.args.length+1).sum+1<=qbg y.1/\ ∀L,L∈ls->qsx L:=by
 obtain⟨v,xs,h1,h2,_,h3⟩:=qh2 (E:=fun W b o L=>LitE w.heap.size W b o L/\qsx L) (size:=fun L:LitD=>L.atom.args.length+1) Tryz.underlying25 qrz (by omega) h hb (fun b off n cs' y' _ hc h' hb'=>by
  obtain⟨L,sa,rfl,ht,hlen,hfine⟩:=q35 h' hb';exact⟨L,⟨⟨sa,hc,ht⟩,hfine⟩,hlen⟩)
 exact⟨v,xs,h1,h2.mono fun _ _ _ _ h=>h.1,h3,qkj h2 fun _ _ _ h=>h.2⟩
def qlz (r:RuleD):Nat:=r.head.args.length+(r.body.map fun L=>L.atom.args.length+1).sum+1
set_option maxRecDepth 100000 in
theorem q1i {fuel:Nat}{cs:List Value}{y:DataW H×List MemPlace}(h:DataW.trod enc prog w 0 (fun _=>true) true fuel 27 cs=some y)(hb:qbg y.1<=1048576):
  ∃(r:RuleD) (sh sb:Value),cs= [.string r.head.pred,sh,sb]/\RuleIn w.heap.size w sh sb r/\qlz r<=qbg y.1/\q5a r:=by
 obtain⟨y0,y1,n,rfl,hl,h0,h1⟩:=trod_struct2 Tryz.underlying27 h;rw [qpy]at hl
 match cs,hl with
 | [c0,c1,c2],_=>
  simp only [qys,qly,drop_zero,drop_succ_cons,take_succ_cons,take_zero]at h0 h1;simp only [qif,map_cons,map_nil,sum_cons,sum_nil]at hb⊢;obtain⟨a,sa,ha,ht,hlen,hf1⟩:=qr0 h0 (by omega);obtain⟨v,ls,hv,hls,hlen2,hf2⟩:=q1h h1 (by omega);cases ha;cases hv;exact⟨⟨a,ls⟩,c1,c2,rfl,⟨ht,hls⟩,by simp only [qlz];omega,hf1,hf2⟩
set_option maxRecDepth 100000 in
theorem qyv {fuel:Nat}{cs:List Value}{y:DataW H×List MemPlace}(h:DataW.trod enc prog w 0 (fun _=>true) true fuel 68 cs=some y)(hb:qbg y.1<=1048576):
  ∃v bs,cs= [v]/\qxa w.heap.size w v bs:=by
 obtain⟨v,xs,h1,h2,_⟩:=qh2 (E:=q49) (size:=fun _=>0) Tryz.underlying68 qpz (by omega) h hb (fun b off n cs' y' _ hc h' _=>by
  obtain⟨s,rfl,_⟩:=DataW.trod_bool Tryz.underlying4 h';exact⟨s,hc 0 _ rfl,by omega⟩)
 exact⟨v,xs,h1,h2⟩
end
theorem qxb (L:LitD):L.uses.length<=L.atom.args.length+2:=by
 unfold LitD.uses;rw [length_map];refine Nat.le_trans (length_filter_le _ _) ?_;unfold LitD.terms;split
 ·omega
 ·split<;>simp
theorem q36 (ls:List LitD):(ls.flatMap LitD.uses).length<=2*(ls.map fun L=>L.atom.args.length+1).sum:=by
 induction ls with
 |nil=>simp
 |cons L ls ih=>
  have:=qxb L;simp only [flatMap_cons,length_append,map_cons,sum_cons];omega
section
variable {H : Type} {enc : TypeId × Value -> H} {w : World}
theorem qp0:prog.cellsOf 52=2:=by kernel_rfl
theorem qyw:prog.cellsOf 46=1:=by kernel_rfl
def qsy (f:ql):Prop:=f.pred.size<=1048576/\f.tuple.length<=1048576/\ ∀s,s∈f.tuple->s.size<=1048576
set_option maxRecDepth 100000 in
theorem qud {fuel:Nat}{cs:List Value}{y:DataW H×List MemPlace}(h:DataW.trod enc prog w 0 (fun _=>true) true fuel 9 cs=some y):
  ∃s:ByteArray,cs= [.string s]/\s.size+1=qbg y.1:=by
 obtain⟨s,hs,hy,_⟩:=DataW.trod_string Tryz.underlying9 h;refine⟨s,hs,?_⟩;rw [hy];show _=s.data.toList.length+1;rw [Array.length_toList]
 rfl
set_option maxRecDepth 100000 in
theorem q1j {fuel:Nat}{cs:List Value}{y:DataW H×List MemPlace}(h:DataW.trod enc prog w 0 (fun _=>true) true fuel 46 cs=some y)(hb:qbg y.1<=1048576):
  ∃v ts,cs= [v]/\qae w.heap.size w v ts/\ts.length+1<=qbg y.1/\ ∀s,s∈ts->s.size<=1048576:=by
 obtain⟨v,xs,h1,h2,h3,_⟩:=qh2 (E:=fun w b o t=>qgc w b o t/\t.size<=1048576) (size:=fun _=>0) Tryz.underlying46 qh3 (by omega) h hb (fun b off n cs' y' _ hc h' hb'=>by
  obtain⟨t,rfl,ht⟩:=qud h';exact⟨t,⟨hc 0 _ rfl,by omega⟩,by omega⟩)
 exact⟨v,xs,h1,h2.mono fun _ _ _ _ h=>h.1,h3,qkj h2 fun _ _ _ h=>h.2⟩
set_option maxRecDepth 100000 in
theorem qi8 {fuel:Nat}{cs:List Value}{y:DataW H×List MemPlace}(h:DataW.trod enc prog w 0 (fun _=>true) true fuel 28 cs=some y)(hb:qbg y.1<=1048576):
  ∃v fs,cs= [v]/\FactsIn w.heap.size w v fs/\fs.length+1<=qbg y.1/\ ∀f,f∈fs->qsy f:=by
 obtain⟨v,xs,h1,h2,h3,_⟩:=qh2 (E:=fun W b o f=>q43 w.heap.size W b o f/\qsy f) (size:=fun _=>0) Tryz.underlying28 qp0 (by omega) h hb (fun b off n cs' y' _ hc h' hb'=>by
  obtain⟨y0,y1,n,rfl,hl,h0,h1⟩:=trod_struct2 Tryz.underlying52 h';rw [qp0]at hl
  match cs',hl with
  | [c0,c1],_=>
   simp only [qyw,qh3,drop_zero,drop_succ_cons,take_succ_cons,take_zero]at h0 h1;simp only [qif,map_cons,map_nil,sum_cons,sum_nil]at hb'⊢;obtain⟨s,hs,hsz⟩:=qud h0;obtain⟨v,ts,hv,ht,hlen,hsz2⟩:=q1j h1 (by omega);cases hs;cases hv;exact⟨⟨s,ts⟩,⟨⟨c1,hc,ht⟩,by simp only;omega,by simp only;omega,hsz2⟩,by omega⟩)
 exact⟨v,xs,h1,h2.mono fun _ _ _ _ h=>h.1,h3,qkj h2 fun _ _ _ h=>h.2⟩
end
section
variable {H : Type} {enc : TypeId × Value -> H} {w : World}
theorem qyx:prog.cellsOf 70=9:=by kernel_rfl
theorem qv7:prog.cellsOf 28=1:=by kernel_rfl
theorem qv8:prog.cellsOf 68=1:=by kernel_rfl
theorem q1k:prog.cellsOf 3=1:=by kernel_rfl
theorem que {P:Program}{base:Nat}{spare:Nat->Bool}{held:Bool}{t:TypeId}{f0 f1 f2 f3 f4 f5 f6:Field}{fuel:Nat}{cs:List Value}{x:DataW H×List MemPlace}(ht:P.underlying t=some (.struct #[f0,f1,f2,f3,f4,f5,f6]))(h:DataW.trod enc P w base spare held fuel t cs=some x):
  ∃y0 y1 y2 y3 y4 y5 y6 n,x.1=.agg [y0.1,y1.1,y2.1,y3.1,y4.1,y5.1,y6.1]/\cs.length=P.cellsOf t/\
   DataW.trod enc P w base spare held n f0.type ((cs.drop f0.offset).take (P.cellsOf f0.type))=some y0/\DataW.trod enc P w base spare held n f1.type ((cs.drop f1.offset).take (P.cellsOf f1.type))=some y1/\
   DataW.trod enc P w base spare held n f2.type ((cs.drop f2.offset).take (P.cellsOf f2.type))=some y2/\DataW.trod enc P w base spare held n f3.type ((cs.drop f3.offset).take (P.cellsOf f3.type))=some y3/\
   DataW.trod enc P w base spare held n f4.type ((cs.drop f4.offset).take (P.cellsOf f4.type))=some y4/\DataW.trod enc P w base spare held n f5.type ((cs.drop f5.offset).take (P.cellsOf f5.type))=some y5/\
   DataW.trod enc P w base spare held n f6.type ((cs.drop f6.offset).take (P.cellsOf f6.type))=some y6:=by
 obtain⟨xs,n,_,rfl,hl,hlen,hf⟩:=DataW.trod_struct ht h
 match xs,hlen with
 | [y0,y1,y2,y3,y4,y5,y6],_=>exact⟨y0,y1,y2,y3,y4,y5,y6,n,by simp,hl,by simpa using hf 0 f0 rfl,by simpa using hf 1 f1 rfl,by simpa using hf 2 f2 rfl,by simpa using hf 3 f3 rfl,by simpa using hf 4 f4 rfl,by simpa using hf 5 f5 rfl,by simpa using hf 6 f6 rfl⟩
set_option maxRecDepth 100000 in
theorem q1l {fuel:Nat}{cs:List Value}{y:DataW H×List MemPlace}(h:DataW.trod enc prog w 0 (fun _=>true) true fuel 70 cs=some y)(hb:qbg y.1<=1048576):
  ∃(r:RuleD) (sh sb vk vo vd va vn vc:Value) (fo fd fa fn:List ql) (cut:List Bool),cs= [.string r.head.pred,sh,sb,vk,vo,vd,va,vn,vc]/\RuleIn w.heap.size w sh sb r/\FactsIn w.heap.size w vo fo/\FactsIn w.heap.size w vd fd/\FactsIn w.heap.size w va fa/\FactsIn w.heap.size w vn fn/\qxa w.heap.size w vc cut/\
   qlz r<=1048576/\q5a r/\(∀f,f∈fo++fd++fa++fn->qsy f)/\fo.length+fd.length+fa.length+fn.length<=1048576:=by
 obtain⟨y0,y1,y2,y3,y4,y5,y6,n,hy,hl,h0,h1,h2,h3,h4,h5,h6⟩:=que Tryz.underlying70 h;rw [hy,qif]at hb;simp only [map_cons,map_nil,sum_cons,sum_nil]at hb;rw [qyx]at hl
 match cs,hl with
 | [c0,c1,c2,c3,c4,c5,c6,c7,c8],_=>
  simp only [qpy,q1k,qv7,qv8,drop_zero,drop_succ_cons,take_succ_cons,take_zero]at h0 h1 h2 h3 h4 h5 h6;obtain⟨r,sh,sb,e0,hr,hrs,hfine⟩:=q1i h0 (by omega);obtain⟨v2,fo,e2,i2,l2,n2⟩:=qi8 h2 (by omega);obtain⟨v3,fd,e3,i3,l3,n3⟩:=qi8 h3 (by omega);obtain⟨v4,fa,e4,i4,l4,n4⟩:=qi8 h4 (by omega);obtain⟨v5,fn,e5,i5,l5,n5⟩:=qi8 h5 (by omega);obtain⟨v6,cut,e6,i6⟩:=qyv h6 (by omega);cases e0;cases e2;cases e3;cases e4;cases e5;cases e6;refine⟨r,_,_,c3,_,_,_,_,_,fo,fd,fa,fn,cut,rfl,hr,i2,i3,i4,i5,i6,by omega,hfine,fun f hf=>?_,by omega⟩;rcases mem_append.1 hf with hf |hf
  ·rcases mem_append.1 hf with hf |hf
   ·rcases mem_append.1 hf with hf |hf
    ·exact n2 f hf
    ·exact n3 f hf
   ·exact n4 f hf
  ·exact n5 f hf
end
end Go.Proofs
namespace Go.Proofs
open Go.RowKit Go.ChangeShapes Go.WideShapes
theorem quf {H:Type}{enc:TypeId×Value->H}{P:Program}(hl:laidOutB P=true){W W':World}(hb:Below W.heap.size W W'){sp:Nat->Bool}:
  ∀{ts:List TypeId} {vs:List Value} {ds:List (DataW H)} {p:List MemPlace},(∀t,t∈ts->P.readableRec t=true/\t<P.types.size)->
   DataW.TrodAll enc P W 0 (fun _=>true) true ts vs ds p->(∀x,x∈p->x.block<W.heap.size)->(∀x,x∈p->sp x.block=true)->DataW.TrodAll enc P W' 0 sp true ts vs ds p
 | [],_,_,_,_,h,_,_=>by
  obtain⟨rfl,rfl,rfl⟩:=trodAll_nil h;exact trodAll_mk0
 |t::ts,_,_,_,hr,h,h1,h2=>by
  obtain⟨v,vs1,d,ds1,a,b,rfl,rfl,rfl,k1,k2⟩:=trodAll_cons h;exact trodAll_cons_mk (WideElems.Trod_stays hl (hr t mem_cons_self).1 (hr t mem_cons_self).2 k1 (fun x hx=>hb.same (h1 x (mem_append_left _ hx))) (fun x hx=>h2 x (mem_append_left _ hx)))
   (quf hl hb (fun u hu=>hr u (mem_cons_of_mem _ hu)) k2 (fun x hx=>h1 x (mem_append_right _ hx)) (fun x hx=>h2 x (mem_append_right _ hx)))
theorem qyy {H:Type}{enc:TypeId×Value->H}{P:Program}{f:Func}{s:ChangeSpec}{apart fresh handsOn:Bool}{W W':World}{args:Array Value}{v:Value}{ds gs:List (DataW H)}{before:List MemPlace}
  (hW:DataW.Whole enc P f.params.toList s.vars apart W args.toList ds gs before) (hv:s.vars= []) (hv2:(s.fn H (ds++gs)).vars= [])
  (hres: ∀b,DataW.TrodAll enc P W' b (fun _=>false) handsOn f.resultTypes.toList (v.resultList f.resultTypes.size) (s.fn H (ds++gs)).results [])
  (hargs:(s.fn H (ds++gs)).args=ds) (hl:laidOutB P=true) (hr: ∀t,t∈f.params.toList->P.readableRec t=true/\t<P.types.size) (hb:Below W.heap.size W W'):
  s.post enc P f apart fresh handsOn false W args v W':=by
 have hlt:=hW.lt;have hW':=hW;obtain⟨p,q,hA,hV,rfl,_,_⟩:=hW;rw [hv]at hV;obtain⟨rfl,rfl⟩:=trodVars_none hV;refine⟨ds,[],_,[],p,[],hW',hres _,?_,?_,hb.frame _,fun h=>by cases h⟩
 ·rw [hargs];exact quf hl hb hr hA (fun x hx=>hlt x (by simpa using hx)) (fun x hx=>by simpa using hlt x (by simpa using hx))
 ·rw [hv,hv2];rfl
end Go.Proofs
