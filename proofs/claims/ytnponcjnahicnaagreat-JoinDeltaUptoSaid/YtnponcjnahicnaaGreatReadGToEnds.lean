/- Parts of the proof. -/
import Derived.Test.YtnponcjnahicnaaGreatRows
import Derived.Lib.SmallJoins
import Derived.Test.YtnponcjnahicnaaGreatKtAToRfD
set_option linter.unusedSimpArgs false
set_option linter.unusedVariables false
set_option maxRecDepth 100000
open Go.Proofs.Tryz(prog)
open List(drop_succ_cons drop_zero length_range map_const' map_map mem_append_right sum_append sum_cons sum_nil sum_replicate_nat take_succ_cons take_zero)
namespace Go.Proofs
open Go.RowKit Go.Ink Go.ChangeShapes Go.WideShapes
def q6r (w:World)(b o:Nat)(s:Bool):Prop:=w.cell? ⟨b,o,none⟩=some (.bool s)
abbrev qyl (n:Nat)(w:World)(v:Value)(ss:List Bool):Prop:=SliceIn n w 1 q6r v ss
section
variable {H : Type} {enc : TypeId × Value -> H} {w : World}
def qbp (d:DataW H):Nat:=YtnponcjnahicnaaGreat.Rows.uptoBulk d
def qoj (l:List (DataW H)):Nat:=YtnponcjnahicnaaGreat.Rows.uptoBulkAll l
theorem qpt (d:DataW H):1<=qbp d:=by
 cases d with
 |lit l=>cases l<;>simp [qbp,YtnponcjnahicnaaGreat.Rows.uptoBulk]
 |nil=>simp [qbp,YtnponcjnahicnaaGreat.Rows.uptoBulk]
 |ptr d=>simp [qbp,YtnponcjnahicnaaGreat.Rows.uptoBulk]
 |slice elems spare=>simp [qbp,YtnponcjnahicnaaGreat.Rows.uptoBulk]
 |agg parts=>simp [qbp,YtnponcjnahicnaaGreat.Rows.uptoBulk]
 |iface t d=>simp [qbp,YtnponcjnahicnaaGreat.Rows.uptoBulk]
 |map entries=>simp [qbp,YtnponcjnahicnaaGreat.Rows.uptoBulk]
 |held h=>simp [qbp,YtnponcjnahicnaaGreat.Rows.uptoBulk]
theorem qnv (l:List (DataW H)):qoj l=(l.map qbp).sum:=by
 induction l with
 |nil=>simp [qoj,YtnponcjnahicnaaGreat.Rows.uptoBulkAll]
 |cons x r ih=>
  simp only [yZ,sum_cons,←ih];simp [qoj,qbp,YtnponcjnahicnaaGreat.Rows.uptoBulkAll]
theorem qi2 (l:List (DataW H)):qbp (.agg l)=(l.map qbp).sum+1:=by
 rw [←qnv];simp [qoj,qbp,YtnponcjnahicnaaGreat.Rows.uptoBulk]
theorem qz6 (l s:List (DataW H)):(l.map qbp).sum+1<=qbp (.slice l s):=by
 rw [←qnv];simp only [qoj,qbp,YtnponcjnahicnaaGreat.Rows.uptoBulk];omega
theorem qnw {n:Nat}{f g:Nat->Nat}(h: ∀i,i<n->f i<=g i):((List.range n).map f).sum<=((List.range n).map g).sum:=by
 induction n with
 |zero=>simp
 |succ n ih=>
  have b:=ih (fun i hi=>h i wC);have c:=h n wC;simp only [xz,zn,sum_append,yZ,xk,sum_cons,sum_nil];omega
theorem q25: ∀{n:Nat} {g:Nat->Nat} {i:Nat},i<n->g i<=((List.range n).map g).sum:=by
 intro n g
 induction n with
 |zero=>intro i h;omega
 |succ n ih=>
  intro i hi;simp only [xz,zn,sum_append,yZ,xk,sum_cons,sum_nil];rcases Nat.lt_succ_iff_lt_or_eq.1 hi with h |rfl
  ·have:=ih h;omega
  ·omega
theorem qva {a:Addr}(h:a.spot=none)(n:Nat):a.add n=⟨a.block,a.off+n,none⟩:=by
 obtain⟨b,o,s⟩:=a;simp only at h;subst h;unfold Addr.add;split<;>simp_all
theorem qil {α:Type}[Inhabited α]{t e:TypeId}{sz z:Nat}{cs:List Value}{y:DataW H×List MemPlace}{E:World->Nat->Nat->α->Prop}{size:α->Nat}
  (ht:prog.underlying t=some (.slice e)) (hc:prog.cellsOf e=sz) (hp:0<sz)
  (h:DataW.trod enc prog w 0 (fun _=>true) true z t cs=some y) (hb:qbp y.1<=1048576)
  (ab: ∀b off n cs' y',b<w.heap.size->(∀j v,cs'[j]?=some v->w.cell? ⟨b,off+j,none⟩=some v)->
   DataW.trod enc prog w 0 (fun _=>true) true n e cs'=some y'->qbp y'.1<=1048576-> ∃x,E w b off x/\size x<=qbp y'.1):
  ∃v xs,cs= [v]/\SliceIn w.heap.size w sz E v xs/\xs.length+1<=qbp y.1/\(xs.map size).sum+1<=qbp y.1:=by
 rcases Deep.open_slice ht h with ⟨rfl,rfl⟩ |⟨a,len,cap,m,n,D,Pl,rfl,_,hl,hm,hmm,rfl,hx⟩
 ·exact⟨_,[],rfl,⟨none,0,rfl,wE,by simp [maxLen],wE⟩,by simpa using qpt _,by simpa using qpt _⟩
 simp only [yj]at hmm;simp only at hb;have hB:=qz6 ((List.range len).map D) ((List.range (m-len)).map fun j=>D (len+j));rw [map_map]at hB;have hD: ∀i,i<len->qbp (D i)<=((List.range len).map (qbp∘D)).sum:=fun i hi=>q25 (g:=qbp∘D) hi;have ag:len<=((List.range len).map (qbp∘D)).sum:=by
  have:=qnw (n:=len) (f:=fun _=>1) (g:=qbp∘D) (fun i _=>qpt _);have u:((List.range len).map fun _=>1).sum=len:=by rw [map_const',sum_replicate_nat,length_range,yB]
  omega
 have ha:0<len->a.spot=none:=fun h0=>by
  obtain⟨cs',u,_⟩:=hx 0 wC;obtain⟨_,Y,c⟩:=World.cells?_some u;have h2:cs'[0]?=some (cs'[0]' wC):=zB _;have l:=c 0 wC;rw [h2]at l;simp only [Nat.zero_mul,Addr.add,yj]at l;unfold World.cell? at l;split at l
  ·split at l
   ·cases l
   ·rename_i R;cases d:a.spot with
    |none=>rfl
    |some q=>rw [d] at R;simp at R
  ·cases l
 have key: ∀i,i<len-> ∃x,(E w a.block (a.off+i*sz) x/\a.block<w.heap.size)/\size x<=qbp (D i):=fun i hi=>by
  have d:=ha wC;obtain⟨cs',u,h2⟩:=hx i wC;obtain⟨_,Y,c⟩:=World.cells?_some u;have p:a.block<w.heap.size:=by
   have:=World.cells?_block u wC
   rwa [qva d] at this
  obtain⟨x,hE,R⟩:=ab a.block (a.off+i*sz) n cs' _ p (fun j v hj=>by
   have an:=(zA.1 hj).1;have l:=c j wC;rw [Deep.add_add,qva d,hj,hc,←xI]at l;exact l) h2 (by have:=hD i hi;simp only;omega)
  exact⟨x,⟨hE,p⟩,R⟩
 obtain⟨f,X⟩:=Deep.choose_lt key;have ah:=qnw (n:=len) (f:=size∘f) (g:=qbp∘D) (fun i hi=>(X i hi).2);refine⟨_,(List.range len).map f,rfl,⟨some a,cap,wE,by simp;omega,⟨by simpa using hl,hm⟩,fun k x U=>?_⟩,by simp only [zL,length_range];omega,by rw [map_map];simp only;omega⟩;have r:k<len:=by simpa using (zA.1 U).1
 rw [zP,xu r]at U;simp only [Option.map_some,yd]at U;subst U;refine⟨a.block,a.off,?_,(X k r).1.2,(X k r).1.1⟩;have d:=ha wC;obtain⟨b,o,s⟩:=a;simp only at d;rw [d]
end
section
variable {H : Type} {enc : TypeId × Value -> H} {w : World}
theorem qmc:prog.cellsOf 60=2:=wD
theorem qmd:prog.cellsOf 24=2:=wD
theorem qsu:prog.cellsOf 64=7:=wD
theorem qqx:prog.cellsOf 27=3:=wD
theorem qqy:prog.cellsOf 4=1:=wD
theorem qim:prog.cellsOf 9=1:=wD
theorem qxf:prog.cellsOf 22=1:=wD
theorem qz7:prog.cellsOf 25=1:=wD
theorem qz8:prog.cellsOf 62=1:=wD
def qin (t:TermD):Prop:=t.text.size<=1048576
def qtr (a:qcn):Prop:=a.pred.size<=1048576/\ ∀t,t∈a.args->qin t
def qts (L:LitD):Prop:=qtr L.atom/\qin L.left/\qin L.right
def q6s (r:RuleD):Prop:=qtr r.head/\ ∀L,L∈r.body->qts L
theorem qku {α:Type}{n:Nat}{w:World}{sz:Nat}{E:World->Nat->Nat->α->Prop}{G:α->Prop}{v:Value}{xs:List α}(h:SliceIn n w sz E v xs)(l: ∀b o x,E w b o x->G x): ∀x,x∈xs->G x:=by
 intro x d;obtain⟨a,cap,_,_,_,c⟩:=h;obtain⟨k,e⟩:=zy.1 d;obtain⟨b,off,_,_,g⟩:=c k x e;exact l _ _ _ g
theorem qnx {c:Nat}{e:List Value}{y:DataW H×List MemPlace}(h:DataW.trod enc prog w 0 (fun _=>true) true c 60 e=some y):
  ∃t:TermD,e= [.bool t.var,.string t.text]/\t.text.size<=qbp y.1:=by
 obtain⟨q,p,n,rfl,g,m,l⟩:=trod_struct2 Tryz.underlying60 h;rw [qmc]at g
 match e,g with
 | [c0,c1],_=>
  simp only [qqy,qim,drop_zero,drop_succ_cons,take_succ_cons,take_zero]at m l;obtain⟨b,r,_⟩:=DataW.trod_bool Tryz.underlying4 m;obtain⟨s,x,u,_⟩:=DataW.trod_string Tryz.underlying9 l;cases r;cases x;refine⟨⟨b,s⟩,rfl,?_⟩;have v:qbp p.1=s.size+1:=by
   rw [u];show s.data.toList.length+1=_;rw [Array.length_toList]
   rfl
  have d:=qi2 [q.1,p.1];simp only [yZ,xk,sum_cons,sum_nil]at d;simp only [d];omega
theorem qz9 {c:Nat}{d:List Value}{y:DataW H×List MemPlace}(h:DataW.trod enc prog w 0 (fun _=>true) true c 22 d=some y)(l:qbp y.1<=1048576):
  ∃v ts,d= [v]/\qai w.heap.size w v ts/\ts.length+1<=qbp y.1/\ ∀t,t∈ts->qin t:=by
 obtain⟨v,xs,p,e,r,_⟩:=qil (E:=fun w b o t=>TermE w b o t/\qin t) (size:=fun _=>0) Tryz.underlying22 qmc wC h l (fun b off n q x _ g m s=>by
  obtain⟨t,rfl,u⟩:=qnx m;exact⟨t,⟨⟨g 0 _ rfl,g 1 _ rfl⟩,by unfold qin;omega⟩,wC⟩)
 exact⟨v,xs,p,e.mono fun _ _ _ _ h=>h.1,r,qku e fun _ _ _ h=>h.2⟩
theorem qsv {c:Nat}{d:List Value}{y:DataW H×List MemPlace}(h:DataW.trod enc prog w 0 (fun _=>true) true c 24 d=some y)(q:qbp y.1<=1048576):
  ∃(a:qcn) (sa:Value),d= [.string a.pred,sa]/\qai w.heap.size w sa a.args/\a.args.length+1<=qbp y.1/\qtr a:=by
 obtain⟨p,R,n,rfl,e,m,g⟩:=trod_struct2 Tryz.underlying24 h;rw [qmd]at e
 match d,e with
 | [c0,c1],_=>
  simp only [qxf,qim,drop_zero,drop_succ_cons,take_succ_cons,take_zero]at m g;simp only [qi2,yZ,xk,sum_cons,sum_nil]at q⊢;obtain⟨s,x,t,_⟩:=DataW.trod_string Tryz.underlying9 m;obtain⟨v,ts,u,r,l,b⟩:=qz9 g wC;have z:qbp p.1=s.size+1:=by
   rw [t];show s.data.toList.length+1=_;rw [Array.length_toList]
   rfl
  cases x;cases u;exact⟨⟨s,ts⟩,c1,rfl,r,by simp only;omega,by simp only;omega,b⟩
theorem q5t {c:Nat}{e:List Value}{y:DataW H×List MemPlace}(h:DataW.trod enc prog w 0 (fun _=>true) true c 64 e=some y)(t:qbp y.1<=1048576):
  ∃(L:LitD) (sa:Value),e=qal L sa/\qai w.heap.size w sa L.atom.args/\L.atom.args.length+1<=qbp y.1/\qts L:=by
 obtain⟨X,y1,Y,y3,n,rfl,d,p,g,q,s⟩:=Go.Joins.trod_struct4 Tryz.underlying64 h;rw [qsu]at d
 match e,d with
 | [c0,c1,c2,c3,c4,c5,c6],_=>
  simp only [qz8,qmd,qmc,drop_zero,drop_succ_cons,take_succ_cons,take_zero]at p g q s;simp only [qi2,yZ,xk,sum_cons,sum_nil]at t⊢;obtain⟨k,v,_⟩:=DataW.trod_int Tryz.underlying62 p;obtain⟨a,sa,z,u,m,b⟩:=qsv g wC;obtain⟨l,d,R⟩:=qnx q;obtain⟨r,U,x⟩:=qnx s;cases v;cases z;cases d;cases U;exact⟨⟨k,a,l,r⟩,c2,rfl,u,by simp only;omega,b,by unfold qin;simp only;omega,by unfold qin;simp only;omega⟩
theorem q26 {e:Nat}{l:List Value}{y:DataW H×List MemPlace}(h:DataW.trod enc prog w 0 (fun _=>true) true e 25 l=some y)(p:qbp y.1<=1048576):
  ∃v ls,l= [v]/\qgh w.heap.size w v ls/\(ls.map fun L=>L.atom.args.length+1).sum+1<=qbp y.1/\ ∀L,L∈ls->qts L:=by
 obtain⟨v,xs,s,m,_,x⟩:=qil (E:=fun W b o L=>LitE w.heap.size W b o L/\qts L) (size:=fun L:LitD=>L.atom.args.length+1) Tryz.underlying25 qsu wC h p (fun b off n u z _ t r g=>by
  obtain⟨L,sa,rfl,q,d,c⟩:=q5t r g;exact⟨L,⟨⟨sa,t,q⟩,c⟩,d⟩)
 exact⟨v,xs,s,m.mono fun _ _ _ _ h=>h.1,x,qku m fun _ _ _ h=>h.2⟩
def qme (r:RuleD):Nat:=r.head.args.length+(r.body.map fun L=>L.atom.args.length+1).sum+1
theorem q27 {b:Nat}{c:List Value}{y:DataW H×List MemPlace}(h:DataW.trod enc prog w 0 (fun _=>true) true b 27 c=some y)(t:qbp y.1<=1048576):
  ∃(r:RuleD) (sh sb:Value),c= [.string r.head.pred,sh,sb]/\RuleIn w.heap.size w sh sb r/\qme r<=qbp y.1/\q6s r:=by
 obtain⟨R,U,n,rfl,m,s,p⟩:=trod_struct2 Tryz.underlying27 h;rw [qqx]at m
 match c,m with
 | [c0,c1,c2],_=>
  simp only [qz7,qmd,drop_zero,drop_succ_cons,take_succ_cons,take_zero]at s p;simp only [qi2,yZ,xk,sum_cons,sum_nil]at t⊢;obtain⟨a,sa,x,u,q,e⟩:=qsv s wC;obtain⟨v,ls,z,g,d,l⟩:=q26 p wC;cases x;cases z;exact⟨⟨a,ls⟩,c1,c2,rfl,⟨u,g⟩,by simp only [qme];omega,e,l⟩
theorem q0a {c:Nat}{d:List Value}{y:DataW H×List MemPlace}(h:DataW.trod enc prog w 0 (fun _=>true) true c 68 d=some y)(e:qbp y.1<=1048576):
  ∃v bs,d= [v]/\qyl w.heap.size w v bs:=by
 obtain⟨v,xs,l,m,_⟩:=qil (E:=q6r) (size:=fun _=>0) Tryz.underlying68 qqy wC h e (fun b off n q r _ p g _=>by
  obtain⟨s,rfl,_⟩:=DataW.trod_bool Tryz.underlying4 g;exact⟨s,p 0 _ rfl,wC⟩)
 exact⟨v,xs,l,m⟩
end
theorem qym (L:LitD):L.uses.length<=L.atom.args.length+2:=by
 unfold LitD.uses;rw [zL];refine zW (yf _ _) ?_;unfold LitD.terms;split
 ·omega
 ·split<;>simp
theorem q5u (ls:List LitD):(ls.flatMap LitD.uses).length<=2*(ls.map fun L=>L.atom.args.length+1).sum:=by
 induction ls with
 |nil=>simp
 |cons L ls ih=>
  have:=qym L;simp only [yF,zR,yZ,sum_cons];omega
section
variable {H : Type} {enc : TypeId × Value -> H} {w : World}
theorem qqz:prog.cellsOf 52=2:=wD
theorem q0b:prog.cellsOf 46=1:=wD
def qtt (f:qk):Prop:=f.pred.size<=1048576/\f.tuple.length<=1048576/\ ∀s,s∈f.tuple->s.size<=1048576
theorem qvb {b:Nat}{c:List Value}{y:DataW H×List MemPlace}(h:DataW.trod enc prog w 0 (fun _=>true) true b 9 c=some y):
  ∃s:ByteArray,c= [.string s]/\s.size+1=qbp y.1:=by
 obtain⟨s,e,d,_⟩:=DataW.trod_string Tryz.underlying9 h;refine⟨s,e,?_⟩;rw [d];show _=s.data.toList.length+1;rw [Array.length_toList]
 rfl
theorem q28 {c:Nat}{d:List Value}{y:DataW H×List MemPlace}(h:DataW.trod enc prog w 0 (fun _=>true) true c 46 d=some y)(g:qbp y.1<=1048576):
  ∃v ts,d= [v]/\qac w.heap.size w v ts/\ts.length+1<=qbp y.1/\ ∀s,s∈ts->s.size<=1048576:=by
 obtain⟨v,xs,m,e,r,_⟩:=qil (E:=fun w b o t=>qgr w b o t/\t.size<=1048576) (size:=fun _=>0) Tryz.underlying46 qim wC h g (fun b off n q z _ p l u=>by
  obtain⟨t,rfl,x⟩:=qvb l;exact⟨t,⟨p 0 _ rfl,wC⟩,wC⟩)
 exact⟨v,xs,m,e.mono fun _ _ _ _ h=>h.1,r,qku e fun _ _ _ h=>h.2⟩
theorem qjs {c:Nat}{m:List Value}{y:DataW H×List MemPlace}(h:DataW.trod enc prog w 0 (fun _=>true) true c 28 m=some y)(u:qbp y.1<=1048576):
  ∃v fs,m= [v]/\FactsIn w.heap.size w v fs/\fs.length+1<=qbp y.1/\ ∀f,f∈fs->qtt f:=by
 obtain⟨v,xs,e,t,h3,_⟩:=qil (E:=fun W b o f=>q6m w.heap.size W b o f/\qtt f) (size:=fun _=>0) Tryz.underlying28 qqz wC h u (fun b off n g y' _ R z l=>by
  obtain⟨y0,y1,n,rfl,p,r,e⟩:=trod_struct2 Tryz.underlying52 z;rw [qqz]at p
  match g,p with
  | [c0,c1],_=>
   simp only [q0b,qim,drop_zero,drop_succ_cons,take_succ_cons,take_zero]at r e;simp only [qi2,yZ,xk,sum_cons,sum_nil]at l⊢;obtain⟨s,X,Y⟩:=qvb r;obtain⟨v,ts,U,x,q,d⟩:=q28 e wC;cases X;cases U;exact⟨⟨s,ts⟩,⟨⟨c1,R,x⟩,by simp only;omega,by simp only;omega,d⟩,wC⟩)
 exact⟨v,xs,e,t.mono fun _ _ _ _ h=>h.1,h3,qku t fun _ _ _ h=>h.2⟩
end
section
variable {H : Type} {enc : TypeId × Value -> H} {w : World}
theorem q0c:prog.cellsOf 70=9:=wD
theorem qxg:prog.cellsOf 28=1:=wD
theorem qxh:prog.cellsOf 68=1:=wD
theorem q29:prog.cellsOf 3=1:=wD
theorem qvc {P:Program}{base:Nat}{b:Nat->Bool}{c:Bool}{t:TypeId}{s g u v m r l:Field}{q:Nat}{d:List Value}{x:DataW H×List MemPlace}(y:P.underlying t=some (.struct #[s,g,u,v,m,r,l]))(h:DataW.trod enc P w base b c q t d=some x):
  ∃y0 y1 y2 y3 y4 y5 y6 n,x.1=.agg [y0.1,y1.1,y2.1,y3.1,y4.1,y5.1,y6.1]/\d.length=P.cellsOf t/\
   DataW.trod enc P w base b c n s.type ((d.drop s.offset).take (P.cellsOf s.type))=some y0/\DataW.trod enc P w base b c n g.type ((d.drop g.offset).take (P.cellsOf g.type))=some y1/\
   DataW.trod enc P w base b c n u.type ((d.drop u.offset).take (P.cellsOf u.type))=some y2/\DataW.trod enc P w base b c n v.type ((d.drop v.offset).take (P.cellsOf v.type))=some y3/\
   DataW.trod enc P w base b c n m.type ((d.drop m.offset).take (P.cellsOf m.type))=some y4/\DataW.trod enc P w base b c n r.type ((d.drop r.offset).take (P.cellsOf r.type))=some y5/\
   DataW.trod enc P w base b c n l.type ((d.drop l.offset).take (P.cellsOf l.type))=some y6:=by
 obtain⟨xs,n,_,rfl,z,p,e⟩:=DataW.trod_struct y h
 match xs,p with
 | [y0,y1,y2,y3,y4,y5,y6],_=>exact⟨y0,y1,y2,y3,y4,y5,y6,n,wE,z,by simpa using e 0 s rfl,by simpa using e 1 g rfl,by simpa using e 2 u rfl,by simpa using e 3 v rfl,by simpa using e 4 m rfl,by simpa using e 5 r rfl,by simpa using e 6 l rfl⟩
theorem q3a {d:Nat}{e:List Value}{y:DataW H×List MemPlace}(h:DataW.trod enc prog w 0 (fun _=>true) true d 70 e=some y)(l:qbp y.1<=1048576):
  ∃(r:RuleD) (k:Int) (sh sb vo vd va vn vc:Value) (fo fd fa fn:List qk) (cut:List Bool),e= [.string r.head.pred,sh,sb,.int .i64 k,vo,vd,va,vn,vc]/\RuleIn w.heap.size w sh sb r/\FactsIn w.heap.size w vo fo/\FactsIn w.heap.size w vd fd/\FactsIn w.heap.size w va fa/\FactsIn w.heap.size w vn fn/\qyl w.heap.size w vc cut/\
   qme r<=1048576/\q6s r/\(∀f,f∈fo++fd++fa++fn->qtt f)/\fo.length+fd.length+fa.length+fn.length<=1048576:=by
 obtain⟨y0,y1,y2,y3,y4,y5,y6,n,Y,s,t,m,p,v,u,g,q⟩:=qvc Tryz.underlying70 h;rw [Y,qi2]at l;simp only [yZ,xk,sum_cons,sum_nil]at l;rw [q0c]at s
 match e,s with
 | [c0,c1,c2,c3,c4,c5,c6,c7,c8],_=>
  simp only [qqx,q29,qxg,qxh,drop_zero,drop_succ_cons,take_succ_cons,take_zero]at t m p v u g q;obtain⟨r,sh,sb,e0,hr,ad,c⟩:=q27 t wC;obtain⟨k,e1,_⟩:=DataW.trod_int Tryz.underlying3 m;obtain⟨v2,fo,U,i2,l2,n2⟩:=qjs p wC;obtain⟨v3,fd,e3,x,l3,n3⟩:=qjs v wC;obtain⟨v4,fa,e4,i4,l4,n4⟩:=qjs u wC;obtain⟨v5,fn,X,z,l5,n5⟩:=qjs g wC;obtain⟨v6,cut,R,i6⟩:=q0a q wC;cases e0;cases e1;cases U;cases e3;cases e4;cases X;cases R;refine⟨r,k,_,_,_,_,_,_,_,fo,fd,fa,fn,cut,rfl,hr,i2,x,i4,z,i6,wC,c,fun f b=>?_,wC⟩;rcases zr.1 b with b |b
  ·rcases zr.1 b with b |b
   ·rcases zr.1 b with b |b
    ·exact n2 f b
    ·exact n3 f b
   ·exact n4 f b
  ·exact n5 f b
end
end Go.Proofs
namespace Go.Proofs
open Go.RowKit Go.ChangeShapes Go.WideShapes
theorem qvd {H:Type}{enc:TypeId×Value->H}{P:Program}(g:laidOutB P=true){W m:World}(e:Below W.heap.size W m){l:Nat->Bool}:
  ∀{ts:List TypeId} {vs:List Value} {ds:List (DataW H)} {p:List MemPlace},(∀t,t∈ts->P.readableRec t=true/\t<P.types.size)->
   DataW.TrodAll enc P W 0 (fun _=>true) true ts vs ds p->(∀x,x∈p->x.block<W.heap.size)->(∀x,x∈p->l x.block=true)->DataW.TrodAll enc P m 0 l true ts vs ds p
 | [],_,_,_,_,h,_,_=>by
  obtain⟨rfl,rfl,rfl⟩:=trodAll_nil h;exact trodAll_mk0
 |t::ts,_,_,_,hr,h,h1,h2=>by
  obtain⟨v,s,d,y,a,b,rfl,rfl,rfl,q,r⟩:=trodAll_cons h;exact trodAll_cons_mk (WideElems.Trod_stays g (hr t yJ).1 (hr t yJ).2 q (fun x c=>e.same (h1 x (xf _ c))) (fun x c=>h2 x (xf _ c)))
   (qvd g e (fun u z=>hr u (yD _ z)) r (fun x c=>h1 x (mem_append_right _ c)) (fun x c=>h2 x (mem_append_right _ c)))
theorem q0d {H:Type}{enc:TypeId×Value->H}{P:Program}{f:Func}{s:ChangeSpec}{apart fresh c:Bool}{W U:World}{args:Array Value}{v:Value}{g r:List (DataW H)}{d:List MemPlace}
  (u:DataW.Whole enc P f.params.toList s.vars apart W args.toList g r d) (hv:s.vars= []) (R:(s.fn H (g++r)).vars= [])
  (l: ∀b,DataW.TrodAll enc P U b (fun _=>false) c f.resultTypes.toList (v.resultList f.resultTypes.size) (s.fn H (g++r)).results [])
  (e:(s.fn H (g++r)).args=g) (hl:laidOutB P=true) (hr: ∀t,t∈f.params.toList->P.readableRec t=true/\t<P.types.size) (X:Below W.heap.size W U):
  s.post enc P f apart fresh c false W args v U:=by
 have m:=u.lt;have y:=u;obtain⟨p,q,hA,Y,rfl,_,_⟩:=u;rw [hv]at Y;obtain⟨rfl,rfl⟩:=trodVars_none Y;refine⟨g,[],_,[],p,[],y,l _,?_,?_,X.frame _,fun h=>by cases h⟩
 ·rw [e];exact qvd hl X hr hA (fun x z=>m x (by simpa using z)) (fun x z=>by simpa using m x (by simpa using z))
 ·rw [hv,R];rfl
end Go.Proofs
