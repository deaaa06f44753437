/- Parts of the proof. -/
import Derived.Test.YtnponcjnahicnaaGreatProg
import Derived.Test.YtnponcjnahicnaaGreatWkDToWkH
set_option linter.unusedSimpArgs false
set_option linter.unusedVariables false
open List(drop_eq_getElem_cons flatMap_append flatMap_cons getElem?_append_left getElem?_append_right getElem?_eq_getElem getElem?_map length_append length_cons length_nil map_append map_cons mem_append mem_cons mem_cons_of_mem mem_cons_self mem_singleton take_add_one take_append_drop take_length)
namespace Go.Proofs
open Go.RowKit Go.Ink R4
theorem MidAt.loose {n0 n1:Nat}{W0:World}{c:WkC}{LJ:qa7}{U:Nat->Prop}{nU:Nat}{Vw:World->Prop}{all:List Asg}{Jp Jx:Nat->Gh->World->Prop}(hE:qdv n0 n1 W0 c LJ U nU Vw all Jp Jx){g0 g:Gh}{X0 X Y:World}{vals:List ByteArray}{kn:List Bool}(h:MidAt n0 c Vw g0 X0 g X vals kn)(hU: ∀b,U b->b<X0.heap.size)(hK:Keep (fun b=>b<X0.heap.size∨ ¬g.free b) X Y):MidAt n0 c Vw g0 X0 g Y vals kn:=by
 refine⟨⟨?_,h.step.more,h.step.new,h.step.held,h.step.inv.keep (hK.mono fun b _ hb=>.inr hb)⟩,h.st,h.tag,h.held,h.wk,hE.hVk X Y _ h.v hK (fun b hb=>.inl (hU b hb))⟩;have h1:Keep (fun b=>g0.free b/\b<X0.heap.size) X0 X:=h.step.keep.mono fun b _ hf=>hf.1;have h2:Keep (fun b=>g0.free b/\b<X0.heap.size) X Y:=hK.mono fun b _ hf=>.inl hf.2;exact(h1.trans h2).mono fun b hb hf=>⟨hf,hb⟩
theorem MidAt.fresh {n0:Nat}{c:WkC}{Vw:World->Prop}{g0 g:Gh}{X0 X:World}{vals:List ByteArray}{kn:List Bool}(h:MidAt n0 c Vw g0 X0 g X vals kn)(hg0:GInv g0 X0)(hV:c.V<X0.heap.size)(hK:c.K<X0.heap.size){b:Nat}(hb:X0.heap.size<=b):g.free b:=by
 refine⟨?_,?_⟩
 ·rw [h.tag];cases e:g0.tag b with
  |none=>rfl
  |some T=>have:=hg0.lt b T e;omega
 ·rw [h.held b ⟨by omega,by omega⟩];cases e:g0.held b with
  |none=>rfl
  |some T=>have:=qe (hg0.hold b T e);omega
theorem qo8 {mine:List Nat}{q p:Nat}(h:mine[q]?=some p):(mine.map fun p:Nat=>Value.int .i64 (p:Int))[q]?=some (.int .i64 (p:Int)):=by rw [getElem?_map,h];rfl
theorem SameW.sub {c:WkC}{U:Nat->Prop}{g gm:Gh}{W0 X:World}(h:SameW c U gm W0 X)(hs: ∀b o,g.held b=some o->gm.held b=some o):SameW c U g W0 X:=⟨fun b o hb hn=>h.1 b o (hs b o hb) hn,h.2⟩
theorem q40 {a:Asg}: ∀{ts:List TermD} {k:Nat} {s:ByteArray},s∈(qao a ts k).map (·.2)-> ∃t,t∈ts/\qy a t=some s:=by
 intro ts
 induction ts with
 |nil=>intro k s h;cases h
 |cons t ts ih=>
  intro k s h;unfold qao at h;split at h
  ·rename_i y hy;rw [map_cons]at h;rcases mem_cons.1 h with rfl |h
   ·exact⟨t,mem_cons_self ..,hy⟩
   ·obtain⟨u,h1,h2⟩:=ih h;exact⟨u,mem_cons_of_mem _ h1,h2⟩
  ·obtain⟨u,h1,h2⟩:=ih h;exact⟨u,mem_cons_of_mem _ h1,h2⟩
theorem qzn {c:WkC}{vals:List ByteArray}{kn:List Bool}{a:Asg}(h:qdu c.vars vals kn a){t:TermD}(ht:t.text.size<=1073741824){s:ByteArray}(hs:qy a t=some s):s.size<=1073741824:=by
 unfold qy at hs;split at hs
 ·exact h.small _ _ hs
 ·cases hs;exact ht
theorem qzo {α β:Type}(f:α->List β){l:List α}{j:Nat}{x:α}(h:l[j]?=some x){r:Nat}{b:β}(hb:(f x)[r]?=some b):(l.flatMap f)[((l.take j).flatMap f).length+r]?=some b:=by
 obtain⟨hl,hx⟩:=List.getElem?_eq_some_iff.1 h;have e:l.flatMap f=(l.take j).flatMap f++(f x++(l.drop (j+1)).flatMap f):=by
  conv=>lhs;rw [←take_append_drop j l,drop_eq_getElem_cons hl,hx]
  rw [flatMap_append,flatMap_cons]
 rw [e,getElem?_append_right (by omega),Nat.add_sub_cancel_left,getElem?_append_left (List.getElem?_eq_some_iff.1 hb).1];exact hb
theorem q6m {w:World}{base:Nat}{e:TypeId}{sz n:Nat}{v:Value}{xs:List Value}(h:w.ownsRow base e sz v n xs):n<=maxLen:=by
 rcases h.2 with e |⟨gb,cap,cur,e1,e2,e3,e4,e5,e6⟩
 ·rw [e.2];exact Nat.zero_le _
 ·exact Nat.le_trans e4 e5
def RowsHeld (c:WkC)(gm:Gh)(Wm:World)(v:Value)(tss:List (List ByteArray)):Prop:=
 ∃us:List Value,us.length=tss.length/\Wm.ownsRow 0 46 1 v us.length us/\(∀b,v.ownBlock=some b->gm.held b=Wm.heap[b]?/\c.nv b)/\
  ∀(k:Nat) (u:Value) (t:List ByteArray),us[k]?=some u->tss[k]?=some t->Wm.ownsRow 0 9 1 u t.length (t.map .string)/\ ∀b,u.ownBlock=some b->gm.held b=Wm.heap[b]?/\c.nv b
theorem qsg {c:WkC}{U:Nat->Prop}{gm:Gh}{W0 Wm X:World}(hW:SameW c U gm W0 X){b:Nat}(h:gm.held b=Wm.heap[b]?/\c.nv b)(hl:b<Wm.heap.size):X.heap[b]?=Wm.heap[b]?:=by
 obtain⟨o,ho⟩: ∃o,Wm.heap[b]?=some o:=⟨_,Array.getElem?_eq_getElem hl⟩;rw [ho];exact hW.1 b o (h.1.trans ho) h.2
theorem RowsHeld.get {c:WkC}{U:Nat->Prop}{gm:Gh}{W0 Wm:World}{v:Value}{tss:List (List ByteArray)}(h:RowsHeld c gm Wm v tss): ∃av cv,v=.slice av tss.length cv/\tss.length<=maxLen/\ ∀(j:Nat) (t:List ByteArray),tss[j]?=some t-> ∃gb ua uc,av=some ⟨gb,0,none⟩/\(∀X,SameW c U gm W0 X->X.cell? ⟨gb,j,none⟩=some (.slice ua t.length uc))/\
  ∀(cc:Nat) (y:ByteArray),t[cc]?=some y-> ∃ub,ua=some ⟨ub,0,none⟩/\ ∀X,SameW c U gm W0 X->X.cell? ⟨ub,cc,none⟩=some (.string y):=by
 obtain⟨us,h1,h2,h3,h4⟩:=h;obtain⟨av,cv,rfl⟩:=qi h2;refine⟨av,cv,by rw [h1],by rw [←h1];exact q6m h2,fun j t hj=>?_⟩;have hjl:j<us.length:=by rw [h1];exact(List.getElem?_eq_some_iff.1 hj).1
 obtain⟨u,hu⟩: ∃u,us[j]?=some u:=⟨_,getElem?_eq_getElem hjl⟩;obtain⟨h5,h6⟩:=h4 j u t hu hj;obtain⟨ua,uc,rfl⟩:=qi h5;rcases h2.2 with e |⟨gb,cap,cur,e1,e2,e3,e4⟩
 ·rw [e.2]at hjl;cases hjl
 injection e1 with e1 _ _
 subst e1;refine⟨gb,ua,uc,rfl,fun X hX=>qb7 (qo7 h2 fun b hb=>qsg hX (h3 b hb) (World.ownsRow.lt h2 b hb).2) j _ hu,fun cc y hy=>?_⟩;rcases h5.2 with e |⟨ub,cap,cur,e1,e2,e3,e4⟩
 ·have:=(List.getElem?_eq_some_iff.1 hy).1;have e5:=e.2;omega
 injection e1 with e1 _ _
 subst e1;refine⟨ub,rfl,fun X hX=>qb7 (qo7 h5 fun b hb=>qsg hX (h6 b hb) (World.ownsRow.lt h5 b hb).2) cc _ (by rw [getElem?_map,hy];rfl)⟩
def RowIn (n0:Nat)(c:WkC)(Vw:World->Prop)(a:Asg)(kn:List Bool)(ts:List TermD)(t:List ByteArray)(g0:Gh)(X0:World)(cc:Nat)(x:Value)(X:World):Prop:=
 ∃g vals' ac mine,MidAt n0 c Vw g0 X0 g X vals' (qbj kn mine true)/\qcd a (ts.take cc) (t.take cc)=some ac/\qdu c.vars vals' (qbj kn mine true) ac/\(∀p,p∈mine->kn[p]?=some false)/\mine.length<=cc/\X.ownsRow X0.heap.size 3 1 x mine.length (mine.map fun p:Nat=>Value.int .i64 (p:Int))
theorem RowIn.start {n0:Nat}{c:WkC}{Vw:World->Prop}{a:Asg}{kn:List Bool}{ts:List TermD}{t:List ByteArray}{g0:Gh}{X0:World}{vals:List ByteArray}(hg:GInv g0 X0)(hw:WkHeld c g0 vals kn)(hv:Vw X0)(ha:qdu c.vars vals kn a):RowIn n0 c Vw a kn ts t g0 X0 0 (.slice none 0 0) X0:=
 ⟨g0,vals,a,[],MidAt.refl hg hw hv,rfl,ha,fun p hp=>(by cases hp),Nat.le_refl _,World.ownsRow_nil _ _ _ _⟩
def ClearIn (n0:Nat)(c:WkC)(Vw:World->Prop)(vals:List ByteArray)(kn':List Bool)(mine:List Nat)(B:Nat)(g0:Gh)(X0:World)(q:Nat)(x:Value)(X:World):Prop:=
 ∃g,MidAt n0 c Vw g0 X0 g X vals (qbj kn' (mine.take q) false)/\X.ownsRow B 3 1 x mine.length (mine.map fun p:Nat=>Value.int .i64 (p:Int))
theorem ClearIn.next {n0 n1:Nat}{W0:World}{c:WkC}{LJ:qa7}{U:Nat->Prop}{nU:Nat}{Vw:World->Prop}{all:List Asg}{Jp Jx:Nat->Gh->World->Prop}(hE:qdv n0 n1 W0 c LJ U nU Vw all Jp Jx)(hUK: ¬U c.K){vals:List ByteArray}{kn':List Bool}{mine:List Nat}{B:Nat}{g0:Gh}{X0 X:World}{q p:Nat}{x:Value}(h:ClearIn n0 c Vw vals kn' mine B g0 X0 q x X)(hq:mine[q]?=some p)(hB:c.K<B):
  ClearIn n0 c Vw vals kn' mine B g0 X0 (q+1) x (X.setCell ⟨c.K,p,none⟩ (.bool false)):=by
 obtain⟨g,h1,h2⟩:=h;obtain⟨g',h3⟩:=h1.setK hE hUK p false;refine⟨g',?_,qg h2 (Keep.setCell (C:=fun b=>b≠c.K) _ _ _ (by simp)) (fun b hb=>by have:=(World.ownsRow.lt h2 b hb).1;omega)⟩;rw [take_add_one,hq,Option.toList_some,qqm];exact h3
theorem qvi {n0 n1:Nat}{W0:World}{c:WkC}{LJ:qa7}{U:Nat->Prop}{nU:Nat}{Vw:World->Prop}{all:List Asg}{Jp Jx:Nat->Gh->World->Prop}(hE:qdv n0 n1 W0 c LJ U nU Vw all Jp Jx){k0 m:Nat}{gm g5 g6:Gh}{Wm Y Z:World}{a:Asg}{kn:List Bool}{ans:Bool}{vals6:List ByteArray}
  (hz:Wm.heap.size<=Y.heap.size) (hu: ∀b,U b->g5.free b) (hUl: ∀b,U b->b<Y.heap.size) (hh: ∀b o,gm.held b=some o->c.nv b->g5.held b=some o) (hs: ∀S f,gm.st S=some f-> ∃d,g5.st S=some (f++d)) (hj:(ans=true/\Jp (k0+m) g5 Y)∨(ans=false/\ ∃k,k<all.length/\Jx k g5 Y))
  (hm:MidAt n0 c Vw g5 Y g6 Z vals6 kn) (ha:qdu c.vars vals6 kn a):StepEnd c U Vw all Jp Jx k0 m gm Wm a kn ans Z:=by
 refine⟨g6,vals6,hm.step.inv,hm.v,fun b hb=>hm.free hu hUl b hb,Nat.le_trans hz hm.step.keep.size,hm.wk,fun b o hb hn=>(hm.held b hn).trans (hh b o hb hn),fun S f hS=>by rw [hm.st];exact hs S f hS,ha,?_⟩;rcases hj with ⟨e,h⟩ |⟨e,k,hk,h⟩
 ·exact .inl ⟨e,hE.hJ _ _ _ _ _ h ⟨hm.step,hm.st⟩⟩
 ·exact .inr ⟨e,k,hk,hE.hJx _ _ _ _ _ h ⟨hm.step,hm.st⟩⟩
theorem RowIn.same {n0 n1:Nat}{W0:World}{c:WkC}{LJ:qa7}{U:Nat->Prop}{nU:Nat}{Vw:World->Prop}{all:List Asg}{Jp Jx:Nat->Gh->World->Prop}(hE:qdv n0 n1 W0 c LJ U nU Vw all Jp Jx){a ac:Asg}{kn:List Bool}{ts:List TermD}{t:List ByteArray}{g0 g:Gh}{X0 X Y:World}{cc:Nat}{x:Value}{vals':List ByteArray}{mine:List Nat}
  (h1:MidAt n0 c Vw g0 X0 g X vals' (qbj kn mine true)) (h2:qcd a (ts.take cc) (t.take cc)=some ac) (h3:qdu c.vars vals' (qbj kn mine true) ac) (h4: ∀p,p∈mine->kn[p]?=some false) (h5:mine.length<=cc) (h6:X.ownsRow X0.heap.size 3 1 x mine.length (mine.map fun p:Nat=>Value.int .i64 (p:Int)))
  {tt:TermD} {y:ByteArray} (ht:ts[cc]?=some tt) (hx:t[cc]?=some y) (hy:qy ac tt=some y) (hK:Keep (fun _=>True) X Y):RowIn n0 c Vw a kn ts t g0 X0 (cc+1) x Y:=
 ⟨g,vals',ac,mine,h1.own hE hK,(qkm ht hx h2).1 y hy rfl,h3,h4,by omega,qg h6 hK (fun _ _=>trivial)⟩
theorem RowIn.bind {n0 n1:Nat}{W0:World}{c:WkC}{LJ:qa7}{U:Nat->Prop}{nU:Nat}{Vw:World->Prop}{all:List Asg}{Jp Jx:Nat->Gh->World->Prop}(hE:qdv n0 n1 W0 c LJ U nU Vw all Jp Jx)(hUK: ¬U c.K)(hUV: ¬U c.V){a ac:Asg}{kn:List Bool}{ts:List TermD}{t:List ByteArray}{g0 g:Gh}{X0 X Y:World}{cc:Nat}{x':Value}{vals':List ByteArray}{mine:List Nat}
  (h1:MidAt n0 c Vw g0 X0 g X vals' (qbj kn mine true)) (h2:qcd a (ts.take cc) (t.take cc)=some ac) (h3:qdu c.vars vals' (qbj kn mine true) ac) (h4: ∀p,p∈mine->kn[p]?=some false) (h5:mine.length<=cc)
  (hg0:GInv g0 X0) (hV:c.V<X0.heap.size) (hKl:c.K<X0.heap.size) (hUl: ∀b,U b->b<X0.heap.size)
  {tt:TermD} {y:ByteArray} {p:Nat} (ht:ts[cc]?=some tt) (hx:t[cc]?=some y) (hy:qy ac tt=none) (hp:c.vars[p]?=some tt.text) (hkp:(qbj kn mine true)[p]?=some false) (hs:y.size<=1073741824)
  (hK:Keep (fun b=>b<X0.heap.size) ((X.setCell ⟨c.K,p,none⟩ (.bool true)).setCell ⟨c.V,p,none⟩ (.string y)) Y)
  (h6:Y.ownsRow X0.heap.size 3 1 x' (mine.length+1) ((mine.map fun p:Nat=>Value.int .i64 (p:Int))++ [.int .i64 (p:Int)])):RowIn n0 c Vw a kn ts t g0 X0 (cc+1) x' Y:=by
 obtain⟨g1,q1⟩:=h1.setK hE hUK p true;obtain⟨g2,q2⟩:=q1.setV hE hUV p y;have q3:=q2.loose (Y:=Y) hE hUl (hK.mono fun b _ hb=>by
  rcases hb with hb |hb
  ·exact hb
  ·exact Nat.lt_of_not_le fun hle=>hb (q2.fresh hg0 hV hKl hle))
 have e:qbj kn (mine++ [p]) true=(qbj kn mine true).set p true:=qqm _ _ _ _;refine⟨g2,_,qfw ac tt.text y,mine++ [p],by rw [e];exact q3,(qkm ht hx h2).2.1 hy,by rw [e];exact q4x hE.nodup h3 hp y hs,fun r hr=>?_,by rw [length_append];simp only [length_cons,length_nil];omega,by rw [length_append,map_append];exact h6⟩;rcases mem_append.1 hr with hr |hr
 ·exact h4 r hr
 ·rw [mem_singleton]at hr;subst hr;rw [qo6]at hkp;split at hkp
  ·cases hkp
  ·exact hkp
theorem RowIn.on {n0 n1:Nat}{W0:World}{c:WkC}{LJ:qa7}{U:Nat->Prop}{nU:Nat}{Vw:World->Prop}{all:List Asg}{Jp Jx:Nat->Gh->World->Prop}(hE:qdv n0 n1 W0 c LJ U nU Vw all Jp Jx){i k0 m q:Nat}{a:Asg}{kn:List Bool}{ts:List TermD}{t:List ByteArray}{g0 gm:Gh}{X0 X Wm:World}{x:Value}{L:LitD}{vals:List ByteArray}
  (hA:StepAt n1 c LJ U Vw all Jp i k0 gm Wm a vals kn) (hdrop:c.steps.drop i=q::c.steps.drop (i+1)) (hLd:c.r.body.getD q default=L) (hk:L.kind=1) (hts:L.atom.args=ts)
  (hg0:GInv g0 X0) (hu0: ∀b,U b->g0.free b) (hUl: ∀b,U b->b<X0.heap.size) (hz:Wm.heap.size<=X0.heap.size) (hs: ∀S f,gm.st S=some f-> ∃d,g0.st S=some (f++d)) (hj:Jp (k0+m) g0 X0)
  (htold: ∀ac,qcd a ts t=some ac-> ∀(r:Nat) (b:Asg),(qbh LJ c.r.body (c.steps.drop (i+1)) ac)[r]?=some b->all[k0+m+r]?=some b)
  (hlen:ts.length=t.length) (hV:c.V<X0.heap.size) (hKl:c.K<X0.heap.size) (h:RowIn n0 c Vw a kn ts t g0 X0 ts.length x X):
  ∃gh vals' ac mine,StepAt n1 c LJ U Vw all Jp (i+1) (k0+m) gh X ac vals' (qbj kn mine true)/\(∀b,b<X0.heap.size->c.nv b->gh.held b=g0.held b)/\(∀S f,gm.st S=some f-> ∃d,gh.st S=some (f++d))/\(∀p,p∈mine->kn[p]?=some false)/\mine.length<=ts.length/\
   X.ownsRow X0.heap.size 3 1 x mine.length (mine.map fun p:Nat=>Value.int .i64 (p:Int))/\(∀b,x.ownBlock=some b->gh.held b=X.heap[b]?/\c.nv b)/\qha LJ c.r.body ts (c.steps.drop (i+1)) a t=qbh LJ c.r.body (c.steps.drop (i+1)) ac/\ExtA a ac:=by
 obtain⟨g,vals',ac,mine,h1,h2,h3,h4,h5,h6⟩:=h;rw [take_length,hlen,take_length]at h2;obtain⟨hext,hdom,-⟩:=qfn h2;have hn:n0<=X0.heap.size:=Nat.le_trans hE.n01 (Nat.le_trans hA.n hz);obtain⟨g',p1,p2,p3,p4,p5,p6,p7⟩:=h1.hold hg0 hn;have hw:=hA.way;have hf:=hA.full;rw [hdrop]at hw hf;have hw:=hw.2.2;have hpv:qw c.r.body [q]=qba ts:=by rw [qc3,hLd,if_neg (by omega),hts]
 rw [hpv]at hw;have e:qw c.r.body (q::c.steps.drop (i+1))=qw c.r.body [q]++qw c.r.body (c.steps.drop (i+1)):=by unfold qw;simp
 rw [e,hpv]at hf;have hd:(fun x=> ∃v,ac x=some v)=fun x=>(∃v,a x=some v)∨x∈qba ts:=funext fun x=>propext (hdom x);have hst: ∀S f,gm.st S=some f-> ∃d,g'.st S=some (f++d):=fun S f hS=>by rw [p2];exact hs S f hS
 refine⟨g',vals',ac,mine,⟨p1.inv,h1.v,fun b hb=>p7 b (hUl b hb) (h1.free hu0 hUl b hb),p4,hA.look.more hst,h3,by rw [hd];exact hw,fun x hx=>?_,fun r b hr=>htold ac h2 r b hr,hE.hJ _ _ _ _ _ hj ⟨p1,p2⟩,Nat.le_trans hA.n (Nat.le_trans hz p1.keep.size)⟩,fun b hb hn=>p3 b hn hb,hst,h4,h5,h6,fun b hb=>?_,?_,hext⟩
 ·rcases hf x hx with h |h
  ·exact .inl ((hdom x).2 (.inl h))
  ·rcases mem_append.1 h with h |h
   ·exact .inl ((hdom x).2 (.inr h))
   ·exact .inr h
 ·have hl:=World.ownsRow.lt h6 b hb;have hnv:c.nv b:=⟨by omega,by omega⟩;obtain⟨o,ho⟩: ∃o,X.heap[b]?=some o:=⟨_,Array.getElem?_eq_getElem hl.2⟩;exact⟨by rw [ho];exact p5 b o hl.1 hnv ho,hnv⟩
 ·unfold qha;rw [h2]
end Go.Proofs
