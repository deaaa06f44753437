/- Parts of the proof. -/
import Derived.Test.YtnponcjnahicnaaGreatProg
import Derived.Test.YtnponcjnahicnaaGreatStAToStF
import Derived.Test.YtnponcjnahicnaaGreatRelSToPlayD
import Derived.Test.YtnponcjnahicnaaGreatHdToKp
import Derived.DefersIn
import Derived.RangeFuncLeaves
set_option linter.unusedSimpArgs false
set_option linter.unusedVariables false
open Go.Proofs.Tryz(prog)
open List(all_eq_false all_eq_true append_toArray cons_append filter_append filter_congr filter_cons filter_eq_nil_iff filter_nil find?_eq_none find?_some getD_eq_getElem?_getD getElem?_append_left getElem?_append_right getElem?_cons_zero getElem?_eq_getElem getElem?_map getElem_idxOf getElem_mem idxOf_lt_length_of_mem length_append length_cons length_map length_nil length_singleton length_take map_append map_cons mem_cons_of_mem mem_cons_self mem_iff_getElem? mem_map mem_of_getElem? mem_of_mem_take mem_range nil_append pairwise_iff_getElem push_toArray range_succ size_toArray take_add_one take_append take_length take_of_length_le)
namespace Go.Proofs
open Go.RowKit Go.Ink R4 Go.MuLone
attribute [local go_sem] Oper.semAt_some
def qdl (l:List (List ByteArray))(t:List ByteArray):Option Nat:=(List.range l.length).find? fun i=>decide (l[i]?=some t)
theorem q4r {xs:List ByteArray}: ∀{a b:List ByteArray},(∀s,s∈a->s∈xs)->(∀s,s∈b->s∈xs)->qr xs a=qr xs b->a=b:=by
 intro a
 induction a with
 |nil=>
  intro b _ _ h;cases b with
  |nil=>rfl
  |cons y ys=>cases h
 |cons x a ih=>
  intro b ha hb h;cases b with
  |nil=>cases h
  |cons y ys=>
   unfold qr at h;rw [map_cons,map_cons]at h;injection h with h1 h2
   have hi:xs.idxOf x=xs.idxOf y:=by omega
   have hx:=idxOf_lt_length_of_mem (ha x (mem_cons_self ..));have hy:=idxOf_lt_length_of_mem (hb y (mem_cons_self ..));have:x=y:=by
    have e1:xs[xs.idxOf x]?=some x:=by rw [getElem?_eq_getElem hx,getElem_idxOf]
    have e2:xs[xs.idxOf y]?=some y:=by rw [getElem?_eq_getElem hy,getElem_idxOf]
    rw [hi,e2]at e1;cases e1
    rfl
   rw [this,ih (fun s hs=>ha s (mem_cons_of_mem _ hs)) (fun s hs=>hb s (mem_cons_of_mem _ hs)) h2]
theorem qqi {xs:List ByteArray}{l:List (List ByteArray)}{t:List ByteArray}(hl: ∀u s,u∈l->s∈u->s∈xs)(ht: ∀s,s∈t->s∈xs):qe1 (l.map (qr xs)) (qr xs t)=qdl l t:=by
 unfold qe1 qdl;rw [length_map]
 congr 1
 funext i
 rw [getElem?_map];cases hi:l[i]? with
 |none=>simp
 |some u=>
  rw [Option.map_some];by_cases hu:u=t
  ·subst hu;simp
  ·rw [decide_eq_false,decide_eq_false]
   ·intro h;cases h;exact hu rfl
   ·intro h;have h:=Option.some.inj h;exact hu (q4r (fun s hs=>hl u s (mem_of_getElem? hi) hs) ht h)
theorem qoa {l:List (List ByteArray)}{t:List ByteArray}(h:t∉l):qdl l t=none:=by
 unfold qdl;refine find?_eq_none.2 fun i _ hi=>?_;exact h (mem_of_getElem? (of_decide_eq_true hi))
theorem qob {l:List (List ByteArray)}{t:List ByteArray}{i:Nat}(h:qdl l t=some i):l[i]?=some t:=by
 unfold qdl at h;have:=find?_some h;exact of_decide_eq_true this
theorem qnv {xs t:List ByteArray}(ht: ∀s,s∈t->s∈xs)(hl:xs.length<=1073741824):okT (qr xs t):=fun x hx=>by
 unfold qr at hx;obtain⟨s,hs,rfl⟩:=mem_map.1 hx;have:=idxOf_lt_length_of_mem (ht s hs);unfold okI;omega
theorem StParts.xl {tag:qct}{w:World}{S:Nat}{c:List ql}{T M MX:Nat}{vx:Value}{xs:List ByteArray}{rl:List ((ByteArray×Nat)×Nat)}(h:StParts tag w S c T M MX vx xs rl):xs.length<=1073741824:=by
 have:=h.xfew;have:=h.few;omega
theorem qu3 {w:World}{S T M n o t:Nat}{s:ByteArray}(h:w.heap[S]?=some (.cells (qex T M n).toArray t (0,0))):w.cell? ⟨S,o,none⟩≠some (.string s):=fun hc=>by
 have:(qex T M n)[o]?=some (.string s):=by simpa [World.cell?,h] using hc
 have hm:=mem_of_getElem? this;unfold qex at hm;simp at hm
theorem qng {m:Nat}{w w':World}{v:Value}{ss:List ByteArray}(h:qae m w v ss)(hK:Keep (fun _=>True) w w'):qae m w' v ss:=h.mono fun b o s _ hs=>hK.cell hs trivial
set_option maxRecDepth 100000 in
theorem qwi (k:ByteArray×Nat)(v:Value)(w:World):Calls prog 70 #[.pointer none,qdt k,v] w fun e w'=>e=.returned (.tuple #[.int .i64 0,.bool false])/\Keep (fun _=>True) w w':=by
 unfold qdt
 go_enter_defers Tryz.func70,Tryz.ntmps70
 go_wp2_with fail;refine(qqh _).mono ?_;rintro e w9 ⟨rfl,hw9⟩;have hw9:=hw9.symm;subst hw9;go_wp2_with fail;exact⟨_,results_tmp2 rfl _ _ _,rfl,kAl⟩
set_option maxRecDepth 100000 in
set_option maxHeartbeats 1000000 in
theorem qoc {tag:qct}{w:World}{S:Nat}{c:List ql}(h:StoreAt tag w S c)(p:ByteArray)(n:Nat)(hp:p.size<=1073741824)(hn:n<=1073741824)(m:Nat)(v:Value)(t:List ByteArray)(ht:qae m w v t)(hm:m<=w.heap.size)(hsm: ∀s,s∈t->s.size<=1073741824):
  Calls prog 70 #[qj S,qdt (p,n),v] w fun e w'=>e=.returned (qjw (qdl (qo c p n) t))/\Keep (fun _=>True) w w':=by
 obtain⟨T,M,MX,vx,xs,rl,hP⟩:=h;obtain⟨W0,hW0⟩:=ex (w.alloc (.cells #[.string p,.int .i64 (n:Int)] 122));have k0:Keep (fun _=>True) w W0:=by rw [←hW0];exact kAl
 have z0:W0.heap.size=w.heap.size+1:=by rw [←hW0];simp
 have q0:W0.heap[w.heap.size]?=some (.cells #[.string p,.int .i64 (n:Int)] 122 (0,0)):=by rw [←hW0];exact qh _ _
 have hP0:=hP.keep (tag':=tag) k0 (fun _ _ _=>trivial) (fun _ _=>Iff.rfl);have a0:=qb hP0.box 0 _ rfl;have f0:=qf hP0.box 0;have hSl:=qe hP0.box;have hSw:=qe hP.box;obtain⟨W1,hW1⟩:=ex (W0.setCell ⟨S,0,none⟩ (.int .i32 1));have k1:Keep (fun b=>b≠S) W0 W1:=by rw [←hW1];exact kSc
 have box1:=q8 0 (.int .i32 1) hP0.box;rw [hW1]at box1;have a3:=qb box1 4 _ rfl;have a2: ∀j,(W1.drewN j).cell? ⟨S,3,none⟩=some (qj T):=fun j=>by
  have:=qb ((Keep.drewN' (fun _=>True) W1 j).heap box1 trivial) 3 _ rfl
  simpa using this
 have hS1:=qe box1;have q1:=k1.heap q0 (by omega);have b0:=qb q1 0 _ rfl;have b1:=qb q1 1 _ rfl;have hq1:=qe q1;have hMS:M≠S:=fun e=>by have:=hP0.tagM;rw [e,hP0.tagS] at this;cases this
 have hrel:=hP0.rels.keep k1 hMS;have hlk:=fun m=>qd1 (P:=prog) Tryz.underlying116 qj5 qiw ql6 (hrel.keep (Keep.drewN' (fun _=>True) W1 m) trivial) (p,n) (qj6 hp hn) false;have hnone:=qh8 hP0.box;have hfin: ∀W,Keep (fun _=>True) W1 W->Keep (fun _=>True) w (W.setCell ⟨S,0,none⟩ (.int .i32 0))/\W.cell? ⟨S,0,none⟩=some (.int .i32 1)/\W.frozen? ⟨S,0,none⟩=false:=fun W hK=>
  ⟨k0.trans (qix hP0.box (by rw [hW1];exact hK)),by have:=qb (hK.heap box1 trivial) 0 _ rfl;simpa using this,qf (hK.heap box1 trivial) 0⟩
 have hlock:=lock_free qhd ⟨S,0,none⟩ W0 (by simpa using a0) f0;rw [hW1]at hlock;have htab: ∀j,TabAt (W1.drewN j) T MX vx xs:=fun j=>hP0.table.keep (k1.trans (Keep.drewN' _ W1 j)) (fun e=>by have:=hP0.tagT;rw [e,hP0.tagS] at this;cases this) (fun e=>by have:=hP0.tagN;rw [e,hP0.tagS] at this;cases this) (fun b hb e=>by have:=hP0.tagx b hb;rw [e,hP0.tagS] at this;cases this);have ht1: ∀j,qae m (W1.drewN j) v t:=fun j=>(qng ht k0).mono (fun b o s _ hs=>(k1.trans (Keep.drewN' _ W1 j)).cell hs (fun e=>qu3 hP0.box (by rw [show b=S from e] at hs;exact hs)));have hz1:=k1.size;have hnum:=fun j=>qmh (a2 j) (htab j) m v t (ht1 j) (by simp [World.drewN];omega) hsm;simp only [Nat.zero_add]at a0 a3 b0 b1;have hin: ∀u s,u∈qo c p n->s∈u->s∈xs:=fun u s hu hs=>hP.texts _ s (qay.1 hu).1 hs;unfold qdt at hlk⊢;have hans: ∀(b:Bool),(t.all fun s=>decide (s∈xs))=b->(b=false->qdl (qo c p n) t=none):=fun b hb h=>by
  subst h;refine qoa fun hm=>?_;rw [all_eq_false]at hb;obtain⟨s,hs,hx⟩:=hb;exact hx (by simpa using hin t s hm hs)
 cases hl:qc1 rl (p,n) with
 |none=>
  simp only [hl,Bool.false_eq_true,if_false]at hlk;have hk:=ql7 hP hl;rw [hk];clear hl hrel hMS box1 hW1 q0 q1 k1 hP k0 hin hans ht ht1 htab;refine hd8 ?_ hP0 hnone hlock hW0 hk hfin hnum a2;clear hP0 hnone hlock hW0 hk hfin hnum a2;intro XhP0 Xhnone Xhlock XhW0 Xhk Xhfin Xhnum Xa2
  go_enter_defers Tryz.func70,Tryz.ntmps70
  go_wp2_with fail;rw [XhW0.o];refine Xhnone.o.mono ?_;rintro e w9 ⟨rfl,hw9⟩;have hw9:=hw9.symm;subst hw9;go_wp2_with fail;refine Xhlock.o.mono ?_;rintro e w9 ⟨rfl,hw9⟩;have hw9:=hw9.symm;subst hw9;go_wp2_with fail
  go_quiet (fail)
  go_wp2_with fail;refine(Xhnum.o _).mono ?_;rintro e W2 ⟨vo,rfl,-,-,k2⟩;obtain⟨hf1,hf2,hf3⟩:=Xhfin.o W2 ((Keep.drewN' _ _ _).trans k2);clear k2;refine hd1 ?_ hf1;clear hf1;intro Xhf1;go_wp2_with fail;refine leaves_cons (f:=55) (args:= #[.pointer (some ⟨S,0,none⟩)]) (by simp) (by simp [go_sem]) ?_;refine(unlock_deferred qhd ⟨S,0,none⟩ .returning _ hf2 hf3).mono ?_;rintro e u' w'' ⟨rfl,rfl,rfl⟩;exact⟨_,results_tmp2 rfl _ _ _,rfl,Xhf1.o⟩
 |some R=>
  simp only [hl,Bool.false_eq_true,if_false]at hlk;obtain⟨vD,P,K,lm,hR⟩:=hP0.rel _ _ (qfd hl);have hRS:R≠S:=fun e=>by have:=hP0.rel_at (qfd hl);rw [e,hP0.tagS] at this;cases this
  have hR1:=hR.keep k1 (fun b U hb _ e=>by have:=qaa.1 hb;rw [e,hP0.tagS] at this;cases this);simp only at hR1;have hxl:=hP.xl;cases hall:(t.all fun s=>decide (s∈xs)) with
  |false=>
   have hk:=hans _ hall rfl;rw [hk];simp only [hall]at hnum;clear hl hrel hMS box1 hW1 q0 q1 k1 hP k0 hin hans ht ht1 htab hR hRS hR1 hall;refine hd8 ?_ hP0 hnone hlock hW0 hk hfin hnum a2;clear hP0 hnone hlock hW0 hk hfin hnum a2;intro XhP0 Xhnone Xhlock XhW0 Xhk Xhfin Xhnum Xa2
   go_enter_defers Tryz.func70,Tryz.ntmps70
   go_wp2_with fail;rw [XhW0.o];refine Xhnone.o.mono ?_;rintro e w9 ⟨rfl,hw9⟩;have hw9:=hw9.symm;subst hw9;go_wp2_with fail;refine Xhlock.o.mono ?_;rintro e w9 ⟨rfl,hw9⟩;have hw9:=hw9.symm;subst hw9;go_wp2_with fail
   go_quiet (fail)
   go_wp2_with fail;refine(Xhnum.o _).mono ?_;rintro e W2 ⟨vo,rfl,-,-,k2⟩;obtain⟨hf1,hf2,hf3⟩:=Xhfin.o W2 ((Keep.drewN' _ _ _).trans k2);clear k2;refine hd1 ?_ hf1;clear hf1;intro Xhf1;go_wp2_with fail;refine leaves_cons (f:=55) (args:= #[.pointer (some ⟨S,0,none⟩)]) (by simp) (by simp [go_sem]) ?_;refine(unlock_deferred qhd ⟨S,0,none⟩ .returning _ hf2 hf3).mono ?_;rintro e u' w'' ⟨rfl,rfl,rfl⟩;exact⟨_,results_tmp2 rfl _ _ _,rfl,Xhf1.o⟩
  |true=>
   have hta: ∀s,s∈t->s∈xs:=fun s hs=>of_decide_eq_true (all_eq_true.1 hall s hs);have hpl:=qqi hin hta;have hok:=qnv hta hxl;simp only [hall]at hnum;clear hl hrel hMS box1 hW1 q0 q1 k1 hP k0 hin hans ht htab hR hRS hall hta;have htl:t.length<=1073741824:=by
    obtain⟨_,_,_,h,_⟩:=ht1 0;exact h
   clear ht1;refine qd9 ?_ hP0 hnone hlock hW0 hfin hnum a2 hR1 hpl hok;clear hP0 hnone hlock hW0 hfin hnum a2 hR1 hpl hok;intro XhP0 Xhnone Xhlock XhW0 Xhfin Xhnum Xa2 XhR1 Xhpl Xhok
   go_enter_defers Tryz.func70,Tryz.ntmps70
   go_wp2_with fail;rw [XhW0.o];refine Xhnone.o.mono ?_;rintro e w9 ⟨rfl,hw9⟩;have hw9:=hw9.symm;subst hw9;go_wp2_with fail;refine Xhlock.o.mono ?_;rintro e w9 ⟨rfl,hw9⟩;have hw9:=hw9.symm;subst hw9;go_wp2_with fail
   go_quiet (fail)
   go_wp2_with fail;refine(Xhnum.o _).mono ?_;rintro e W2 ⟨vo,rfl,ho,-,k2⟩;have ho:=ho trivial;have ho':=ho;rw [←qdf xs t]at ho';have k12:Keep (fun _=>True) W1 W2:=(Keep.drewN' _ _ _).trans k2;have hR2:=XhR1.o.keep k12 (fun _ _ _ _=>trivial);have hpc:=qup hR2 W2.heap.size vo (qr xs t) (qd8 ho' (by rw [qdf];exact htl)) (Nat.le_refl _) Xhok.o;rw [Xhpl.o]at hpc;obtain⟨av,cv,rfl⟩:=qi ho;clear hR2 ho ho' k2;refine hd2 ?_ k12 hpc;clear k12 hpc;intro Xk12 Xhpc;go_wp2_with fail;refine Xhpc.o.mono ?_;rintro e W3 ⟨rfl,k3⟩;obtain⟨hf1,hf2,hf3⟩:=Xhfin.o W3 (Xk12.o.trans (k3.mono fun b hb _=>hb));clear k3;refine hd1 ?_ hf1;clear hf1;intro Xhf1;cases hpp:qdl (qo c p n) t
   all_goals
    unfold qjw;refine hd1 ?_ hpp;clear hpp;intro Xhpp;go_wp2_with fail;refine leaves_cons (f:=55) (args:= #[.pointer (some ⟨S,0,none⟩)]) (by simp) (by simp [go_sem]) ?_;refine(unlock_deferred qhd ⟨S,0,none⟩ .returning _ hf2 hf3).mono ?_;rintro e u' w'' ⟨rfl,rfl,rfl⟩;exact⟨_,results_tmp2 rfl _ _ _,by rw [Xhpp.o];rfl,Xhf1.o⟩
end Go.Proofs
namespace Go.Proofs
open Go.RowKit Go.Ink R4
def qj7 (cols:List Int)(key t:List ByteArray):Bool:=(List.range cols.length).all fun j=>decide (t[(cols.getD j 0).toNat]?=key[j]?)
def qjb (c:List ql)(p:ByteArray)(n:Nat)(cols:List Int)(key:List ByteArray)(upto:Nat):List (List ByteArray):=((qo c p n).take upto).filter (qj7 cols key)
theorem q4s {xs a b:List ByteArray}(ha: ∀s,s∈a->s∈xs)(hb: ∀s,s∈b->s∈xs)(i j:Nat):((qr xs a)[i]?=(qr xs b)[j]?)↔(a[i]?=b[j]?):=by
 unfold qr;rw [getElem?_map,getElem?_map];cases h1:a[i]? with
 |none=>cases h2:b[j]?<;>simp
 |some s=>
  cases h2:b[j]? with
  |none=>simp
  |some t=>
   rw [Option.map_some,Option.map_some];constructor
   ·intro h;have h:=Option.some.inj h;have hi:xs.idxOf s=xs.idxOf t:=by omega
    have hx:=idxOf_lt_length_of_mem (ha s (mem_of_getElem? h1));have hy:=idxOf_lt_length_of_mem (hb t (mem_of_getElem? h2));have e1:xs[xs.idxOf s]?=some s:=by rw [getElem?_eq_getElem hx,getElem_idxOf]
    have e2:xs[xs.idxOf t]?=some t:=by rw [getElem?_eq_getElem hy,getElem_idxOf]
    rw [hi,e2]at e1;exact e1.symm
   ·intro h;cases h
    rfl
theorem qzd {xs t key:List ByteArray}(cols:List Int)(ht: ∀s,s∈t->s∈xs)(hk: ∀s,s∈key->s∈xs):qk2 (qr xs t) cols (qr xs key)=qj7 cols key t:=by
 unfold qk2 qj7
 congr 1
 funext j
 exact decide_eq_decide.2 (q4s ht hk _ _)
theorem qze {α:Type}(p:α->Bool)(d:α)(l:List α)(upto:Nat):((List.range l.length).filter fun i=>decide (i<upto)&&p (l.getD i d)).map (fun i=>l.getD i d)=(l.take upto).filter p:=by
 have h: ∀k,k<=l.length->((List.range k).filter fun i=>decide (i<upto)&&p (l.getD i d)).map (fun i=>l.getD i d)=((l.take k).take upto).filter p:=by
  intro k
  induction k with
  |zero=>intro _;simp
  |succ k ih=>
   intro hk;have hg:=getElem?_eq_getElem (show k<l.length by omega);have hd:l.getD k d=l[k]:=by rw [getD_eq_getElem?_getD,hg];rfl
   have ht:l.take (k+1)=l.take k++ [l[k]]:=by rw [take_add_one,hg];rfl
   rw [range_succ,filter_append,map_append,ih (by omega),ht,take_append,filter_append,length_take,Nat.min_eq_left (show k<=l.length by omega)]
   congr 1
   rw [filter_cons,filter_nil,hd];by_cases hu:k<upto
   ·rw [decide_eq_true hu,Bool.true_and,take_of_length_le (by simp;omega),filter_cons,filter_nil];split<;>simp [hg]
   ·rw [decide_eq_false hu,show upto-k=0 by omega]
    rfl
 have:=h l.length (Nat.le_refl _)
 rwa [take_length] at this
theorem qzf {c:List ql}{p:ByteArray}{n:Nat}{xs:List ByteArray}{cols:List Int}{key:List ByteArray}{upto:Nat}(hin: ∀u s,u∈qo c p n->s∈u->s∈xs)(hk: ∀s,s∈key->s∈xs)(hrow:qdo n cols=true)(hkl:key.length=cols.length):
  (qec n ((qo c p n).map (qr xs)) cols (qr xs key) 0 (upto:Int)).map (fun i=>(qo c p n).getD i [])=qjb c p n cols key upto:=by
 unfold qec qjb;rw [if_pos (by rw [hrow,decide_eq_true (by rw [qdf];exact hkl)];rfl),length_map,←qze (qj7 cols key) [] (qo c p n) upto]
 congr 1
 refine filter_congr fun i hi=>?_;rw [mem_range]at hi;have hg:=getElem?_eq_getElem hi;have e1:((qo c p n).map (qr xs)).getD i []=qr xs (qo c p n)[i]:=by rw [getD_eq_getElem?_getD,getElem?_map,hg];rfl
 have e2:(qo c p n).getD i []=(qo c p n)[i]:=by rw [getD_eq_getElem?_getD,hg];rfl
 unfold qyd;rw [e1,e2,qzd cols (fun s hs=>hin _ s (getElem_mem hi) hs) hk,decide_eq_true (show(0:Int)<=(i:Int) by omega),Bool.true_and]
 congr 1
 exact decide_eq_decide.2 (by omega)
theorem q2i {c:List ql}{p:ByteArray}{n:Nat}{xs:List ByteArray}{cols:List Int}{key:List ByteArray}{upto:Nat}(hin: ∀u s,u∈qo c p n->s∈u->s∈xs)(hkl:key.length=cols.length)(hk:(key.all fun s=>decide (s∈xs))=false):qjb c p n cols key upto= []:=by
 unfold qjb;refine filter_eq_nil_iff.2 fun t ht hkey=>?_;rw [all_eq_false]at hk;obtain⟨s,hs,hx⟩:=hk;obtain⟨j,hj⟩:=mem_iff_getElem?.1 hs;unfold qj7 at hkey;have:=all_eq_true.1 hkey j (mem_range.2 (by rw [←hkl];exact(List.getElem?_eq_some_iff.1 hj).1));have:=of_decide_eq_true this;rw [hj]at this;exact hx (by simpa using hin t s (mem_of_mem_take ht) (mem_of_getElem? this))
theorem q2j {a:Asg}{ts:List TermD}{t:List ByteArray}(h:ts.length=t.length):qj7 (qi4 a ts) (qok a ts) t=qjp a ts t:=by
 rw [q0a (k:=0) h];unfold qj7 qi4 qok;rw [Bool.eq_iff_iff,all_eq_true,all_eq_true];constructor
 ·intro hh p hp;obtain⟨j,hj⟩:=mem_iff_getElem?.1 hp;have hl:=(List.getElem?_eq_some_iff.1 hj).1;have:=of_decide_eq_true (hh j (mem_range.2 (by rw [length_map];exact hl)));rw [getD_eq_getElem?_getD,getElem?_map,getElem?_map,hj]at this
  simpa using this
 ·intro hh j hj;rw [mem_range,length_map]at hj;have hg:=getElem?_eq_getElem hj;have:=of_decide_eq_true (hh _ (getElem_mem hj));rw [getD_eq_getElem?_getD,getElem?_map,getElem?_map,hg]
  simpa using this
theorem q4t {c:List ql}{p:ByteArray}{a:Asg}{ts:List TermD}{upto:Nat}:qjb c p ts.length (qi4 a ts) (qok a ts) upto=((qo c p ts.length).take upto).filter (qjp a ts):=by
 unfold qjb;refine filter_congr fun t ht=>?_;exact q2j (qay.1 (mem_of_mem_take ht)).2.symm
theorem q4u (a:Asg)(ts:List TermD):qdo ts.length (qi4 a ts)=true:=by
 unfold qdo;rw [all_eq_true];intro i hi;rw [mem_range]at hi;unfold qi4 at hi⊢;rw [length_map]at hi;have hg:=getElem?_eq_getElem hi;have hlow:=qmt (getElem_mem hi);have hr:=qx1 (a:=a) (ts:=ts) (k:=0);have e1:((qao a ts 0).map fun p=>(p.1:Int)).getD i 0=((qao a ts 0)[i].1:Int):=by rw [getD_eq_getElem?_getD,getElem?_map,hg];rfl
 unfold qhw;rw [e1,decide_eq_true (by omega),decide_eq_true (by omega),Bool.true_and,Bool.true_and,Bool.or_eq_true,beq_iff_eq];cases i with
 |zero=>exact .inl rfl
 |succ i=>
  right;have hg2:=getElem?_eq_getElem (show i<(qao a ts 0).length by omega)
  have e2:((qao a ts 0).map fun p=>(p.1:Int)).getD (i+1-1) 0=((qao a ts 0)[i].1:Int):=by rw [Nat.add_sub_cancel,getD_eq_getElem?_getD,getElem?_map,hg2];rfl
  rw [e2];have:=pairwise_iff_getElem.1 hr i (i+1) (by omega) hi (by omega);exact decide_eq_true (by omega)
def RowsAt (P:Nat->Prop)(w:World)(v:Value)(tss:List (List ByteArray)):Prop:=
 ∃us:List Value,us.length=tss.length/\w.ownsRow 0 46 1 v us.length us/\(∀b,v.ownBlock=some b->P b)/\
  ∀(k:Nat) (u:Value) (t:List ByteArray),us[k]?=some u->tss[k]?=some t->w.ownsRow 0 9 1 u t.length (t.map .string)/\ ∀b,u.ownBlock=some b->P b
theorem RowsAt.keep {P P':Nat->Prop}{w w':World}{v:Value}{tss:List (List ByteArray)}{C:Nat->Prop}(h:RowsAt P w v tss)(hK:Keep C w w')(hC: ∀b,b<w.heap.size->P b->C b/\P' b):RowsAt P' w' v tss:=by
 obtain⟨us,h1,h2,h3,h4⟩:=h;refine⟨us,h1,qg h2 hK (fun b hb=>(hC b (World.ownsRow.lt h2 b hb).2 (h3 b hb)).1),fun b hb=>(hC b (World.ownsRow.lt h2 b hb).2 (h3 b hb)).2,fun k u t hu ht=>?_⟩;obtain⟨h5,h6⟩:=h4 k u t hu ht;exact⟨qg h5 hK (fun b hb=>(hC b (World.ownsRow.lt h5 b hb).2 (h6 b hb)).1),fun b hb=>(hC b (World.ownsRow.lt h5 b hb).2 (h6 b hb)).2⟩
theorem qu4 {P:Nat->Prop}(w:World):RowsAt P w (.slice none 0 0) []:=⟨[],rfl,World.ownsRow_nil _ _ _ _,fun b hb=>by simp [Value.ownBlock] at hb,fun k u t hu=>by simp at hu⟩
end Go.Proofs
namespace Go.Proofs
open Go.RowKit Go.Ink R4 Go.MuLone
attribute [local go_sem] Oper.semAt_some
set_option maxRecDepth 100000 in
theorem q2k (a:Addr)(u:FrameMode)(w:World)(hc:w.cell? a=some (.int .i32 1))(hz:w.frozen? a=false):
  CallsDIn Fence.wide 0 prog 55 #[.pointer (some a)] u w fun e u' w'=>u'=u/\(e=.returned (.tuple #[])/\w'=w.setCell a (.int .i32 0)):=by
 have hil:=iunlock_held qhd a;refine callsDIn_of_wp (F:=Fence.wide) (n:=0) Tryz.func55 rfl trivial (wpIn_wide.2 ?_);simp only [Tryz.ntmps55,size_toArray,length_cons,length_nil,Nat.reduceAdd,Nat.reduceSub,Array.replicate_succ,Array.replicate_zero,push_toArray,append_toArray,nil_append,cons_append];go_wp2_with fail;refine(hil _ hc hz).mono ?_;rintro e w' ⟨rfl,rfl⟩;go_wp2_with fail
 go_end0
 exact⟨rfl,rfl⟩
theorem qej {fn:Func}{tmps:Array Value}{R:Ending->World->Prop}{ds:List Deferred}{a:Addr}{w:World}(hc:w.cell? a=some (.int .i32 1))(hz:w.frozen? a=false)
  (h:LeavesInM Fence.wide 0 prog fn tmps R ds .returning (w.setCell a (.int .i32 0))):
  LeavesInM Fence.wide 0 prog fn tmps R ({target:=.fn (.func 55) #[],args:= #[.pointer (some a)]}::ds) .returning w:=by
 refine⟨by simp,.inr ⟨fun h=>(by simp [Fence.wide] at h),_,_,55,#[.pointer (some a)],rfl,by simp [invoke,go_sem],fun _ _=>trivial,?_⟩⟩;obtain⟨h1,h2⟩:=q2k a .returning w hc hz;refine⟨h1,fun c cs hcu hr=>?_⟩;obtain⟨e,u',w',fr,⟨rfl,rfl,rfl⟩,hs,hx⟩:=h2 c cs hcu hr;exact⟨_,_,_,fr,h,hs,hx⟩
end Go.Proofs
namespace Go.Proofs
open Go.RowKit Go.Ink R4
theorem q6k:qce prog 162 46 1 24:=qcx (z:=.slice none 0 0) (by kernel_rfl) (by kernel_rfl) rfl (by decide) (by decide)
theorem qdg {w:World}{base base':Nat}{e e':TypeId}{sz sz' n n':Nat}{v v':Value}{xs xs':List Value}(h:w.ownsRow base e sz v n xs)(h':w.ownsRow base' e' sz' v' n' xs')(he:e≠e'){b:Nat}(hb:v.ownBlock=some b):v'.ownBlock≠some b:=fun hb'=>by
 rcases h.2 with ⟨e1,_⟩ |⟨g,cap,cur,e1,_,e3,_⟩
 ·rw [e1]at hb;cases hb
 ·rcases h'.2 with ⟨f1,_⟩ |⟨g',cap',cur',f1,_,f3,_⟩
  ·rw [f1]at hb';cases hb'
  ·rw [e1]at hb;rw [f1]at hb';have q1:g=b:=by simpa [Value.ownBlock] using hb
   have q2:g'=b:=by simpa [Value.ownBlock] using hb'
   rw [q1]at e3;rw [q2,e3]at f3;injection f3 with f3
   injection f3 with _ f3
   exact he f3
theorem RowsAt.snoc {P:Nat->Prop}{w:World}{v:Value}{tss:List (List ByteArray)}(h:RowsAt P w v tss){base:Nat}{vu:Value}{u:List ByteArray}(hou:w.ownsRow base 9 1 vu u.length (u.map .string))(hPu: ∀b,vu.ownBlock=some b->P b)(hl:tss.length<=1073741824)(hPn: ∀b,w.heap.size<=b->P b):
  ∃a c g cap W',v=.slice a tss.length c/\(Builtin.append_ #[162,162] 162 #[v,.slice (some ⟨w.heap.size,0,none⟩) 1 1]).run prog (w.alloc (.cells #[vu] 46))=.ok (.slice (some ⟨g,0,none⟩) (tss.length+1) cap) W'/\
   RowsAt P W' (.slice (some ⟨g,0,none⟩) (tss.length+1) cap) (tss++ [u])/\Keep (fun b=>v.ownBlock≠some b) w W':=by
 obtain⟨us,hul,hown,hP1,hP2⟩:=h;obtain⟨v3,Y3,hr3,ho3,hk3,gb,cap,hv3,hgb,hgl⟩:=qc4 (P:=prog) q6k 162 hown [vu] rfl (by obtain⟨a,c,rfl⟩:=qi hou;simp [Value.oneCell']) (by omega) (Nat.zero_le _);subst hv3;obtain⟨a,c,hv⟩:=qi hown;rw [hul]at hv;rw [hul]at hr3 ho3;refine⟨a,c,gb,cap,Y3,hv,hr3,⟨us++ [vu],by simp [hul],?_,fun b hb=>?_,fun j x t hx ht=>?_⟩,hk3.mono fun b _ h e=>h e.symm⟩
 ·rw [length_append,length_singleton,hul];exact ho3
 ·have hb':gb=b:=by simpa [Value.ownBlock] using hb
  subst hb';rcases hgb with h |h
  ·exact hP1 _ h
  ·exact hPn _ h
 ·have key: ∀{x:Value} {t:List ByteArray} {base:Nat},w.ownsRow base 9 1 x t.length (t.map .string)->Y3.ownsRow base 9 1 x t.length (t.map .string):=fun hx=>qg hx hk3 (fun b hb e=>qdg hx hown (by decide) hb e.symm);by_cases hj:j<us.length
  ·rw [getElem?_append_left hj]at hx;rw [getElem?_append_left (by omega)]at ht;obtain⟨q1,q2⟩:=hP2 j x t hx ht;exact⟨key q1,q2⟩
  ·rw [getElem?_append_right (by omega)]at hx;rw [getElem?_append_right (by omega)]at ht;have hj1:j-us.length=0:=by have:=(List.getElem?_eq_some_iff.1 hx).1;simp at this;omega
   rw [hj1]at hx;rw [←hul,hj1]at ht;simp only [getElem?_cons_zero,Option.some.injEq]at hx ht;subst hx ht;exact⟨(key hou).mono (Nat.zero_le _),hPu⟩
theorem q2l {n0:Nat}{g:Gh}{w:World}{S:Nat}{c:List ql}{T M MX:Nat}{vx:Value}{xs:List ByteArray}{rl:List ((ByteArray×Nat)×Nat)}{p:ByteArray}{n R Pp Km D:Nat}{vD:Value}{lm:List (List Bool×Nat)}{W1 W2 W Wm:World}{s0 s:qeo}(hg:GInv g w)(hS:g.st S=some c)(hP:StParts g.tag w S c T M MX vx xs rl)
  (hk:((p,n),R)∈rl) (hs0:s0=⟨qa1 g.tag S R,(qo c p n).map (qr xs),vD,lm⟩) (hunl:Keep (fun _=>True) w (W1.setCell ⟨S,0,none⟩ (.int .i32 0))) (k12:Keep (fun _=>True) W1 W2) (h4:RelSame s0 W2 s W) (hinv:RelInv R n Pp Km s W) (kD:Keep (fun b=>b≠D) W Wm) (hD:s.tag D=none) (hDW:W2.heap.size<=D):
  GStep n0 g w {g with tag:=qbv g.tag S R s.tag} (Wm.setCell ⟨S,0,none⟩ (.int .i32 0))/\Keep (fun b=>s0.tag b=none/\b<W2.heap.size) W1 Wm/\s0.tag S=none:=by
 have z12:=k12.size;have zu:w.heap.size<=W1.heap.size:=by simpa using hunl.size
 have tS:s0.tag S=none:=by
  cases hT:s0.tag S with
  |none=>rfl
  |some U=>rw [hs0] at hT;have:=qaa.1 hT;rw [hP.tagS] at this;cases this
 have sS:s.tag S=none:=by
  cases hT:s.tag S with
  |none=>rfl
  |some U=>
   rcases h4.new S U hT with ⟨U',h1⟩ |h1
   ·rw [tS]at h1;cases h1
   ·have:=qe hP.box;omega
 have k1:Keep (fun b=>s0.tag b=none/\b<W2.heap.size) W1 Wm:=((k12.mono fun _ _ _=>trivial).trans h4.keep).trans (kD.mono fun b _ h=>by omega);refine⟨?_,k1,tS⟩;have hgu:GInv g (W1.setCell ⟨S,0,none⟩ (.int .i32 0)):=hg.keep (hunl.mono fun _ _ _=>trivial);have hPu:=hP.keep (tag':=g.tag) hunl (fun _ _ _=>trivial) (fun _ _=>Iff.rfl);have hK:Keep (fun b=>qa1 g.tag S R b=none) (W1.setCell ⟨S,0,none⟩ (.int .i32 0)) (Wm.setCell ⟨S,0,none⟩ (.int .i32 0)):=by
  have k2:Keep (fun b=>qa1 g.tag S R b=none) W1 Wm:=k1.mono fun b hb h=>⟨by rw [hs0];exact h,by omega⟩;exact Keep.set_both k2 S 0 (.int .i32 0)
 have hR:qb6 s.tag (Wm.setCell ⟨S,0,none⟩ (.int .i32 0)) R n ((qo c p n).map (qr xs)) s.vD Pp Km s.lm:=by
  have h:=hinv.own;rw [h4.same,hs0]at h;exact(h.keep kD (fun b U hb _ e=>by subst e;rw [hD] at hb;cases hb)).keep (Keep.setCell (C:=fun b=>b≠S) _ _ _ (by simp)) (fun b U hb _ e=>by subst e;rw [sS] at hb;cases hb)
 have hle:=h4.le;have hnew:=h4.new;rw [hs0]at hle hnew;refine(GStep.own hg hunl).trans (q2g hgu hS hPu hk hle (fun b U hb=>(hnew b U hb).imp id (fun h=>by simp;omega)) (fun b U hb=>?_) hK hR);have h1:=hinv.own.lt b U hb;have h2:=kD.size;simp;omega
end Go.Proofs
