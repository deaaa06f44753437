/- Parts of the proof. -/
import Derived.Test.YtnponcjnahicnaaGreatProg
import Derived.Test.YtnponcjnahicnaaGreatRfHToRfI
import Derived.Test.YtnponcjnahicnaaGreatHdToKp
import Derived.Test.YtnponcjnahicnaaGreatHoistToRowC
set_option linter.unusedSimpArgs false
set_option linter.unusedVariables false
open Go.Proofs.Tryz(prog)
open List(drop_eq_getElem_cons drop_length flatMap_append foldl_append getElem?_append_left getElem?_eq_getElem getElem?_eq_none getElem?_map getElem?_take_of_lt length_append length_cons length_drop length_map length_set length_take map_append map_cons map_drop map_take mem_of_getElem? mem_of_mem_take perm_append_singleton perm_middle set_append_right take_add_one take_append_drop take_length take_of_length_le)
namespace Go.Proofs
open Go.RowKit Go.Ink Go.Flt R4 P16
attribute [local go_sem] Oper.semAt_some
abbrev MQ:=qad×Value×Value
def qal (q:MQ):List Value:= [q.2.1,q.2.2]
def MqOk (n:Nat)(w:World)(q:MQ):Prop:=qae n w q.2.1 q.1.head/\qae n w q.2.2 q.1.vals
theorem MqOk.keep {n:Nat}{w w':World}{q:MQ}(h:MqOk n w q)(hK:Keep (fun k=>k<n) w w'):MqOk n w' q:=⟨qbr h.1 hK,qbr h.2 hK⟩
theorem qoz:qce prog 41 48 2 48:=qcx (z:=.agg #[.slice none 0 0,.slice none 0 0]) (by kernel_rfl) (by kernel_rfl) rfl (by decide) (by decide)
theorem quu {a b:List ByteArray}:qhf a b<0↔ltR a b=true:=by
 unfold qhf;by_cases h:ltR a b=true
 ·rw [if_pos h];simp [h]
 ·rw [if_neg h];by_cases h2:ltR b a=true
  ·rw [if_pos h2];simp [h]
  ·rw [if_neg h2];simp [h]
theorem q4k {m:qad}: ∀{l:List qad} {k:Nat},(∀j x,j<k->l[j]?=some x->ltR x.vals m.vals=true)->(∀x,l[k]?=some x->ltR x.vals m.vals=false)->qea l m=l.take k++m::l.drop k:=by
 intro l
 induction l with
 |nil=>intro k _ _;simp [qea]
 |cons x xs ih=>
  intro k h1 h2;cases k with
  |zero=>
   have:=h2 x rfl;unfold qea;rw [if_neg (by rw [this];simp)]
   rfl
  |succ k=>
   have:=h1 0 x (by omega) rfl;unfold qea;rw [if_pos this,ih (fun j y hj hy=>h1 (j+1) y (by omega) hy) (fun y hy=>h2 y hy)]
   rfl
theorem q15 (A C:List MQ)(x y:MQ):(((A++x::C).flatMap qal).set (A.length*2) y.2.1).set (A.length*2+1) y.2.2=(A++y::C).flatMap qal:=by
 rw [flatMap_append,flatMap_append,set_append_right _ _ (by rw [qa0 qal 2 (fun _=>rfl)];omega),qa0 qal 2 (fun _=>rfl),set_append_right _ _ (by rw [qa0 qal 2 (fun _=>rfl)];omega),qa0 qal 2 (fun _=>rfl)]
 congr 1
 rw [show A.length*2-A.length*2=0 by omega,show A.length*2+1-A.length*2=1 by omega]
 rfl
abbrev quv (n:Nat)(w:World)(v:Value)(qs:List MQ):Prop:=SliceIn n w 2 (fun w b o q=>CellsE w b o (qal q)) v qs
theorem qp9 {w:World}{base:Nat}{e:TypeId}{v:Value}{n:Nat}{qs:List MQ}(h:w.ownsRow base e 2 v n (qs.flatMap qal))(hn:n=qs.length)(hb:qs.length<=1073741824):quv w.heap.size w v qs:=
 qdx h qs hn hb _ fun b k p hp hc=>fun j u hj=>by
  have hj2:j<2:=by
   have:=(List.getElem?_eq_some_iff.1 hj).1
   simpa [qal]using this
  have hk:=qbc qal 2 (fun _=>rfl) _ k j p hp hj2;have:=hc j hj2;rw [hk,hj]at this;exact this
theorem quw {n:Nat}{K1 K:Act->World->Prop}{Q:Exit->Act->World->Prop}(h: ∀a X,K1 a X->K a X): ∀x a X,Exit.inBlock n (Exit.then K1 fun _ _ _=>False) x a X->Exit.inBlock n (Exit.then K Q) x a X:=fun x a X hx=>by
 unfold Exit.inBlock at hx⊢;cases x with
 |normal=>exact h a X hx
 |exit i=>
  by_cases hi:i=n
  ·subst hi;simp only [if_true]at hx⊢;exact h a X hx
  ·simp only [if_neg hi]at hx⊢;exact hx.elim
 |ret=>exact hx.elim
 |goto _=>exact hx.elim
 |panic _=>exact hx.elim
 |outgrown=>exact hx.elim
set_option maxRecDepth 100000 in
set_option maxHeartbeats 4000000 in
theorem q6e {n base B:Nat}{w:World}{c0 c1 c2 c3 c4 c5 c6 vo vh vv:Value}{qs:List MQ}{m:qad}(hB:w.heap[B]?=some (.cells #[c0,c1,c2,c3,c4,c5,c6,vo] 132 (0,0)))(ho:w.ownsRow base 48 2 vo qs.length (qs.flatMap qal))(hBb:B<base)(hnb:n<=B)(hb:base<=w.heap.size)
  (hq: ∀q,q∈qs->MqOk n w q) (hm:MqOk n w (m,vh,vv)) (hl:qs.length<1073741824):
  Calls prog 62 #[qj B,.agg #[vh,vv]] w fun e w'=> ∃v0 vo' k,e=.returned v0/\w'.heap[B]?=some (.cells #[c0,c1,c2,c3,c4,c5,c6,vo'] 132 (0,0))/\Keep (fun b=>b<base/\b≠B) w w'/\
   w'.ownsRow base 48 2 vo' (qs.take k++(m,vh,vv)::qs.drop k).length ((qs.take k++(m,vh,vv)::qs.drop k).flatMap qal)/\qea (qs.map (·.1)) m=(qs.take k++(m,vh,vv)::qs.drop k).map (·.1):=by
 obtain⟨N,hN⟩:=ex (w.heap.size);obtain⟨ah,ch,hvh,hlh,hch,-⟩:=id hm.1;obtain⟨av,cv,hvv,hlv,hcv,-⟩:=id hm.2;simp only at hvh hvv hlh hch hlv hcv;subst hvh;subst hvv;obtain⟨W0,hW0⟩:=ex (w.alloc (.cells #[.slice ah m.head.length ch,.slice av m.vals.length cv] 48));have k0:Keep (fun _=>True) w W0:=by rw [←hW0];exact kAl
 have p0:W0.heap[N]?=some (.cells #[.slice ah m.head.length ch,.slice av m.vals.length cv] 48 (0,0)):=by rw [←hW0,←hN];exact qh _ _
 have z0:W0.heap.size=N+1:=by rw [←hW0,←hN];simp
 have hB0:=k0.heap hB trivial;have ho0:=qg ho k0 (fun _ _=>trivial);have hq0: ∀q,q∈qs->MqOk n W0 q:=fun q h=>(hq q h).keep (k0.mono fun _ _ _=>trivial);have hm0:=hm.keep (k0.mono fun _ _ _=>trivial);have hg0: ∀g,vo.ownBlock=some g->g≠N:=fun g h=>by have:=(World.ownsRow.lt ho g h).2;omega
 have hnN:n<=N:=by omega
 have hBN:B<N:=by omega
 obtain⟨ao,co,rfl⟩:=qi ho;clear hq hm;refine qiz ?_ hB ho hN hW0 k0 p0 hB0 ho0 hq0 hm0 hg0;clear hB ho hN hW0 k0 p0 hB0 ho0 hq0 hm0 hg0;intro XhB Xho XhN XhW0 Xk0 Xp0 XhB0 Xho0 Xhq0 Xhm0 Xhg0;refine qbp Tryz.func62 rfl ?_;simp only [Tryz.ntmps62,qdz,Nat.reduceAdd,Nat.reduceSub];gi_wp2;rw [XhW0.o,XhN.o];obtain⟨K1,hK1⟩: ∃K1:Act->World->Prop,K1=fun a X=> ∃(k:Nat) (u6 u7 u8 u9 u10 u11 u12 u13 u14 u15 u16 u17 u18 u19 u20 u21 u22 u23 u24 u25 u26 u27 u28:Value),(k<=qs.length/\Keep (fun _=>True) W0 X/\(∀j x,j<k->(qs.map (·.1))[j]?=some x->ltR x.vals m.vals=true)/\ ∀x,(qs.map (·.1))[k]?=some x->ltR x.vals m.vals=false)/\a=⟨#[qj B,.agg #[.slice ah m.head.length ch,.slice av m.vals.length cv],undef,.pointer (some ⟨N,0,none⟩),.int .i64 (k:Int),undef,u6,u7,u8,u9,u10,u11,u12,u13,u14,u15,u16,u17,u18,u19,u20,u21,u22,u23,u24,u25,u26,u27,u28,undef,undef,undef,undef,undef,undef,undef,undef,undef,undef,undef,undef,undef,undef,undef,undef,undef,undef,undef,undef,undef,undef,undef,undef,undef,undef,undef,undef,undef,undef,undef,undef,undef,undef,undef,undef,undef,undef,undef,undef,undef,undef],[]⟩:=⟨_,rfl⟩;have XhK1:=Lib.hid hK1;clear hK1;refine wpIn_mono (Q:=Exit.inBlock 0 (Exit.then K1 fun _ _ _=>False)) ?_ (quw ?_)
 ·gi_loopw [4] (fun ix wr=> ∃(k:Nat),k<=qs.length/\ix=.int .i64 (k:Int)/\Keep (fun _=>True) W0 wr/\ ∀j x,j<k->(qs.map (·.1))[j]?=some x->ltR x.vals m.vals=true) (fun i _=>qs.length-(intOf i).toNat)
  case atStart=>exact⟨0,by omega,rfl,Keep.refl _ _,fun j x h=>by omega⟩
  case round=>
   obtain⟨k,hk,rfl,hK,hall⟩:=hrel;have hbx:=hK.heap XhB0.o trivial;have d7:=qb hbx 7 _ rfl;have hbm:=hK.heap Xp0.o trivial;have e0:=qb hbm 0 _ rfl;have e1:=qb hbm 1 _ rfl;have hBw:=qe hbx;have hNw:=qe hbm;simp only [Nat.zero_add]at d7 e0 e1;have hk0:(0:Int)<=k:=by omega
   have kd:Keep (fun _=>True) wr wr.drew:=kDr;obtain⟨Wd,hWd⟩:=ex (wr.drew);rw [hWd]at kd;have hzd:=kd.size;have hBd:B<Wd.heap.size:=by omega
   have hNd:N<Wd.heap.size:=by omega
   by_cases hlt:k<qs.length
   ·have hlt1:(k:Int)<qs.length:=by omega
    obtain⟨q,hqk⟩: ∃q,qs[k]?=some q:=⟨_,getElem?_eq_getElem hlt⟩;obtain⟨ao',co',hvo,-,hco,heo⟩:=qp9 Xho0.o rfl (by omega);injection hvo with ho1 ho2 ho3
    subst ho1;subst ho3;obtain⟨b,o,rfl,hbq,hcl⟩:=heo k q hqk;have hok:=Xhq0.o q (mem_of_getElem? hqk);obtain⟨aq,cq,hvq,hlq,hcq,-⟩:=id hok.2;have f1:=hK.cell (hcl 1 _ rfl) trivial;rw [hvq]at f1;have hmk:(qs.map (·.1))[k]?=some q.1:=by rw [getElem?_map,hqk];rfl
    have hbw:b<wr.heap.size:=by have:=hK.size;omega
    have hbd:b<Wd.heap.size:=by omega
    have kn:Keep (fun b=>b<n) W0 Wd:=(hK.trans kd).mono fun _ _ _=>trivial;have hcall:=qx2 n _ _ q.1.vals m.vals Wd (qbr hok.2 kn) (qbr Xhm0.o.2 kn) (by omega);rw [hvq]at hcall;have hS0:Wd.cell? ⟨B,7,none⟩=some (.slice (some ⟨b,o,none⟩) qs.length co)/\Wd.cell? ⟨b,o+k*2+1,none⟩=some (.slice aq q.1.vals.length cq)/\Wd.cell? ⟨N,1,none⟩=some (.slice av m.vals.length cv):=⟨kd.cell d7 trivial,kd.cell f1 trivial,kd.cell e1 trivial⟩;have hyes:qhf q.1.vals m.vals<0-> ∀j x,j<k+1->(qs.map (·.1))[j]?=some x->ltR x.vals m.vals=true:=fun h j x hj hx=>by
     rcases Nat.lt_succ_iff_lt_or_eq.1 hj with h2 |rfl
     ·exact hall j x h2 hx
     ·rw [hmk]at hx;cases hx;exact quu.1 h
    have hno: ¬qhf q.1.vals m.vals<0-> ∀x,(qs.map (·.1))[k]?=some x->ltR x.vals m.vals=false:=fun h x hx=>by
     rw [hmk]at hx;cases hx;cases h3:ltR q.1.vals m.vals with
     |false=>rfl
     |true=>exact absurd (quu.2 h3) h
    obtain⟨c,hc⟩:=ex (qhf q.1.vals m.vals);rw [hc]at hyes hno hcall;clear hcl hvq hok hqk heo kn hmk hc;refine qd9 ?_ hK hall hno hyes hbx hbm hWd kd hcall hS0;clear hK hall hno hyes hbx hbm hWd kd hcall hS0;intro XhK Xhall Xhno Xhyes Xhbx Xhbm XhWd Xkd Xhcall XhS0;gi_wp2;refine qab ?_;refine qx rfl (fun X=>X.cell? ⟨B,7,none⟩=some (.slice (some ⟨b,o,none⟩) qs.length co)/\X.cell? ⟨b,o+k*2+1,none⟩=some (.slice aq q.1.vals.length cq)/\X.cell? ⟨N,1,none⟩=some (.slice av m.vals.length cv)) [] ?_;rw [XhWd.o];refine qam [0,1,2,3,4,5,6,7,8,9,10,11,12,13,14,15,16,17] ?_
    iterate 18
     refine tkR (v:=?_) rfl XhS0.o ?_ ?_;rotate_left
     ·rintro Wq ⟨x1,x2,x3⟩;go_simp
      try with_reducible rfl
     try simp only [qan]
    refine qu ?_;refine qfv (i:=18) rfl (by kernel_rfl) (fun K hK=>?_);have XhK1':=Lib.hid hK;clear hK;gi_wp2;refine⟨trivial,rfl,(callsIn_wide.2 Xhcall.o).mono ?_⟩;rintro e We ⟨rfl,mm,hWe⟩;have ke:Keep (fun _=>True) Wd We:=by rw [hWe];exact Keep.drewN' _ _ _
    have hS1:We.cell? ⟨B,7,none⟩=some (.slice (some ⟨b,o,none⟩) qs.length co)/\We.cell? ⟨b,o+k*2+1,none⟩=some (.slice aq q.1.vals.length cq)/\We.cell? ⟨N,1,none⟩=some (.slice av m.vals.length cv):=⟨ke.cell XhS0.o.1 trivial,ke.cell XhS0.o.2.1 trivial,ke.cell XhS0.o.2.2 trivial⟩;have hKe:=(XhK.o.trans Xkd.o).trans ke;clear hWe ke;refine hd2 ?_ hS1 hKe;clear hS1 hKe;intro XhS1 XhKe;gi_wp2;refine XhK1'.o _ _ (fun _=>XhS1.o) ?_;clear XhK1';by_cases hneg:c<0
    ·have hall2:=Xhyes.o hneg;refine hd1 ?_ hall2;clear hall2;intro Xhall2;refine qam [19,20] ?_
     iterate 2
      refine tkR (v:=?_) rfl XhS1.o ?_ ?_;rotate_left
      ·rintro Wq ⟨x1,x2,x3⟩;go_simp
       try with_reducible rfl
      try simp only [qan]
     refine qu ?_;refine qk (by kernel_rfl) (qm ?_);gi_wp2;go_roundw
     case rel=>exact⟨k+1,by omega,by go_num,XhKe.o,Xhall2.o⟩
     case measure=>simp [intOf];omega
    ·have hno2:=Xhno.o (by omega);refine hd1 ?_ hno2;clear hno2;intro Xhno2;refine qam [19,20] ?_
     iterate 2
      refine tkR (v:=?_) rfl XhS1.o ?_ ?_;rotate_left
      ·rintro Wq ⟨x1,x2,x3⟩;go_simp
       try with_reducible rfl
      try simp only [qan]
     refine qu ?_;refine qk (by kernel_rfl) (qm ?_);gi_wp2;rw [XhK1.o];exact⟨k,_,_,_,_,_,_,_,_,_,_,_,_,_,_,_,_,_,_,_,_,_,_,_,⟨hk,XhKe.o,Xhall.o,Xhno2.o⟩,rfl⟩
   ·obtain rfl:k=qs.length:=by omega
    have hno: ∀x,(qs.map (·.1))[qs.length]?=some x->ltR x.vals m.vals=false:=fun x h=>by
     rw [getElem?_eq_none (by simp)]at h;cases h
    have hS0:Wd.cell? ⟨B,7,none⟩=some (.slice ao qs.length co):=kd.cell d7 trivial;clear hlt;refine hd8 ?_ hK hall hno hbx hbm hWd kd hS0;clear hK hall hno hbx hbm hWd kd hS0;intro XhK Xhall Xhno Xhbx Xhbm XhWd Xkd XhS0;gi_wp2;refine qab ?_;refine qx rfl (fun X=>X.cell? ⟨B,7,none⟩=some (.slice ao qs.length co)) [] ?_;rw [XhWd.o];refine qam [0,1,2,3,4,5,6,7] ?_
    iterate 8
     refine tkR (v:=?_) rfl XhS0.o ?_ ?_;rotate_left
     ·rintro Wq x1;go_simp
      try with_reducible rfl
     try simp only [qan]
    refine qu ?_;refine qam [8,9,10,11,12,13,14,15,16,17,18,19] ?_
    iterate 12
     refine tkS rfl XhS0.o ?_
     try simp only [qan]
    refine qu ?_;refine hoR 20 rfl fun K XhK2=>?_;gi_wp2;refine XhK2.o _ _ (fun _=>XhS0.o) ?_;refine qk (by kernel_rfl) (qm ?_);clear XhK2;gi_wp2;rw [XhK1.o];exact⟨qs.length,_,_,_,_,_,_,_,_,_,_,_,_,_,_,_,_,_,_,_,_,_,_,_,⟨Nat.le_refl _,XhK.o.trans Xkd.o,Xhall.o,Xhno.o⟩,rfl⟩
 ·rintro a X hX;rw [XhK1.o]at hX;obtain⟨k,u6,u7,u8,u9,u10,u11,u12,u13,u14,u15,u16,u17,u18,u19,u20,u21,u22,u23,u24,u25,u26,u27,u28,⟨hk,hK,hall,hno⟩,rfl⟩:=hX
  dsimp only
  have hput:=q4k hall hno;have hoX:=qg Xho0.o hK (fun _ _=>trivial);have hbx:=hK.heap XhB0.o trivial;have d7:=qb hbx 7 _ rfl;have hBw:=qe hbx;have hzX:=hK.size;simp only [Nat.zero_add]at d7;obtain⟨v4,W4,hr4,ho4,hk4,g4,cap4,hv4,hg4,hl4⟩:=qc4 qoz 41 hoX [.slice none 0 0,.slice none 0 0] rfl (by simp [Value.oneCell']) (by omega) (by have:=XhN.o;omega);subst hv4;have hk4':Keep (fun b=>b<base∨b=N) X W4:=hk4.mono fun b _ (h:b<base∨b=N)=>by
   rcases h with h |rfl
   ·exact qh6 hoX h
   ·exact fun e=>Xhg0.o _ e.symm rfl
  have hgN:g4≠N:=fun e=>by
   rcases hg4 with h |h
   ·exact Xhg0.o _ h e
   ·omega
  have hgb:=(qkz ho4).2.2.2;have hB4:=hk4'.heap hbx (.inl hBb);have b4:=qf hB4 7;have l4:=qe hB4;have e7:=qb hB4 7 _ rfl;simp only [Nat.zero_add]at e7;obtain⟨W5,hW5⟩:=ex (W4.setCell ⟨B,7,none⟩ (.slice (some ⟨g4,0,none⟩) (qs.length+1) cap4));have k5:Keep (fun b=>b≠B) W4 W5:=by rw [←hW5];exact kSc
  have hB5:W5.heap[B]?=some (.cells #[c0,c1,c2,c3,c4,c5,c6,.slice (some ⟨g4,0,none⟩) (qs.length+1) cap4] 132 (0,0)):=by rw [←hW5];exact q8 7 _ hB4
  have ho5:=qg ho4 k5 (fun b hb e=>by subst e;have:=(World.ownsRow.lt ho4 _ hb).1;omega);have hN5:=k5.heap (hk4'.heap (hK.heap Xp0.o trivial) (.inr rfl)) (show N≠B by omega);have hKX:Keep (fun b=>b<base/\b≠B) w W5:=((Xk0.o.trans hK).mono fun _ _ _=>trivial).trans ((hk4'.mono fun b _ (h:b<base/\b≠B)=>.inl h.1).trans (k5.mono fun b _ h=>h.2));have hcont:(qs.flatMap qal++ [Value.slice none 0 0,.slice none 0 0])=((qs.take qs.length++((default,.slice none 0 0,.slice none 0 0):MQ)::qs.drop qs.length).flatMap qal):=by
   rw [take_length,drop_length,flatMap_append];rfl
  rw [hcont]at ho5;clear hall hno hoX hbx ho4 hk4 hk4' hg4 hB4 k5 hcont;refine hd8 ?_ hput hK hr4 hW5 ho5 hB5 hN5 hKX;clear hput hK hr4 hW5 ho5 hB5 hN5 hKX;intro Xhput XhK Xhr4 XhW5 Xho5 XhB5 XhN5 XhKX
  gi_wp2_with (gi_at_builtin;refine qch (v:=.slice ao qs.length co) (u:=.slice (some ⟨X.heap.size,0,none⟩) 1 1) (v':=.slice (some ⟨g4,0,none⟩) (qs.length+1) cap4) (w':=W4) rfl (.tmp 33) (.tmp 35) 41 rfl rfl rfl Xhr4.o ?_)
  rw [XhW5.o];gi_loopw [5] (fun ix wr=> ∃(j:Nat) (x:MQ),k<=j/\j<=qs.length/\ix=.int .i64 (j:Int)/\Keep (fun b=>b<base∨b=N) W5 wr/\wr.ownsRow base 48 2 (.slice (some ⟨g4,0,none⟩) (qs.length+1) cap4) (qs.length+1) ((qs.take j++x::qs.drop j).flatMap qal)) (fun i _=>(intOf i).toNat)
  case atStart=>exact⟨qs.length,_,hk,Nat.le_refl _,rfl,Keep.refl _ _,Xho5.o⟩
  case round=>
   obtain⟨j,x,hkj,hjl,rfl,hK2,hO⟩:=hrel;have hbx:=hK2.heap XhB5.o (.inl hBb);have q7:=qb hbx 7 _ rfl;have hbm:=hK2.heap XhN5.o (.inr rfl);have m0:=qb hbm 0 _ rfl;have m1:=qb hbm 1 _ rfl;have hBr:=qe hbx;have hNr:=qe hbm;simp only [Nat.zero_add]at q7 m0 m1;obtain⟨csg,htg⟩:=qav hO (b:=g4) rfl;have hgr:=qe htg;have kd:Keep (fun _=>True) wr wr.drew:=kDr;obtain⟨Wd,hWd⟩:=ex (wr.drew);rw [hWd]at kd;have hzd:=kd.size;have hBd:B<Wd.heap.size:=by omega
   have hNd:N<Wd.heap.size:=by omega
   have hgd:g4<Wd.heap.size:=by omega
   have hcap:=qkz hO;have hcm:=hcap.1;have hcm2:=hcap.2.1;have htgd:=kd.heap htg trivial;have hOd:=qg hO kd (fun _ _=>trivial);by_cases hlt:k<j
   ·obtain⟨i,rfl⟩: ∃i,j=i+1:=⟨j-1,by omega⟩;have hlt1:(k:Int)<((i+1:Nat):Int):=by omega
    have hsub:(((i+1:Nat):Int)-1)=(i:Int):=by omega
    have hi0:(0:Int)<=i:=by omega
    have hi1:(0:Int)<=(i:Int)+1:=by omega
    have hwr:IntKind.i64.wrap (i:Int)=(i:Int):=IntWalk.i64_in _ (by omega);have hil3:(i:Int)<(qs.length:Int)+1:=by omega
    have hil4:(i:Int)+1<(qs.length:Int)+1:=by omega
    have hil:(i:Int)<qs.length:=by omega
    have hil1:(i:Int)<((qs.length+1:Nat):Int):=by omega
    have hil2:((i+1:Nat):Int)<((qs.length+1:Nat):Int):=by omega
    obtain⟨y,hy⟩: ∃y,qs[i]?=some y:=⟨_,getElem?_eq_getElem (by omega)⟩;have hat:(qs.take (i+1)++x::qs.drop (i+1))[i]?=some y:=by
     rw [getElem?_append_left (by rw [length_take];omega),getElem?_take_of_lt (by omega)];exact hy
    have s0:Wd.cell? ⟨g4,i*2,none⟩=some y.2.1:=kd.cell (qb7 hO (i*2) _ (by have:=qbc qal 2 (fun _=>rfl) _ i 0 y hat (by omega);simpa [qal] using this)) trivial;have s1:Wd.cell? ⟨g4,i*2+1,none⟩=some y.2.2:=kd.cell (qb7 hO (i*2+1) _ (by have:=qbc qal 2 (fun _=>rfl) _ i 1 y hat (by omega);simpa [qal] using this)) trivial;have hyo:=Xhq0.o y (mem_of_getElem? hy);obtain⟨y1,y2,y3⟩:=y;obtain⟨ay,cy,hvy,-,-,-⟩:=id hyo.1;obtain⟨az,cz,hvz,-,-,-⟩:=id hyo.2;simp only at hvy hvz s0 s1;subst hvy;subst hvz;have hlen:(qs.take (i+1)).length=i+1:=by rw [length_take];omega
    have hfl:((qs.take (i+1)++x::qs.drop (i+1)).flatMap qal).length=(qs.length+1)*2:=by
     rw [qa0 qal 2 (fun _=>rfl),length_append,length_cons,length_drop,hlen];omega
    have hO6:=qjf (qjf hOd ((i+1)*2) (.slice ay y1.head.length cy) (by rw [hfl];omega)) ((i+1)*2+1) (.slice az y1.vals.length cz) (by rw [length_set,hfl];omega);have hset:=q15 (qs.take (i+1)) (qs.drop (i+1)) x (y1,.slice ay y1.head.length cy,.slice az y1.vals.length cz);rw [hlen]at hset;simp only at hset;rw [hset]at hO6;obtain⟨W6,hW6⟩:=ex ((Wd.setCell ⟨g4,(i+1)*2,none⟩ (.slice ay y1.head.length cy)).setCell ⟨g4,(i+1)*2+1,none⟩ (.slice az y1.vals.length cz));rw [hW6]at hO6;have k6:Keep (fun b=>b≠g4) Wd W6:=by rw [←hW6];exact(kSc).trans (kSc)
    have hsplit:qs.take (i+1)++(y1,Value.slice ay y1.head.length cy,Value.slice az y1.vals.length cz)::qs.drop (i+1)=qs.take i++(y1,.slice ay y1.head.length cy,.slice az y1.vals.length cz)::qs.drop i:=by
     obtain⟨h1,h2⟩:=List.getElem?_eq_some_iff.1 hy;rw [take_add_one,hy,drop_eq_getElem_cons h1,h2];simp
    rw [hsplit]at hO6;have hK6:=hK2.trans ((kd.mono fun _ _ _=>trivial).trans (k6.mono fun b _ (h:b<base∨b=N) e=>by
     rcases h with h |h
     ·omega
     ·exact hgN (e▸h)))
    have fz0:=qf htgd ((i+1)*2);have fz1:=qf htgd ((i+1)*2+1);have hS0:Wd.cell? ⟨B,7,none⟩=some (.slice (some ⟨g4,0,none⟩) (qs.length+1) cap4)/\Wd.cell? ⟨g4,i*2,none⟩=some (.slice ay y1.head.length cy)/\Wd.cell? ⟨g4,i*2+1,none⟩=some (.slice az y1.vals.length cz):=⟨kd.cell q7 trivial,s0,s1⟩;have t0: ∃u,Wd.cell? ⟨g4,(i+1)*2,none⟩=some u:=by
     obtain⟨u,hu⟩: ∃u,((qs.take (i+1)++x::qs.drop (i+1)).flatMap qal)[(i+1)*2]?=some u:=⟨_,getElem?_eq_getElem (by rw [hfl];omega)⟩;exact⟨u,qb7 hOd _ u hu⟩
    have t1: ∃u,Wd.cell? ⟨g4,(i+1)*2+1,none⟩=some u:=by
     obtain⟨u,hu⟩: ∃u,((qs.take (i+1)++x::qs.drop (i+1)).flatMap qal)[(i+1)*2+1]?=some u:=⟨_,getElem?_eq_getElem (by rw [hfl];omega)⟩;exact⟨u,qb7 hOd _ u hu⟩
    obtain⟨tu,t0⟩:=t0;obtain⟨tv,t1⟩:=t1;clear hy hat hyo hset hsplit hlen hfl hO hOd htg hcap k6 s0 s1;refine qd9 ?_ hbx hbm hWd kd hS0 hW6 hO6 hK6 hK2 htgd;clear hbx hbm hWd kd hS0 hW6 hO6 hK6 hK2 htgd;intro Xhbx Xhbm XhWd Xkd XhS0 XhW6 XhO6 XhK6 XhK2 Xhtgd;gi_wp2;refine qab ?_;refine qx rfl (fun X=>X.cell? ⟨B,7,none⟩=some (.slice (some ⟨g4,0,none⟩) (qs.length+1) cap4)/\X.cell? ⟨g4,i*2,none⟩=some (.slice ay y1.head.length cy)/\X.cell? ⟨g4,i*2+1,none⟩=some (.slice az y1.vals.length cz)) [14] ?_;rw [XhWd.o];refine qam [0,1,2,3,4,5,6,7,8,9,10,11,12,13] ?_
    iterate 14
     refine tkR (v:=?_) rfl XhS0.o ?_ ?_;rotate_left
     ·rintro Wq ⟨x1,x2,x3⟩;go_simp
      try with_reducible rfl
     try simp only [qan]
    refine qu ?_;refine hoR 14 rfl fun K XhK2=>?_;gi_wp2;rw [XhW6.o];refine XhK2.o _ _ (fun h=>absurd h (by decide)) ?_;refine qk (by kernel_rfl) (qm ?_);clear XhK2;gi_wp2;go_roundw
    case rel=>exact⟨i,_,by omega,by omega,by go_num,XhK6.o,XhO6.o⟩
    case measure=>simp [intOf]
   ·obtain rfl:j=k:=by omega
    have hfl:((qs.take j++x::qs.drop j).flatMap qal).length=(qs.length+1)*2:=by
     rw [qa0 qal 2 (fun _=>rfl),length_append,length_cons,length_drop,length_take];omega
    have hlen:(qs.take j).length=j:=by rw [length_take];omega
    have hO6:=qjf (qjf hOd (j*2) (.slice ah m.head.length ch) (by rw [hfl];omega)) (j*2+1) (.slice av m.vals.length cv) (by rw [length_set,hfl];omega);have hset:=q15 (qs.take j) (qs.drop j) x (m,.slice ah m.head.length ch,.slice av m.vals.length cv);rw [hlen]at hset;simp only at hset;rw [hset]at hO6;obtain⟨W6,hW6⟩:=ex ((Wd.setCell ⟨g4,j*2,none⟩ (.slice ah m.head.length ch)).setCell ⟨g4,j*2+1,none⟩ (.slice av m.vals.length cv));rw [hW6]at hO6;have k6:Keep (fun b=>b≠g4) Wd W6:=by rw [←hW6];exact(kSc).trans (kSc)
    have hB6:=k6.heap (kd.heap hbx trivial) (show B≠g4 by omega);have hK6:Keep (fun b=>b<base/\b≠B) w W6:=XhKX.o.trans (((hK2.trans ((kd.mono fun _ _ _=>trivial).trans (k6.mono fun b _ (h:b<base∨b=N) e=>by
     rcases h with h |h
     ·omega
     ·exact hgN (e▸h)))).mono fun b _ h=>.inl h.1))
    have hO7:W6.ownsRow base 48 2 (.slice (some ⟨g4,0,none⟩) (qs.length+1) cap4) (qs.take j++(m,.slice ah m.head.length ch,.slice av m.vals.length cv)::qs.drop j).length ((qs.take j++(m,.slice ah m.head.length ch,.slice av m.vals.length cv)::qs.drop j).flatMap qal):=by
     rw [show(qs.take j++((m,.slice ah m.head.length ch,.slice av m.vals.length cv):MQ)::qs.drop j).length=qs.length+1 by rw [length_append,length_cons,length_drop,hlen];omega];exact hO6
    have hput2:qea (qs.map (·.1)) m=(qs.take j++((m,.slice ah m.head.length ch,.slice av m.vals.length cv):MQ)::qs.drop j).map (·.1):=by
     rw [Xhput.o,map_append,map_cons,map_take,map_drop]
    have fz0:=qf htgd (j*2);have fz1:=qf htgd (j*2+1);have hS0:Wd.cell? ⟨B,7,none⟩=some (.slice (some ⟨g4,0,none⟩) (qs.length+1) cap4)/\Wd.cell? ⟨N,0,none⟩=some (.slice ah m.head.length ch)/\Wd.cell? ⟨N,1,none⟩=some (.slice av m.vals.length cv):=⟨kd.cell q7 trivial,kd.cell m0 trivial,kd.cell m1 trivial⟩;have t0: ∃u,Wd.cell? ⟨g4,j*2,none⟩=some u:=by
     obtain⟨u,hu⟩: ∃u,((qs.take j++x::qs.drop j).flatMap qal)[j*2]?=some u:=⟨_,getElem?_eq_getElem (by rw [hfl];omega)⟩;exact⟨u,qb7 hOd _ u hu⟩
    have t1: ∃u,Wd.cell? ⟨g4,j*2+1,none⟩=some u:=by
     obtain⟨u,hu⟩: ∃u,((qs.take j++x::qs.drop j).flatMap qal)[j*2+1]?=some u:=⟨_,getElem?_eq_getElem (by rw [hfl];omega)⟩;exact⟨u,qb7 hOd _ u hu⟩
    obtain⟨tu,t0⟩:=t0;obtain⟨tv,t1⟩:=t1;have hj0:(0:Int)<=j:=by omega
    have hjl2:(j:Int)<(qs.length:Int)+1:=by omega
    clear hset hlen hfl hO hOd htg hcap k6 hlt hO6;refine qhe ?_ hbx hbm hWd kd hS0 hW6 hO7 hK6 hK2 htgd hB6 hput2;clear hbx hbm hWd kd hS0 hW6 hO7 hK6 hK2 htgd hB6 hput2;intro Xhbx Xhbm XhWd Xkd XhS0 XhW6 XhO7 XhK6 XhK2 Xhtgd XhB6 Xhput2;gi_wp2;refine qab ?_;refine qx rfl (fun X=>X.cell? ⟨B,7,none⟩=some (.slice (some ⟨g4,0,none⟩) (qs.length+1) cap4)/\X.cell? ⟨N,0,none⟩=some (.slice ah m.head.length ch)/\X.cell? ⟨N,1,none⟩=some (.slice av m.vals.length cv)) [7] ?_;rw [XhWd.o];refine qam [0,1,2,3,4,5,6] ?_
    iterate 7
     refine tkR (v:=?_) rfl XhS0.o ?_ ?_;rotate_left
     ·rintro Wq ⟨x1,x2,x3⟩;go_simp
      try with_reducible rfl
     try simp only [qan]
    refine qu ?_;refine hoR 7 rfl fun K XhK2=>?_;gi_wp2;rw [XhW6.o];refine XhK2.o _ _ (fun h=>absurd h (by decide)) ?_;refine qk (by kernel_rfl) (qm ?_);clear XhK2;gi_wp2;refine bodyPost_end (results_none rfl _ _ _) rfl ⟨_,_,j,rfl,XhB6.o,XhK6.o,XhO7.o,Xhput2.o⟩
def q7f (n:Nat)(w:World)(b o:Nat)(m:qad):Prop:= ∃vh vv,CellsE w b o [vh,vv]/\qae n w vh m.head/\qae n w vv m.vals
abbrev MatchesIn (n:Nat)(w:World)(v:Value)(ms:List qad):Prop:=SliceIn n w 2 (q7f n) v ms
theorem MatchesIn.keep {n:Nat}{w w':World}{v:Value}{ms:List qad}(h:MatchesIn n w v ms)(hK:Keep (fun k=>k<n) w w'):MatchesIn n w' v ms:=
 h.mono fun b o s hb ⟨vh,vv,h1,h2,h3⟩=>⟨vh,vv,fun j v hj=>hK.cell (h1 j v hj) hb,qbr h2 hK,qbr h3 hK⟩
theorem ql4 {n m:Nat}{w:World}{v:Value}{qs:List MQ}(h:quv m w v qs)(hn:n<=m)(hq: ∀q,q∈qs->MqOk n w q):MatchesIn m w v (qs.map (·.1)):=by
 obtain⟨a,c,hv,hl,hc,he⟩:=h;refine⟨a,c,by rw [length_map];exact hv,by rw [length_map];exact hl,by rw [length_map];exact hc,fun i f hf=>?_⟩;rw [getElem?_map]at hf;cases hp:qs[i]? with
 |none=>rw [hp] at hf;cases hf
 |some p=>
  rw [hp]at hf;cases hf;obtain⟨b,o,e1,hb1,hcl⟩:=he i p hp;have:=hq p (mem_of_getElem? hp);exact⟨b,o,e1,hb1,p.2.1,p.2.2,hcl,qez this.1 hn,qez this.2 hn⟩
theorem q4l {ms:List qad}{k:Nat}{m:qad}(h:ms[k]?=some m):(ms.take (k+1)).foldl qea []=qea ((ms.take k).foldl qea []) m:=by
 rw [take_add_one,h,foldl_append];rfl
set_option maxRecDepth 100000 in
set_option maxHeartbeats 2000000 in
theorem q4m {α:Type}(os:List α)(k:Nat)(x:α):(os.take k++x::os.drop k).Perm (os++ [x]):=by
 refine perm_middle.trans ?_;rw [take_append_drop];exact(perm_append_singleton x os).symm
theorem qqa {n m:Nat}{w:World}{v:Value}{qs:List MQ}(hv:quv m w v qs)(hq: ∀q,q∈qs->MqOk n w q)(hn:n<=m)(hm:m<=w.heap.size)(hlen:qs.length<1073741824):
  Calls prog 20 #[v] w fun e w'=> ∃v',e=.returned v'/\Keep (fun b=>b<w.heap.size) w w'/\ ∃os:List MQ,w'.ownsRow w.heap.size 48 2 v' os.length (os.flatMap qal)/\os.map (·.1)=qd5 (qs.map (·.1))/\os.Perm qs:=by
 obtain⟨al,cl,rfl,hll,hcl,hel⟩:=id hv;obtain⟨N,hN⟩:=ex (w.heap.size);obtain⟨W0,hW0⟩:=ex (w.alloc (.cells #[.string ⟨#[]⟩,.slice none 0 0,.slice none 0 0,.slice none 0 0,.slice none 0 0,.slice none 0 0,.pointer none,.slice none 0 0] 132));have k0:Keep (fun _=>True) w W0:=by rw [←hW0];exact kAl
 have p0:W0.heap[N]?=some (.cells #[.string ⟨#[]⟩,.slice none 0 0,.slice none 0 0,.slice none 0 0,.slice none 0 0,.slice none 0 0,.pointer none,.slice none 0 0] 132 (0,0)):=by rw [←hW0,←hN];exact qh _ _
 have z0:W0.heap.size=N+1:=by rw [←hW0,←hN];simp
 refine hd7 ?_ hv hel hq hN hW0 k0 p0;clear hv hel hq hN hW0 k0 p0;intro Xhv Xhel Xhq XhN XhW0 Xk0 Xp0
 go_enter Tryz.func20,Tryz.ntmps20
 go_wp2_with fail;rw [XhW0.o,XhN.o]
 go_loopw [4] (fun ix wr=> ∃(k:Nat) (vo:Value) (os:List MQ),k<=qs.length/\ix=.int .i64 (k:Int)/\Keep (fun b=>b<N) w wr/\wr.heap[N]?=some (.cells #[.string ⟨#[]⟩,.slice none 0 0,.slice none 0 0,.slice none 0 0,.slice none 0 0,.slice none 0 0,.pointer none,vo] 132 (0,0))/\
  wr.ownsRow (N+1) 48 2 vo os.length (os.flatMap qal)/\os.map (·.1)=((qs.map (·.1)).take k).foldl qea []/\os.Perm (qs.take k)) (fun i _=>qs.length-(intOf i).toNat)
 case atStart=>exact⟨0,.slice none 0 0,[],by omega,rfl,Xk0.o.mono fun _ _ _=>trivial,Xp0.o,World.ownsRow_nil _ _ _ _,rfl,.nil⟩
 case round=>
  obtain⟨k,vo,os,hk,rfl,hK,hB,hO,hsort,hpm⟩:=hrel;have hsub: ∀q,q∈os->q∈qs:=fun q h=>mem_of_mem_take (hpm.mem_iff.1 h);have hol:os.length=k:=by rw [hpm.length_eq,length_take];omega
  have hBw:=qe hB;have hk0:(0:Int)<=k:=by omega
  have hszk:=hK.size;by_cases hlt:k<qs.length
  ·have hlt1:(k:Int)<qs.length:=by omega
   obtain⟨q,hqk⟩: ∃q,qs[k]?=some q:=⟨_,getElem?_eq_getElem hlt⟩;obtain⟨b,o,rfl,hb,hcells⟩:=Xhel.o k q hqk;have hok:=Xhq.o q (mem_of_getElem? hqk);have hqm:=mem_of_getElem? hqk;have hbN:b<N:=by have:=XhN.o;omega
   have f0:=hK.cell (hcells 0 _ rfl) hbN;have f1:=hK.cell (hcells 1 _ rfl) hbN;simp only [Nat.add_zero]at f0;have hbw:b<wr.heap.size:=by omega
   obtain⟨m1,vh,vv⟩:=q;have kn:Keep (fun b=>b<n) w wr:=hK.mono fun b _ h=>by have:=XhN.o;omega
   have hcall:=q6e (n:=n) (base:=N+1) hB hO (by omega) (by have:=XhN.o;omega) (by omega) (fun q h=>(Xhq.o q (hsub q h)).keep kn) (hok.keep kn) (by omega);have hmk:(qs.map (·.1))[k]?=some m1:=by rw [getElem?_map,hqk];rfl
   have hsn:=q4l hmk;obtain⟨ah,ch,hvh,-,-,-⟩:=id hok.1;obtain⟨av,cv,hvv,-,-,-⟩:=id hok.2;simp only at hvh hvv f0 f1;subst hvh;subst hvv;clear hcells hok hmk kn hsub hol hqm;refine hd8 ?_ hcall hK hB hO hsort hpm hsn hqk;clear hcall hK hB hO hsort hpm hsn hqk;intro Xhcall XhK XhB XhO Xhsort Xhpm Xhsn Xhqk;go_wp2_with fail;refine Xhcall.o.mono ?_;rintro e W2 ⟨v0,vo',kk,rfl,hB2,hk2,hO2,hput⟩;have hK2:=XhK.o.trans (hk2.mono fun b _ h=>⟨by omega,by omega⟩);have hsort2:(os.take kk++((m1,.slice ah m1.head.length ch,.slice av m1.vals.length cv):MQ)::os.drop kk).map (·.1)=((qs.map (·.1)).take (k+1)).foldl qea []:=by
    rw [Xhsn.o,←Xhsort.o,hput]
   have hpm2:(os.take kk++((m1,.slice ah m1.head.length ch,.slice av m1.vals.length cv):MQ)::os.drop kk).Perm (qs.take (k+1)):=by
    rw [take_add_one,Xhqk.o];exact(q4m _ _ _).trans (Xhpm.o.append (.refl _))
   clear hk2 hput;refine hd5 ?_ hB2 hO2 hK2 hsort2 hpm2;clear hB2 hO2 hK2 hsort2 hpm2;intro XhB2 XhO2 XhK2 Xhsort2 Xhpm2;go_wp2_with fail;go_roundw
   case rel=>exact⟨k+1,_,_,by omega,by go_num,XhK2.o,XhB2.o,XhO2.o,Xhsort2.o,Xhpm2.o⟩
   case measure=>simp [intOf];omega
  ·obtain rfl:k=qs.length:=by omega
   have d7:=qb hB 7 _ rfl;simp only [Nat.zero_add]at d7;rw [take_of_length_le (by simp)]at hsort;rw [take_length]at hpm;obtain⟨ao,co,rfl⟩:=qi hO;have hO2:=hO.mono (show N<=N+1 by omega);clear hlt hsub;refine hd7 ?_ hK hB hO hsort hpm hO2 hol;clear hK hB hO hsort hpm hO2 hol;intro XhK XhB XhO Xhsort Xhpm XhO2 Xhol;go_wp2_with fail;go_ret;exact⟨.slice ao os.length co,rfl,by rw [XhN.o];exact XhK.o,os,by rw [XhN.o];exact XhO2.o,Xhsort.o,Xhpm.o⟩
end Go.Proofs
