/- Parts of the proof. -/
import Derived.Test.YtnponcjnahicnaaGreatDoorRfBToRfG
set_option linter.unusedSimpArgs false
set_option linter.unusedVariables false
set_option maxRecDepth 100000
set_option maxHeartbeats 4000000
open Go.Proofs.Tryz(prog)
open List(length_cons map_drop map_take nil_append perm_append_singleton perm_middle set_append_right)
namespace Go.Proofs
open Go.RowKit Go.Ink Go.Flt R4 P16
attribute [local go_sem] Oper.semAt_some
abbrev MQ:=qa5×Value×Value
def qaq (q:MQ):List Value:= [q.2.1,q.2.2]
def MqOk (n:Nat)(w:World)(q:MQ):Prop:=qal n w q.2.1 q.1.head/\qal n w q.2.2 q.1.vals
theorem MqOk.keep {n:Nat}{w w':World}{q:MQ}(h:MqOk n w q)(hK:Keep (fun k=>k<n) w w'):MqOk n w' q:=⟨qd2 h.1 hK,qd2 h.2 hK⟩
theorem qtj:qb2 prog 49 122 2 48:=qcl (z:=.agg #[.slice none 0 0,.slice none 0 0]) wA wA rfl wC wC
theorem qtk {a b:List ByteArray}:qhd a b<0↔ltR a b=true:=by
 unfold qhd;by_cases h:ltR a b=true
 ·rw [zI h];simp [h]
 ·rw [zF h];by_cases c:ltR b a=true
  ·rw [zI c];simp [h]
  ·rw [zF c];simp [h]
theorem q2r {m:qa5}: ∀{l:List qa5} {k:Nat},(∀j x,j<k->l[j]?=some x->ltR x.vals m.vals=true)->(∀x,l[k]?=some x->ltR x.vals m.vals=false)->qdp l m=l.take k++m::l.drop k:=by
 intro l
 induction l with
 |nil=>intro k _ _;simp [qdp]
 |cons x xs ih=>
  intro k c d;cases k with
  |zero=>
   have:=d x rfl;unfold qdp;rw [zF (by rw [this];simp)]
   rfl
  |succ k=>
   have:=c 0 x xz rfl;unfold qdp;rw [zI this,ih (fun j y e b=>c (j+1) y xz b) (fun y b=>d y b)]
   rfl
theorem q0e (A C:List MQ)(x y:MQ):(((A++x::C).flatMap qaq).set (A.length*2) y.2.1).set (A.length*2+1) y.2.2=(A++y::C).flatMap qaq:=by
 rw [yF,yF,set_append_right _ _ (by rw [qa1 qaq 2 (fun _=>rfl)];omega),qa1 qaq 2 (fun _=>rfl),set_append_right _ _ (by rw [qa1 qaq 2 (fun _=>rfl)];omega),qa1 qaq 2 (fun _=>rfl)]
 congr 1
 rw [show A.length*2-A.length*2=0 from xz,show A.length*2+1-A.length*2=1 from xz]
 rfl
abbrev q2s (n:Nat)(w:World)(v:Value)(qs:List MQ):Prop:=SliceIn n w 2 (fun w b o q=>CellsE w b o (qaq q)) v qs
theorem q0f {w:World}{base:Nat}{e:TypeId}{v:Value}{n:Nat}{d:List MQ}(h:w.ownsRow base e 2 v n (d.flatMap qaq))(m:n=d.length)(g:d.length<=1073741824):q2s w.heap.size w v d:=
 qed h d m g _ fun b k p q i=>fun j u f=>by
  have c:j<2:=by
   have:=(zA.1 f).1
   simpa [qaq]using this
  have l:=qas qaq 2 (fun _=>rfl) _ k j p q c;have:=i j c;rw [l,f]at this;exact this
theorem qtl {n:Nat}{c K:Act->World->Prop}{Q:Exit->Act->World->Prop}(h: ∀a X,c a X->K a X): ∀x a X,Exit.inBlock n (Exit.then c fun _ _ _=>False) x a X->Exit.inBlock n (Exit.then K Q) x a X:=fun x a X b=>by
 unfold Exit.inBlock at b⊢;cases x with
 |normal=>exact h a X b
 |exit i=>
  by_cases hi:i=n
  ·subst hi;simp only [yg]at b⊢;exact h a X b
  ·simp only [zF hi]at b⊢;exact b.elim
 |ret=>exact b.elim
 |goto _=>exact b.elim
 |panic _=>exact b.elim
 |outgrown=>exact b.elim
theorem q4n {n base B:Nat}{w:World}{c0 c1 c2 c3 c4 c5 c6 vo vh vv:Value}{d:List MQ}{m:qa5}(hB:w.heap[B]?=some (.cells #[c0,c1,c2,c3,c4,c5,c6,vo] 195 (0,0)))(ho:w.ownsRow base 122 2 vo d.length (d.flatMap qaq))(cT:B<base)(d6:n<=w.heap.size)(hb:base<=w.heap.size)
  (hq: ∀q,q∈d->MqOk n w q) (hm:MqOk n w (m,vh,vv)) (hl:d.length<1073741824):
  Calls prog 124 #[qj B,.agg #[vh,vv]] w fun e w'=> ∃v0 vo' k,e=.returned v0/\w'.heap[B]?=some (.cells #[c0,c1,c2,c3,c4,c5,c6,vo'] 195 (0,0))/\Keep (fun b=>b<w.heap.size/\b≠B/\vo.ownBlock≠some b) w w'/\
   w'.ownsRow base 122 2 vo' (d.take k++(m,vh,vv)::d.drop k).length ((d.take k++(m,vh,vv)::d.drop k).flatMap qaq)/\qdp (d.map (·.1)) m=(d.take k++(m,vh,vv)::d.drop k).map (·.1)/\ ∀g,vo'.ownBlock=some g->vo.ownBlock=some g∨w.heap.size<=g:=by
 obtain⟨N,hN⟩:=ex (w.heap.size);obtain⟨ah,ch,cm,c9,cX,-⟩:=id hm.1;obtain⟨av,cv,cn,da,cY,-⟩:=id hm.2;simp only at cm cn c9 cX da cY;subst cm;subst cn;obtain⟨W0,aO⟩:=ex (w.alloc (.cells #[.slice ah m.head.length ch,.slice av m.vals.length cv] 122));have k0:wD w W0:=by rw [←aO];exact kAl
 have p0:W0.heap[N]?=some (.cells #[.slice ah m.head.length ch,.slice av m.vals.length cv] 122 (0,0)):=by rw [←aO,←hN];exact qh _ _
 have z0:W0.heap.size=N+1:=by rw [←aO,←hN];simp
 have b0:=k0.heap hB trivial;have cj:=qf ho k0 (fun _ _=>wE);have ck: ∀q,q∈d->MqOk n W0 q:=fun q h=>(hq q h).keep k0.mt;have cg:=hm.keep k0.mt;have ce: ∀g,vo.ownBlock=some g->g≠N:=fun g h=>by have:=(zE ho g h).2;omega
 have d5:n<=N:=xz
 have dI:B<N:=xz
 obtain⟨ao,co,rfl⟩:=qi ho;clear hq hm;refine qg5 ?_ hB ho hN aO k0 p0 b0 cj ck cg ce;clear hB ho hN aO k0 p0 b0 cj ck cg ce;intro dz dA bK bO bh bV a4 a7 a8 bR a6;refine qbl Tryz.func124 rfl ?_;simp only [Tryz.ntmps124,qdm,Nat.reduceAdd,Nat.reduceSub];gi_wp2;rw [bO.o,bK.o];obtain⟨K1,b3⟩: ∃K1:Act->World->Prop,K1=fun a X=> ∃(k:Nat) (u6 u7 u8 u9 u10 u11 u12 u13 u14 u15 u16 u17 u18 u19 u20 u21 u22 u23 u24 u25 u26 u27 u28:Value),(k<=d.length/\wD W0 X/\(∀j x,j<k->(d.map (·.1))[j]?=some x->ltR x.vals m.vals=true)/\ ∀x,(d.map (·.1))[k]?=some x->ltR x.vals m.vals=false)/\a=⟨#[qj B,.agg #[.slice ah m.head.length ch,.slice av m.vals.length cv],undef,.pointer (some ⟨N,0,none⟩),.int .i64 (k:Int),undef,u6,u7,u8,u9,u10,u11,u12,u13,u14,u15,u16,u17,u18,u19,u20,u21,u22,u23,u24,u25,u26,u27,u28,undef,undef,undef,undef,undef,undef,undef,undef,undef,undef,undef,undef,undef,undef,undef,undef,undef,undef,undef,undef,undef,undef,undef,undef,undef,undef,undef,undef,undef,undef,undef,undef,undef,undef,undef,undef,undef,undef,undef,undef,undef,undef],[]⟩:=⟨_,rfl⟩;have aD:=zg b3;clear b3;refine xq (Q:=Exit.inBlock 0 (Exit.then K1 fun _ _ _=>False)) ?_ (qtl ?_)
 ·gi_loopw [4] (fun ix wr=> ∃(k:Nat),k<=d.length/\ix=.int .i64 (k:Int)/\wD W0 wr/\ ∀j x,j<k->(d.map (·.1))[j]?=some x->ltR x.vals m.vals=true) (fun i _=>d.length-(intOf i).toNat)
  case atStart=>exact⟨0,xz,rfl,Keep.refl _ _,fun j x h=>xz⟩
  case round=>
   obtain⟨k,hk,rfl,hK,Y⟩:=hrel;have f:=hK.heap a4.o trivial;have d7:=qb f 7 _ rfl;have s:=hK.heap bV.o trivial;have e0:=qb s 0 _ rfl;have e1:=qb s 1 _ rfl;have cV:=qe f;have dL:=qe s;simp only [zD]at d7 e0 e1;have d1:(0:Int)<=k:=xz
   have U:wD wr wr.drew:=kDr;obtain⟨t,ae⟩:=ex (wr.drew);rw [ae]at U;have dd:=U.size;have cU:B<t.heap.size:=xz
   have cW:N<t.heap.size:=xz
   by_cases a0:k<d.length
   ·have cf:(k:Int)<d.length:=by omega
    obtain⟨q,a2⟩: ∃q,d[k]?=some q:=⟨_,zB a0⟩;obtain⟨dB,dC,dc,-,dQ,cd⟩:=q0f a7.o rfl xz;injection dc with ho1 ho2 ho3
    subst ho1;subst ho3;obtain⟨b,o,rfl,dN,cc⟩:=cd k q a2;have bt:=a8.o q (zH a2);obtain⟨aq,cq,bv,d4,dR,-⟩:=id bt.2;have f1:=hK.cell (cc 1 _ rfl) trivial;rw [bv]at f1;have bp:(d.map (·.1))[k]?=some q.1:=by rw [zP,a2];rfl
    have dO:b<wr.heap.size:=by have:=hK.size;omega
    have dM:b<t.heap.size:=xz
    have kn:Keep (fun b=>b<n) W0 t:=(hK.trans U).mt;have ak:=qxp n _ _ q.1.vals m.vals t (qd2 bt.2 kn) (qd2 bR.o.2 kn) xz;rw [bv]at ak;have ad:t.cell? ⟨B,7,none⟩=some (.slice (some ⟨b,o,none⟩) d.length co)/\t.cell? ⟨b,o+k*2+1,none⟩=some (.slice aq q.1.vals.length cq)/\t.cell? ⟨N,1,none⟩=some (.slice av m.vals.length cv):=⟨U.cell d7 wE,U.cell f1 wE,U.cell e1 wE⟩;have aT:qhd q.1.vals m.vals<0-> ∀j x,j<k+1->(d.map (·.1))[j]?=some x->ltR x.vals m.vals=true:=fun h j x hj hx=>by
     rcases Nat.lt_succ_iff_lt_or_eq.1 hj with h2 |rfl
     ·exact Y j x h2 hx
     ·rw [bp]at hx;cases hx;exact qtk.1 h
    have al: ¬qhd q.1.vals m.vals<0-> ∀x,(d.map (·.1))[k]?=some x->ltR x.vals m.vals=false:=fun h x hx=>by
     rw [bp]at hx;cases hx;cases h3:ltR q.1.vals m.vals with
     |false=>rfl
     |true=>exact absurd (qtk.2 h3) h
    obtain⟨c,hc⟩:=ex (qhd q.1.vals m.vals);rw [hc]at aT al ak;clear cc bv bt a2 cd kn bp hc;refine qc9 ?_ hK Y al aT f s ae U ak ad;clear hK Y al aT f s ae U ak ad;intro aU ar aK bg aJ aI ab aL aW l;gi_wp2;refine qag ?_;refine qw rfl (fun X=>X.cell? ⟨B,7,none⟩=some (.slice (some ⟨b,o,none⟩) d.length co)/\X.cell? ⟨b,o+k*2+1,none⟩=some (.slice aq q.1.vals.length cq)/\X.cell? ⟨N,1,none⟩=some (.slice av m.vals.length cv)) [] ?_;rw [ab.o];refine qab [0,1,2,3,4,5,6,7,8,9,10,11,12,13,14,15,16,17] ?_
    iterate 18
     refine tkB rfl l.o ?_
     try simp only [qac]
    refine qk ?_;refine qfc (i:=18) rfl wA (fun K hK=>?_);have aE:=zg hK;clear hK;gi_wp2;refine⟨wE,rfl,(zU.2 aW.o).mono ?_⟩;rintro e We ⟨rfl,mm,cb⟩;have ke:wD t We:=by rw [cb];exact Keep.drewN' _ _ _
    have ca:We.cell? ⟨B,7,none⟩=some (.slice (some ⟨b,o,none⟩) d.length co)/\We.cell? ⟨b,o+k*2+1,none⟩=some (.slice aq q.1.vals.length cq)/\We.cell? ⟨N,1,none⟩=some (.slice av m.vals.length cv):=⟨ke.cell l.o.1 wE,ke.cell l.o.2.1 wE,ke.cell l.o.2.2 wE⟩;have b6:=(aU.o.trans aL.o).trans ke;clear cb ke;refine hd2 ?_ ca b6;clear ca b6;intro aG a5;gi_wp2;refine aE.o _ _ (fun _=>aG.o) ?_;clear aE;by_cases ci:c<0
    ·have aP:=bg.o ci;refine hd1 ?_ aP;clear aP;intro aV;refine qab [19,20] ?_
     iterate 2
      refine tkB rfl aG.o ?_
      try simp only [qac]
     refine qk ?_;refine qx wA (qai ?_);gi_wp2;go_roundw
     case rel=>exact⟨k+1,xz,by go_num,a5.o,aV.o⟩
     case measure=>simp [intOf];omega
    ·have a9:=aK.o xz;refine hd1 ?_ a9;clear a9;intro bb;refine qab [19,20] ?_
     iterate 2
      refine tkB rfl aG.o ?_
      try simp only [qac]
     refine qk ?_;refine qx wA (qai ?_);gi_wp2;rw [aD.o];exact⟨k,_,_,_,_,_,_,_,_,_,_,_,_,_,_,_,_,_,_,_,_,_,_,_,⟨hk,a5.o,ar.o,bb.o⟩,rfl⟩
   ·obtain rfl:k=d.length:=by omega
    have al: ∀x,(d.map (·.1))[d.length]?=some x->ltR x.vals m.vals=false:=fun x h=>by
     rw [xA wB]at h;cases h
    have ad:t.cell? ⟨B,7,none⟩=some (.slice ao d.length co):=U.cell d7 trivial;clear a0;refine hd8 ?_ hK Y al f s ae U ad;clear hK Y al f s ae U ad;intro aU ar aK aJ aI ab aL l;gi_wp2;refine qag ?_;refine qw rfl (fun X=>X.cell? ⟨B,7,none⟩=some (.slice ao d.length co)) [] ?_;rw [ab.o];refine qab [0,1,2,3,4,5,6,7] ?_
    iterate 8
     refine tkB rfl l.o ?_
     try simp only [qac]
    refine qk ?_;refine qab [8,9,10,11,12,13,14,15,16,17,18,19] ?_
    iterate 12
     refine tkS rfl l.o ?_
     try simp only [qac]
    refine qk ?_;refine hoR 20 rfl fun K r=>?_;gi_wp2;refine r.o _ _ (fun _=>l.o) ?_;refine qx wA (qai ?_);clear r;gi_wp2;rw [aD.o];exact⟨d.length,_,_,_,_,_,_,_,_,_,_,_,_,_,_,_,_,_,_,_,_,_,_,_,⟨zG _,aU.o.trans aL.o,ar.o,aK.o⟩,rfl⟩
 ·rintro a X hX;rw [aD.o]at hX;obtain⟨k,u6,u7,u8,u9,u10,u11,u12,u13,u14,u15,u16,u17,u18,u19,u20,u21,u22,u23,u24,u25,u26,u27,u28,⟨hk,hK,Y,al⟩,rfl⟩:=hX
  dsimp only
  have ba:=q2r Y al;have br:=qf a7.o hK (fun _ _=>wE);have f:=hK.heap a4.o trivial;have d7:=qb f 7 _ rfl;have cV:=qe f;have d9:=hK.size;simp only [zD]at d7;obtain⟨v4,W4,cl,a1,bo,p,z,db,aZ,d3⟩:=qdd qtj 49 br [.slice none 0 0,.slice none 0 0] rfl (by simp [Value.oneCell']) xz (by have:=bK.o;omega);subst db;have aR:Keep (fun b=>b<base∨b=N) X W4:=bo.mono fun b _ (h:b<base∨b=N)=>by
   rcases h with h |rfl
   ·exact qgz br h
   ·exact fun e=>a6.o _ e.symm rfl
  have cZ:p≠N:=fun e=>by
   rcases aZ with h |h
   ·exact a6.o _ h e
   ·omega
  have dS:=(qcm a1).2.2.2;have aM:=aR.heap f (.inl cT);have b4:=qg aM 7;have l4:=qe aM;have e7:=qb aM 7 _ rfl;simp only [zD]at e7;obtain⟨W5,aY⟩:=ex (W4.setCell ⟨B,7,none⟩ (.slice (some ⟨p,0,none⟩) (d.length+1) z));have k5:Keep (fun b=>b≠B) W4 W5:=by rw [←aY];exact kSc
  have b1:W5.heap[B]?=some (.cells #[c0,c1,c2,c3,c4,c5,c6,.slice (some ⟨p,0,none⟩) (d.length+1) z] 195 (0,0)):=by rw [←aY];exact qz 7 _ aM
  have bq:=qf a1 k5 (fun b hb e=>by subst e;have:=(zE a1 _ hb).1;omega);have b8:=k5.heap (aR.heap (hK.heap bV.o wE) (.inr rfl)) (show N≠B from xz);have b5:Keep (fun b=>b<w.heap.size/\b≠B/\(Value.slice ao d.length co).ownBlock≠some b) w W5:=((bh.o.trans hK).mt).trans ((bo.mono fun b _ h e=>h.2.2 e.symm).trans (k5.mono fun b _ h=>h.2.1));have c7: ∀b,b<w.heap.size/\b≠B/\(Value.slice ao d.length co).ownBlock≠some b->b≠p:=fun b h e=>by
   rcases aZ with h4 |h4
   ·exact h.2.2 (by rw [h4,e])
   ·have:=(bh.o.trans hK).size;omega
  have aQ:(d.flatMap qaq++ [Value.slice none 0 0,.slice none 0 0])=((d.take d.length++((default,.slice none 0 0,.slice none 0 0):MQ)::d.drop d.length).flatMap qaq):=by
   rw [zi,xo,yF];rfl
  rw [aQ]at bq;have b7:=hK;clear Y al br f a1 bo aR aM k5 aQ;refine qc9 ?_ aZ b7 ba hK cl aY bq b1 b8 b5;clear aZ b7 ba hK cl aY bq b1 b8 b5;intro bQ bJ bc aU bU bP bS bG bL bI
  gi_wp2_with (gi_at_builtin;refine qby (v:=.slice ao d.length co) (u:=.slice (some ⟨X.heap.size,0,none⟩) 1 1) (v':=.slice (some ⟨p,0,none⟩) (d.length+1) z) (w':=W4) rfl (.tmp 33) (.tmp 35) 49 rfl rfl rfl bU.o ?_)
  rw [bP.o];gi_loopw [5] (fun ix wr=> ∃(j:Nat) (x:MQ),k<=j/\j<=d.length/\ix=.int .i64 (j:Int)/\Keep (fun b=>b≠p) W5 wr/\wr.ownsRow base 122 2 (.slice (some ⟨p,0,none⟩) (d.length+1) z) (d.length+1) ((d.take j++x::d.drop j).flatMap qaq)) (fun i _=>(intOf i).toNat)
  case atStart=>exact⟨d.length,_,hk,zG _,rfl,Keep.refl _ _,bS.o⟩
  case round=>
   obtain⟨j,x,d2,d0,rfl,am,hO⟩:=hrel;have f:=am.heap bG.o (show B≠p from xz);have q7:=qb f 7 _ rfl;have s:=am.heap bL.o (fun e=>cZ e.symm);have m0:=qb s 0 _ rfl;have m1:=qb s 1 _ rfl;have dJ:=qe f;have dK:=qe s;simp only [zD]at q7 m0 m1;obtain⟨dD,a3⟩:=qao hO (b:=p) rfl;have dU:=qe a3;have U:wD wr wr.drew:=kDr;obtain⟨t,ae⟩:=ex (wr.drew);rw [ae]at U;have dd:=U.size;have cU:B<t.heap.size:=xz
   have cW:N<t.heap.size:=xz
   have dT:p<t.heap.size:=xz
   have ax:=qcm hO;have dP:=ax.1;have dp:=ax.2.1;have aa:=U.heap a3 trivial;have an:=qf hO U (fun _ _=>wE);by_cases a0:k<j
   ·obtain⟨i,rfl⟩: ∃i,j=i+1:=⟨j-1,xz⟩;have cf:(k:Int)<((i+1:Nat):Int):=by omega
    have dw:(((i+1:Nat):Int)-1)=(i:Int):=xz
    have dV:(0:Int)<=i:=xz
    have dW:(0:Int)<=(i:Int)+1:=xz
    have d8:IntKind.i64.wrap (i:Int)=(i:Int):=IntWalk.i64_in _ xz;have ds:(i:Int)<(d.length:Int)+1:=xz
    have dt:(i:Int)+1<(d.length:Int)+1:=xz
    have dX:(i:Int)<d.length:=xz
    have dq:(i:Int)<((d.length+1:Nat):Int):=xz
    have dr:((i+1:Nat):Int)<((d.length+1:Nat):Int):=xz
    obtain⟨y,hy⟩: ∃y,d[i]?=some y:=⟨_,zB xz⟩;have bn:(d.take (i+1)++x::d.drop (i+1))[i]?=some y:=by
     rw [yQ (by rw [yB];omega),xO xz];exact hy
    have s0:t.cell? ⟨p,i*2,none⟩=some y.2.1:=U.cell (qau hO (i*2) _ (by have:=qas qaq 2 (fun _=>rfl) _ i 0 y bn xz;simpa [qaq] using this)) trivial;have s1:t.cell? ⟨p,i*2+1,none⟩=some y.2.2:=U.cell (qau hO (i*2+1) _ (by have:=qas qaq 2 (fun _=>rfl) _ i 1 y bn xz;simpa [qaq] using this)) trivial;have bw:=a8.o y (zH hy);obtain⟨y1,y2,y3⟩:=y;obtain⟨ay,cy,cp,-,-,-⟩:=id bw.1;obtain⟨az,cz,cr,-,-,-⟩:=id bw.2;simp only at cp cr s0 s1;subst cp;subst cr;have ag:(d.take (i+1)).length=i+1:=by rw [yB];omega
    have af:((d.take (i+1)++x::d.drop (i+1)).flatMap qaq).length=(d.length+1)*2:=by
     rw [qa1 qaq 2 (fun _=>rfl),zR,length_cons,xu,ag];omega
    have ai:=qiy (qiy an ((i+1)*2) (.slice ay y1.head.length cy) (by rw [af];omega)) ((i+1)*2+1) (.slice az y1.vals.length cz) (by rw [xp,af];omega);have R:=q0e (d.take (i+1)) (d.drop (i+1)) x (y1,.slice ay y1.head.length cy,.slice az y1.vals.length cz);rw [ag]at R;simp only at R;rw [R]at ai;obtain⟨W6,aj⟩:=ex ((t.setCell ⟨p,(i+1)*2,none⟩ (.slice ay y1.head.length cy)).setCell ⟨p,(i+1)*2+1,none⟩ (.slice az y1.vals.length cz));rw [aj]at ai;have k6:Keep (fun b=>b≠p) t W6:=by rw [←aj];exact(kSc).trans (kSc)
    have aA:d.take (i+1)++(y1,Value.slice ay y1.head.length cy,Value.slice az y1.vals.length cz)::d.drop (i+1)=d.take i++(y1,.slice ay y1.head.length cy,.slice az y1.vals.length cz)::d.drop i:=by
     obtain⟨h1,h2⟩:=zA.1 hy;rw [zh,hy,zr h1,h2];simp
    rw [aA]at ai;have aN:=am.trans (U.mt.trans k6);have cP:=qg aa ((i+1)*2);have cQ:=qg aa ((i+1)*2+1);have ad:t.cell? ⟨B,7,none⟩=some (.slice (some ⟨p,0,none⟩) (d.length+1) z)/\t.cell? ⟨p,i*2,none⟩=some (.slice ay y1.head.length cy)/\t.cell? ⟨p,i*2+1,none⟩=some (.slice az y1.vals.length cz):=⟨U.cell q7 wE,s0,s1⟩;have t0: ∃u,t.cell? ⟨p,(i+1)*2,none⟩=some u:=by
     obtain⟨u,hu⟩: ∃u,((d.take (i+1)++x::d.drop (i+1)).flatMap qaq)[(i+1)*2]?=some u:=⟨_,zB (by rw [af];omega)⟩;exact⟨u,qau an _ u hu⟩
    have t1: ∃u,t.cell? ⟨p,(i+1)*2+1,none⟩=some u:=by
     obtain⟨u,hu⟩: ∃u,((d.take (i+1)++x::d.drop (i+1)).flatMap qaq)[(i+1)*2+1]?=some u:=⟨_,zB (by rw [af];omega)⟩;exact⟨u,qau an _ u hu⟩
    obtain⟨tu,t0⟩:=t0;obtain⟨tv,t1⟩:=t1;clear hy bn bw R aA ag af hO an a3 ax k6 s0 s1;refine qc9 ?_ f s ae U ad aj ai aN am aa;clear f s ae U ad aj ai aN am aa;intro aJ aI ab aL l aH bM aF r bf;gi_wp2;refine qag ?_;refine qw rfl (fun X=>X.cell? ⟨B,7,none⟩=some (.slice (some ⟨p,0,none⟩) (d.length+1) z)/\X.cell? ⟨p,i*2,none⟩=some (.slice ay y1.head.length cy)/\X.cell? ⟨p,i*2+1,none⟩=some (.slice az y1.vals.length cz)) [14] ?_;rw [ab.o];refine qab [0,1,2,3,4,5,6,7,8,9,10,11,12,13] ?_
    iterate 14
     refine tkB rfl l.o ?_
     try simp only [qac]
    refine qk ?_;refine hoR 14 rfl fun K r=>?_;gi_wp2;rw [aH.o];refine r.o _ _ (fun h=>absurd h wC) ?_;refine qx wA (qai ?_);clear r;gi_wp2;go_roundw
    case rel=>exact⟨i,_,xz,xz,by go_num,aF.o,bM.o⟩
    case measure=>simp [intOf]
   ·obtain rfl:j=k:=by omega
    have af:((d.take j++x::d.drop j).flatMap qaq).length=(d.length+1)*2:=by
     rw [qa1 qaq 2 (fun _=>rfl),zR,length_cons,xu,yB];omega
    have ag:(d.take j).length=j:=by rw [yB];omega
    have ai:=qiy (qiy an (j*2) (.slice ah m.head.length ch) (by rw [af];omega)) (j*2+1) (.slice av m.vals.length cv) (by rw [xp,af];omega);have R:=q0e (d.take j) (d.drop j) x (m,.slice ah m.head.length ch,.slice av m.vals.length cv);rw [ag]at R;simp only at R;rw [R]at ai;obtain⟨W6,aj⟩:=ex ((t.setCell ⟨p,j*2,none⟩ (.slice ah m.head.length ch)).setCell ⟨p,j*2+1,none⟩ (.slice av m.vals.length cv));rw [aj]at ai;have k6:Keep (fun b=>b≠p) t W6:=by rw [←aj];exact(kSc).trans (kSc)
    have b2:=k6.heap (U.heap f wE) (show B≠p from xz);have aN:Keep (fun b=>b<w.heap.size/\b≠B/\(Value.slice ao d.length co).ownBlock≠some b) w W6:=bI.o.trans ((am.trans (U.mt.trans k6)).mono fun b _ h=>c7 b h);have b9:W6.ownsRow base 122 2 (.slice (some ⟨p,0,none⟩) (d.length+1) z) (d.take j++(m,.slice ah m.head.length ch,.slice av m.vals.length cv)::d.drop j).length ((d.take j++(m,.slice ah m.head.length ch,.slice av m.vals.length cv)::d.drop j).flatMap qaq):=by
     rw [show(d.take j++((m,.slice ah m.head.length ch,.slice av m.vals.length cv):MQ)::d.drop j).length=d.length+1 by rw [zR,length_cons,xu,ag];omega];exact ai
    have aS:qdp (d.map (·.1)) m=(d.take j++((m,.slice ah m.head.length ch,.slice av m.vals.length cv):MQ)::d.drop j).map (·.1):=by
     rw [bc.o,zm,yW,map_take,map_drop]
    have cP:=qg aa (j*2);have cQ:=qg aa (j*2+1);have ad:t.cell? ⟨B,7,none⟩=some (.slice (some ⟨p,0,none⟩) (d.length+1) z)/\t.cell? ⟨N,0,none⟩=some (.slice ah m.head.length ch)/\t.cell? ⟨N,1,none⟩=some (.slice av m.vals.length cv):=⟨U.cell q7 wE,U.cell m0 wE,U.cell m1 wE⟩;have t0: ∃u,t.cell? ⟨p,j*2,none⟩=some u:=by
     obtain⟨u,hu⟩: ∃u,((d.take j++x::d.drop j).flatMap qaq)[j*2]?=some u:=⟨_,zB (by rw [af];omega)⟩;exact⟨u,qau an _ u hu⟩
    have t1: ∃u,t.cell? ⟨p,j*2+1,none⟩=some u:=by
     obtain⟨u,hu⟩: ∃u,((d.take j++x::d.drop j).flatMap qaq)[j*2+1]?=some u:=⟨_,zB (by rw [af];omega)⟩;exact⟨u,qau an _ u hu⟩
    obtain⟨tu,t0⟩:=t0;obtain⟨tv,t1⟩:=t1;have dZ:(0:Int)<=j:=xz
    have du:(j:Int)<(d.length:Int)+1:=xz
    clear R ag af hO an a3 ax k6 a0 ai;refine qho ?_ f s ae U ad aj b9 aN am aa b2 aS;clear f s ae U ad aj b9 aN am aa b2 aS;intro aJ aI ab aL l aH bN aF r bf bH aX;gi_wp2;refine qag ?_;refine qw rfl (fun X=>X.cell? ⟨B,7,none⟩=some (.slice (some ⟨p,0,none⟩) (d.length+1) z)/\X.cell? ⟨N,0,none⟩=some (.slice ah m.head.length ch)/\X.cell? ⟨N,1,none⟩=some (.slice av m.vals.length cv)) [7] ?_;rw [ab.o];refine qab [0,1,2,3,4,5,6] ?_
    iterate 7
     refine tkB rfl l.o ?_
     try simp only [qac]
    refine qk ?_;refine hoR 7 rfl fun K r=>?_;gi_wp2;rw [aH.o];refine r.o _ _ (fun h=>absurd h wC) ?_;refine qx wA (qai ?_);clear r;gi_wp2;refine xx (yr rfl _ _ _) rfl ⟨_,_,j,rfl,bH.o,aF.o,bN.o,aX.o,fun g h=>by
     have e:p=g:=by simpa [Value.ownBlock] using h
     rcases bQ.o with h4 |h4
     ·exact .inl (by rw [h4,e])
     ·exact .inr (by have:=(bh.o.trans bJ.o).size;omega)⟩
theorem q4o {n base B:Nat}{w:World}{g i j l p r s t vh vv:Value}{c:List MQ}{m:qa5}(R:w.heap[B]?=some (.cells #[g,i,j,l,p,r,s,t] 195 (0,0)))(ho:w.ownsRow base 122 2 t c.length (c.flatMap qaq))(d:B<base)(aa:n<=B)(U:base<=w.heap.size)
  (hq: ∀q,q∈c->MqOk n w q) (Y:MqOk n w (m,vh,vv)) (X:c.length<1073741824):
  Calls prog 124 #[qj B,.agg #[vh,vv]] w fun e w'=> ∃v0 vo' k,e=.returned v0/\w'.heap[B]?=some (.cells #[g,i,j,l,p,r,s,vo'] 195 (0,0))/\Keep (fun b=>b<base/\b≠B) w w'/\
   w'.ownsRow base 122 2 vo' (c.take k++(m,vh,vv)::c.drop k).length ((c.take k++(m,vh,vv)::c.drop k).flatMap qaq)/\qdp (c.map (·.1)) m=(c.take k++(m,vh,vv)::c.drop k).map (·.1):=by
 refine(q4n R ho d xz U hq Y X).mono ?_;rintro e w' ⟨v0,vo',k,u,v,x,y,z,-⟩;exact⟨v0,vo',k,u,v,x.mono fun b f h=>⟨f,h.2,fun e=>qgz ho h.1 e.symm⟩,y,z⟩
theorem q2t {b:List qa5}{k:Nat}{m:qa5}(h:b[k]?=some m):(b.take (k+1)).foldl qdp []=qdp ((b.take k).foldl qdp []) m:=by
 rw [zh,h,yk];rfl
theorem q2u {α:Type}(b:List α)(k:Nat)(x:α):(b.take k++x::b.drop k).Perm (b++ [x]):=by
 refine perm_middle.trans ?_;rw [yu];exact(perm_append_singleton x b).symm
theorem qxq {n m:Nat}{w:World}{v:Value}{g:List MQ}(hv:q2s m w v g)(hq: ∀q,q∈g->MqOk n w q)(hn:n<=m)(hm:m<=w.heap.size)(aU:g.length<1073741824):
  Calls prog 69 #[v] w fun e w'=> ∃v',e=.returned v'/\Keep (fun b=>b<w.heap.size) w w'/\ ∃os:List MQ,w'.ownsRow w.heap.size 122 2 v' os.length (os.flatMap qaq)/\os.map (·.1)=qf0 (g.map (·.1))/\os.Perm g:=by
 obtain⟨al,cl,rfl,a7,a5,ax⟩:=id hv;obtain⟨N,hN⟩:=ex (w.heap.size);obtain⟨W0,y⟩:=ex (w.alloc (.cells #[.string ⟨#[]⟩,.slice none 0 0,.slice none 0 0,.slice none 0 0,.slice none 0 0,.slice none 0 0,.pointer none,.slice none 0 0] 195));have k0:wD w W0:=by rw [←y];exact kAl
 have p0:W0.heap[N]?=some (.cells #[.string ⟨#[]⟩,.slice none 0 0,.slice none 0 0,.slice none 0 0,.slice none 0 0,.slice none 0 0,.pointer none,.slice none 0 0] 195 (0,0)):=by rw [←y,←hN];exact qh _ _
 have z0:W0.heap.size=N+1:=by rw [←y,←hN];simp
 refine hd7 ?_ hv ax hq hN y k0 p0;clear hv ax hq hN y k0 p0;intro a0 am an p ak aI aJ
 go_enter Tryz.func69,Tryz.ntmps69
 go_wp2_with fail;rw [ak.o,p.o]
 go_loopw [4] (fun ix wr=> ∃(k:Nat) (vo:Value) (os:List MQ),k<=g.length/\ix=.int .i64 (k:Int)/\Keep (fun b=>b<N) w wr/\wr.heap[N]?=some (.cells #[.string ⟨#[]⟩,.slice none 0 0,.slice none 0 0,.slice none 0 0,.slice none 0 0,.slice none 0 0,.pointer none,vo] 195 (0,0))/\
  wr.ownsRow (N+1) 122 2 vo os.length (os.flatMap qaq)/\os.map (·.1)=((g.map (·.1)).take k).foldl qdp []/\os.Perm (g.take k)) (fun i _=>g.length-(intOf i).toNat)
 case atStart=>exact⟨0,.slice none 0 0,[],xz,rfl,aI.o.mt,aJ.o,zj _ _ _ _,rfl,.nil⟩
 case round=>
  obtain⟨k,vo,os,hk,rfl,hK,hB,hO,c,j⟩:=hrel;have R: ∀q,q∈os->q∈g:=fun q h=>xj (j.mem_iff.1 h);have ag:os.length=k:=by rw [j.length_eq,yB];omega
  have a3:=qe hB;have a6:(0:Int)<=k:=xz
  have aX:=hK.size;by_cases az:k<g.length
  ·have aV:(k:Int)<g.length:=by omega
   obtain⟨q,r⟩: ∃q,g[k]?=some q:=⟨_,zB az⟩;obtain⟨b,o,rfl,hb,f⟩:=am.o k q r;have X:=an.o q (zH r);have aK:=zH r;have aw:b<N:=by have:=p.o;omega
   have f0:=hK.cell (f 0 _ rfl) aw;have f1:=hK.cell (f 1 _ rfl) aw;simp only [Nat.add_zero]at f0;have a4:b<wr.heap.size:=xz
   obtain⟨m1,vh,vv⟩:=q;have kn:Keep (fun b=>b<n) w wr:=hK.mono fun b _ h=>by have:=p.o;omega
   have z:=q4o (n:=n) (base:=N+1) hB hO xz (by have:=p.o;omega) xz (fun q h=>(an.o q (R q h)).keep kn) (X.keep kn) xz;have aA:(g.map (·.1))[k]?=some m1:=by rw [zP,r];rfl
   have aB:=q2t aA;obtain⟨ah,ch,aC,-,-,-⟩:=id X.1;obtain⟨av,cv,aD,-,-,-⟩:=id X.2;simp only at aC aD f0 f1;subst aC;subst aD;clear f X aA kn R ag aK;refine hd8 ?_ z hK hB hO c j aB r;clear z hK hB hO c j aB r;intro U ab aG aH d t aq ap;go_wp2_with fail;refine U.o.mono ?_;rintro e W2 ⟨v0,a9,kk,rfl,ar,ay,x,aa⟩;have au:=ab.o.trans (ay.mono fun b _ h=>⟨xz,xz⟩);have l:(os.take kk++((m1,.slice ah m1.head.length ch,.slice av m1.vals.length cv):MQ)::os.drop kk).map (·.1)=((g.map (·.1)).take (k+1)).foldl qdp []:=by
    rw [aq.o,←d.o,aa]
   have Y:(os.take kk++((m1,.slice ah m1.head.length ch,.slice av m1.vals.length cv):MQ)::os.drop kk).Perm (g.take (k+1)):=by
    rw [zh,ap.o];exact(q2u _ _ _).trans (t.o.append (.refl _))
   clear ay aa;refine hd5 ?_ ar x au l Y;clear ar x au l Y;intro ai s aj u ad;go_wp2_with fail;go_roundw
   case rel=>exact⟨k+1,_,_,xz,by go_num,aj.o,ai.o,s.o,u.o,ad.o⟩
   case measure=>simp [intOf];omega
  ·obtain rfl:k=g.length:=by omega
   have d7:=qb hB 7 _ rfl;simp only [zD]at d7;rw [yw wB]at c;rw [zi]at j;obtain⟨ao,co,rfl⟩:=qi hO;have x:=hO.mono (show N<=N+1 from xz);clear az R;refine hd7 ?_ hK hB hO c j x ag;clear hK hB hO c j x ag;intro ab aG aH d t s aO;go_wp2_with fail;go_ret;exact⟨.slice ao os.length co,rfl,by rw [p.o];exact ab.o,os,by rw [p.o];exact s.o,d.o,t.o⟩
theorem qu7 {w:World}{m:Nat}{v:Value}(p:ByteArray){ts:List TermD}(h:qad m w v ts)(hm:m<=w.heap.size):Calls prog 61 #[.agg #[.string p,v]] w fun e w'=> ∃v',e=.returned (.agg #[.string p,v'])/\w'.ownsRow w.heap.size 77 2 v' ts.length (qv ts)/\wD w w':=by
 obtain⟨a,c,rfl,hl,hc,he⟩:=id h;obtain⟨N,hN⟩:=ex (w.heap.size);obtain⟨W0,d⟩:=ex ((w.alloc (.cells #[.string p,.slice a ts.length c] 24)).alloc (.cells #[.string ⟨#[]⟩,.slice none 0 0] 24));have k0:wD w W0:=by rw [←d];exact kAl.trans kAl
 have z0:W0.heap.size=N+2:=by rw [←d,←hN];simp
 have p0:W0.heap[N]?=some (.cells #[.string p,.slice a ts.length c] 24 (0,0)):=by rw [←d,←hN];exact(Keep.alloc (fun _=>True) _ _).heap (qh w _) trivial
 have p1:W0.heap[N+1]?=some (.cells #[.string ⟨#[]⟩,.slice none 0 0] 24 (0,0)):=by
  rw [←d,←hN];have:=qh (w.alloc (.cells #[.string p,.slice a ts.length c] 24)) (.cells #[.string ⟨#[]⟩,.slice none 0 0] 24);rw [zO]at this;exact this
 obtain⟨u,y⟩:=ex (W0.drew);have R:wD W0 u:=by rw [←y];exact kDr
 have hS: ∀X,Keep (fun b=>b<N+2) W0 X->X.cell? ⟨N,0,none⟩=some (.string p)/\X.cell? ⟨N,1,none⟩=some (.slice a ts.length c):=fun X hX=>by
  have q:=hX.heap p0 xz;have q0:=qb q 0 _ rfl;have q1:=qb q 1 _ rfl;simp only [zD]at q0 q1;exact⟨q0,q1⟩
 have aU:=R.size;obtain⟨Wb,i⟩:=ex (u.alloc (.cells #[] 77));have kb:wD u Wb:=by rw [←i];exact kAl
 have ob:=qhh u 77 2;rw [i]at ob;have aT:=kb.size;have z:=qq h ((k0.trans (R.trans kb)).mt);obtain⟨v5,U,ao,f,am,an⟩:=qi0 (P:=prog) qgb 22 ob a ts.length c (qv ts) (qdv _) (qdr z).1 (qdr z).2 (qij _) xz xz;rw [nil_append,zD]at f;obtain⟨a5,c5,rfl⟩:=qi f;have k5:Keep (fun b=>b<u.heap.size) Wb U:=an.mono fun b _ h e=>by
  rcases am b e with h1 |h1
  ·simp [Value.ownBlock]at h1;omega
  ·omega
 have j:Keep (fun b=>b<N+2) W0 U:=((R.trans kb).mt).trans (k5.mono fun b _ h=>xz);have x:=j.heap p1 xz;have d0:=qb x 0 _ rfl;have d1:=qb x 1 _ rfl;have f0:=qg x 0;have f1:=qg x 1;have l1:=qe x;simp only [zD]at d0 d1;obtain⟨W6,g⟩:=ex ((U.setCell ⟨N+1,0,none⟩ (.string p)).setCell ⟨N+1,1,none⟩ (.slice a5 ts.length c5));have k6:Keep (fun b=>b≠N+1) U W6:=by rw [←g];exact(kSc).trans (kSc)
 have b6:W6.heap[N+1]?=some (.cells #[.string p,.slice a5 ts.length c5] 24 (0,0)):=by rw [←g];exact qz 1 _ (qz 0 (.string p) x)
 have e0:=qb b6 0 _ rfl;have e1:=qb b6 1 _ rfl;have l6:=qe b6;simp only [zD]at e0 e1;have o6:=qf f k6 (fun b hb=>by have:=(zE f b hb).1;omega);have hK:wD w W6:=(k0.mt.trans ((j.mono fun b _ (h:b<N)=>xz).trans (k6.mono fun b _ (h:b<N)=>xz))).mono fun b hb _=>xz
 have aj:=hS u R.mt;have ak:=hS Wb ((R.trans kb).mt);have al:=hS U j;have aR:u.heap.size≥N:=xz
 clear hS j k5 kb k6 am an f ob z x b6 he;refine qde ?_ h hN d k0 p0 p1 y R i g ao o6 hK aj ak al;clear h hN d k0 p0 p1 y R i g ao o6 hK aj ak al;intro Xh Y ad aK aM aN ag aL af ae ah ay ax aa ab t;refine qbl Tryz.func61 rfl ?_;simp only [Tryz.ntmps61,qdm,Nat.reduceAdd,Nat.reduceSub];gi_wp2;rw [ad.o,Y.o];refine qag ?_;refine qw rfl (fun X=>X.cell? ⟨N,0,none⟩=some (.string p)/\X.cell? ⟨N,1,none⟩=some (.slice a ts.length c)) [7] ?_;rw [ag.o];refine qab [0,1,3,4] ?_
 iterate 4
  refine tkB rfl aa.o ?_
  try simp only [qac]
 refine qk ?_;refine hoR 2 rfl fun K k=>?_;gi_wp2;rw [af.o];refine k.o _ _ (fun _=>ab.o) ?_;refine hoR 5 rfl fun K l=>?_;refine qby rfl (.tmp 5) (.tmp 7) 22 rfl rfl rfl ah.o ?_;gi_wp2;refine l.o _ _ (fun _=>t.o) ?_;refine hoR 6 rfl fun K r=>?_;gi_wp2;refine r.o _ _ (fun _=>t.o) ?_;refine hoR 7 rfl fun K s=>?_;gi_wp2;rw [ae.o];refine s.o _ _ (fun h=>absurd h wC) ?_;refine qx wA (qai ?_);clear k l r s;gi_wp2;refine zz (v:=.agg #[.string p,.slice a5 ts.length c5]) (by simp [results,Tryz.results61,go_sem,e0,e1,l6]) rfl ⟨_,rfl,ay.o.mono (by have:=Y.o;omega),ax.o⟩
theorem qpa {w:World}{base:Nat}{e t:TypeId}{sz n B:Nat}{v:Value}{xs:List Value}{f:Array Value}(h:w.ownsRow base e sz v n xs)(c:w.heap[B]?=some (.cells f t (0,0)))(i:e≠t){b:Nat}(g:v.ownBlock=some b):b≠B:=fun d=>by
 subst d;obtain⟨k,j⟩:=qao h g;rw [j]at c;injection c with c
 injection c with _ c _
 exact i c
end Go.Proofs
