/- Parts of the proof. -/
import Derived.Test.YtnponcjnahicnaaGreatDoorRfCToRfI
set_option linter.unusedSimpArgs false
set_option linter.unusedVariables false
set_option maxRecDepth 100000
set_option maxHeartbeats 4000000
open Go.Proofs.Tryz(prog)
open List(length_cons length_singleton map_drop map_take nil_append pairwise_append pairwise_pair perm_append_singleton perm_middle set_append_right)
namespace Go.Proofs
open Go.RowKit Go.Ink Go.Flt R4 P16
attribute [local go_sem] Oper.semAt_some
abbrev MQ:=qac×Value×Value
def qad (q:MQ):List Value:= [q.2.1,q.2.2]
def MqOk (n:Nat)(w:World)(q:MQ):Prop:=qaf n w q.2.1 q.1.head/\qaf n w q.2.2 q.1.vals
theorem MqOk.keep {n:Nat}{w w':World}{q:MQ}(h:MqOk n w q)(hK:Keep (fun k=>k<n) w w'):MqOk n w' q:=⟨qam h.1 hK,qam h.2 hK⟩
theorem qvs:qb2 prog 49 122 2 48:=qcl (z:=.agg #[.slice none 0 0,.slice none 0 0]) wB wB rfl wD wD
theorem qvt {a b:List ByteArray}:qgs a b<0↔ltR a b=true:=by
 unfold qgs;by_cases h:ltR a b=true
 ·rw [zI h];simp [h]
 ·rw [zF h];by_cases c:ltR b a=true
  ·rw [zI c];simp [h]
  ·rw [zF c];simp [h]
theorem q6v {m:qac}: ∀{l:List qac} {k:Nat},(∀j x,j<k->l[j]?=some x->ltR x.vals m.vals=true)->(∀x,l[k]?=some x->ltR x.vals m.vals=false)->qcw l m=l.take k++m::l.drop k:=by
 intro l
 induction l with
 |nil=>intro k _ _;simp [qcw]
 |cons x xs ih=>
  intro k c d;cases k with
  |zero=>
   have:=d x rfl;unfold qcw;rw [zF (by rw [this];simp)]
   rfl
  |succ k=>
   have:=c 0 x wA rfl;unfold qcw;rw [zI this,ih (fun j y e b=>c (j+1) y wA b) (fun y b=>d y b)]
   rfl
theorem q33 (A C:List MQ)(x y:MQ):(((A++x::C).flatMap qad).set (A.length*2) y.2.1).set (A.length*2+1) y.2.2=(A++y::C).flatMap qad:=by
 rw [yG,yG,set_append_right _ _ (by rw [qa4 qad 2 (fun _=>rfl)];omega),qa4 qad 2 (fun _=>rfl),set_append_right _ _ (by rw [qa4 qad 2 (fun _=>rfl)];omega),qa4 qad 2 (fun _=>rfl)]
 congr 1
 rw [show A.length*2-A.length*2=0 from wA,show A.length*2+1-A.length*2=1 from wA]
 rfl
abbrev q0v (n:Nat)(w:World)(v:Value)(qs:List MQ):Prop:=SliceIn n w 2 (fun w b o q=>CellsE w b o (qad q)) v qs
theorem qvu {w:World}{base:Nat}{e:TypeId}{v:Value}{n:Nat}{d:List MQ}(h:w.ownsRow base e 2 v n (d.flatMap qad))(s:n=d.length)(l:d.length<=1073741824):q0v w.heap.size w v d:=
 qda h d s l _ fun b k p t m=>fun j u g=>by
  have c:j<2:=by
   have:=(zA.1 g).1
   simpa [qad]using this
  have q:=qbf qad 2 (fun _=>rfl) _ k j p t c;have:=m j c;rw [q,g]at this;exact this
theorem qvv {n:Nat}{c K:Act->World->Prop}{Q:Exit->Act->World->Prop}(h: ∀a X,c a X->K a X): ∀x a X,Exit.inBlock n (Exit.then c fun _ _ _=>False) x a X->Exit.inBlock n (Exit.then K Q) x a X:=fun x a X b=>by
 unfold Exit.inBlock at b⊢;cases x with
 |normal=>exact h a X b
 |exit i=>
  by_cases hi:i=n
  ·subst hi;simp only [yg]at b⊢;exact h a X b
  ·simp only [zF hi]at b⊢;exact b.elim
 |ret=>exact b.elim
 |goto _=>exact b.elim
 |panic _=>exact b.elim
 |outgrown=>exact b.elim
theorem qyp {n base B:Nat}{w:World}{c0 c1 c2 c3 c4 c5 c6 vo vh vv:Value}{d:List MQ}{m:qac}(hB:w.heap[B]?=some (.cells #[c0,c1,c2,c3,c4,c5,c6,vo] 195 (0,0)))(ho:w.ownsRow base 122 2 vo d.length (d.flatMap qad))(cT:B<base)(d6:n<=w.heap.size)(hb:base<=w.heap.size)
  (hq: ∀q,q∈d->MqOk n w q) (hm:MqOk n w (m,vh,vv)) (hl:d.length<1073741824):
  Calls prog 124 #[qk B,.agg #[vh,vv]] w fun e w'=> ∃v0 vo' k,e=.returned v0/\w'.heap[B]?=some (.cells #[c0,c1,c2,c3,c4,c5,c6,vo'] 195 (0,0))/\Keep (fun b=>b<w.heap.size/\b≠B/\vo.ownBlock≠some b) w w'/\
   w'.ownsRow base 122 2 vo' (d.take k++(m,vh,vv)::d.drop k).length ((d.take k++(m,vh,vv)::d.drop k).flatMap qad)/\qcw (d.map (·.1)) m=(d.take k++(m,vh,vv)::d.drop k).map (·.1)/\ ∀g,vo'.ownBlock=some g->vo.ownBlock=some g∨w.heap.size<=g:=by
 obtain⟨N,hN⟩:=ex (w.heap.size);obtain⟨ah,ch,cm,c9,cX,-⟩:=id hm.1;obtain⟨av,cv,cn,da,cY,-⟩:=id hm.2;simp only at cm cn c9 cX da cY;subst cm;subst cn;obtain⟨W0,aQ⟩:=ex (w.alloc (.cells #[.slice ah m.head.length ch,.slice av m.vals.length cv] 122));have k0:wE w W0:=by rw [←aQ];exact kAl
 have p0:W0.heap[N]?=some (.cells #[.slice ah m.head.length ch,.slice av m.vals.length cv] 122 (0,0)):=by rw [←aQ,←hN];exact qh _ _
 have z0:W0.heap.size=N+1:=by rw [←aQ,←hN];simp
 have b0:=k0.heap hB trivial;have cj:=qf ho k0 (fun _ _=>wF);have ck: ∀q,q∈d->MqOk n W0 q:=fun q h=>(hq q h).keep k0.mt;have cg:=hm.keep k0.mt;have ce: ∀g,vo.ownBlock=some g->g≠N:=fun g h=>by have:=(zE ho g h).2;omega
 have d5:n<=N:=wA
 have dI:B<N:=wA
 obtain⟨ao,co,rfl⟩:=qi ho;clear hq hm;refine qib ?_ hB ho hN aQ k0 p0 b0 cj ck cg ce;clear hB ho hN aQ k0 p0 b0 cj ck cg ce;intro dz dA bK bO bi bV a6 a9 ba bR a8;refine qbr Tryz.func124 rfl ?_;simp only [Tryz.ntmps124,qdy,Nat.reduceAdd,Nat.reduceSub];gi_wp2;rw [bO.o,bK.o];obtain⟨K1,b3⟩: ∃K1:Act->World->Prop,K1=fun a X=> ∃(k:Nat) (u6 u7 u8 u9 u10 u11 u12 u13 u14 u15 u16 u17 u18 u19 u20 u21 u22 u23 u24 u25 u26 u27 u28:Value),(k<=d.length/\wE W0 X/\(∀j x,j<k->(d.map (·.1))[j]?=some x->ltR x.vals m.vals=true)/\ ∀x,(d.map (·.1))[k]?=some x->ltR x.vals m.vals=false)/\a=⟨#[qk B,.agg #[.slice ah m.head.length ch,.slice av m.vals.length cv],undef,.pointer (some ⟨N,0,none⟩),.int .i64 (k:Int),undef,u6,u7,u8,u9,u10,u11,u12,u13,u14,u15,u16,u17,u18,u19,u20,u21,u22,u23,u24,u25,u26,u27,u28,undef,undef,undef,undef,undef,undef,undef,undef,undef,undef,undef,undef,undef,undef,undef,undef,undef,undef,undef,undef,undef,undef,undef,undef,undef,undef,undef,undef,undef,undef,undef,undef,undef,undef,undef,undef,undef,undef,undef,undef,undef,undef],[]⟩:=⟨_,rfl⟩;have aF:=zg b3;clear b3;refine xq (Q:=Exit.inBlock 0 (Exit.then K1 fun _ _ _=>False)) ?_ (qvv ?_)
 ·gi_loopw [4] (fun ix wr=> ∃(k:Nat),k<=d.length/\ix=.int .i64 (k:Int)/\wE W0 wr/\ ∀j x,j<k->(d.map (·.1))[j]?=some x->ltR x.vals m.vals=true) (fun i _=>d.length-(intOf i).toNat)
  case atStart=>exact⟨0,wA,rfl,Keep.refl _ _,fun j x h=>wA⟩
  case round=>
   obtain⟨k,hk,rfl,hK,ab⟩:=hrel;have l:=hK.heap a6.o trivial;have d7:=qb l 7 _ rfl;have z:=hK.heap bV.o trivial;have e0:=qb z 0 _ rfl;have e1:=qb z 1 _ rfl;have cV:=qe l;have dL:=qe z;simp only [zD]at d7 e0 e1;have d1:(0:Int)<=k:=wA
   have kd:wE wr wr.drew:=kDr;obtain⟨R,ag⟩:=ex (wr.drew);rw [ag]at kd;have dd:=kd.size;have cU:B<R.heap.size:=wA
   have cW:N<R.heap.size:=wA
   by_cases a2:k<d.length
   ·have cf:(k:Int)<d.length:=by omega
    obtain⟨q,a4⟩: ∃q,d[k]?=some q:=⟨_,zB a2⟩;obtain⟨dB,dC,dc,-,dQ,cd⟩:=qvu a9.o rfl wA;injection dc with ho1 ho2 ho3
    subst ho1;subst ho3;obtain⟨b,o,rfl,dN,cc⟩:=cd k q a4;have bt:=ba.o q (zH a4);obtain⟨aq,cq,bv,d4,dR,-⟩:=id bt.2;have f1:=hK.cell (cc 1 _ rfl) trivial;rw [bv]at f1;have bq:(d.map (·.1))[k]?=some q.1:=by rw [zP,a4];rfl
    have dO:b<wr.heap.size:=by have:=hK.size;omega
    have dM:b<R.heap.size:=wA
    have kn:Keep (fun b=>b<n) W0 R:=(hK.trans kd).mt;have am:=qq9 n _ _ q.1.vals m.vals R (qam bt.2 kn) (qam bR.o.2 kn) wA;rw [bv]at am;have af:R.cell? ⟨B,7,none⟩=some (.slice (some ⟨b,o,none⟩) d.length co)/\R.cell? ⟨b,o+k*2+1,none⟩=some (.slice aq q.1.vals.length cq)/\R.cell? ⟨N,1,none⟩=some (.slice av m.vals.length cv):=⟨kd.cell d7 wF,kd.cell f1 wF,kd.cell e1 wF⟩;have aV:qgs q.1.vals m.vals<0-> ∀j x,j<k+1->(d.map (·.1))[j]?=some x->ltR x.vals m.vals=true:=fun h j x hj hx=>by
     rcases Nat.lt_succ_iff_lt_or_eq.1 hj with h2 |rfl
     ·exact ab j x h2 hx
     ·rw [bq]at hx;cases hx;exact qvt.1 h
    have an: ¬qgs q.1.vals m.vals<0-> ∀x,(d.map (·.1))[k]?=some x->ltR x.vals m.vals=false:=fun h x hx=>by
     rw [bq]at hx;cases hx;cases h3:ltR q.1.vals m.vals with
     |false=>rfl
     |true=>exact absurd (qvt.2 h3) h
    obtain⟨c,hc⟩:=ex (qgs q.1.vals m.vals);rw [hc]at aV an am;clear cc bv bt a4 cd kn bq hc;refine qdx ?_ hK ab an aV l z ag kd am af;clear hK ab an aV l z ag kd am af;intro aW aw aM bh aL aK ae aN aY p;gi_wp2;refine qag ?_;refine qw rfl (fun X=>X.cell? ⟨B,7,none⟩=some (.slice (some ⟨b,o,none⟩) d.length co)/\X.cell? ⟨b,o+k*2+1,none⟩=some (.slice aq q.1.vals.length cq)/\X.cell? ⟨N,1,none⟩=some (.slice av m.vals.length cv)) [] ?_;rw [ae.o];refine qq [0,1,2,3,4,5,6,7,8,9,10,11,12,13,14,15,16,17] ?_
    iterate 18
     refine tkB rfl p.o ?_
     try simp only [qr]
    refine ql ?_;refine qf7 (i:=18) rfl wB (fun K hK=>?_);have aG:=zg hK;clear hK;gi_wp2;refine⟨wF,rfl,(zU.2 aY.o).mono ?_⟩;rintro e We ⟨rfl,mm,cb⟩;have ke:wE R We:=by rw [cb];exact Keep.drewN' _ _ _
    have ca:We.cell? ⟨B,7,none⟩=some (.slice (some ⟨b,o,none⟩) d.length co)/\We.cell? ⟨b,o+k*2+1,none⟩=some (.slice aq q.1.vals.length cq)/\We.cell? ⟨N,1,none⟩=some (.slice av m.vals.length cv):=⟨ke.cell p.o.1 wF,ke.cell p.o.2.1 wF,ke.cell p.o.2.2 wF⟩;have b6:=(aW.o.trans aN.o).trans ke;clear cb ke;refine hd2 ?_ ca b6;clear ca b6;intro aI a7;gi_wp2;refine aG.o _ _ (fun _=>aI.o) ?_;clear aG;by_cases ci:c<0
    ·have aR:=bh.o ci;refine hd1 ?_ aR;clear aR;intro aX;refine qq [19,20] ?_
     iterate 2
      refine tkB rfl aI.o ?_
      try simp only [qr]
     refine ql ?_;refine qz wB (qah ?_);gi_wp2;go_roundw
     case rel=>exact⟨k+1,wA,by go_num,a7.o,aX.o⟩
     case measure=>simp [intOf];omega
    ·have bb:=aM.o wA;refine hd1 ?_ bb;clear bb;intro bd;refine qq [19,20] ?_
     iterate 2
      refine tkB rfl aI.o ?_
      try simp only [qr]
     refine ql ?_;refine qz wB (qah ?_);gi_wp2;rw [aF.o];exact⟨k,_,_,_,_,_,_,_,_,_,_,_,_,_,_,_,_,_,_,_,_,_,_,_,⟨hk,a7.o,aw.o,bd.o⟩,rfl⟩
   ·obtain rfl:k=d.length:=by omega
    have an: ∀x,(d.map (·.1))[d.length]?=some x->ltR x.vals m.vals=false:=fun x h=>by
     rw [xB wC]at h;cases h
    have af:R.cell? ⟨B,7,none⟩=some (.slice ao d.length co):=kd.cell d7 trivial;clear a2;refine hd8 ?_ hK ab an l z ag kd af;clear hK ab an l z ag kd af;intro aW aw aM aL aK ae aN p;gi_wp2;refine qag ?_;refine qw rfl (fun X=>X.cell? ⟨B,7,none⟩=some (.slice ao d.length co)) [] ?_;rw [ae.o];refine qq [0,1,2,3,4,5,6,7] ?_
    iterate 8
     refine tkB rfl p.o ?_
     try simp only [qr]
    refine ql ?_;refine qq [8,9,10,11,12,13,14,15,16,17,18,19] ?_
    iterate 12
     refine tkS rfl p.o ?_
     try simp only [qr]
    refine ql ?_;refine hoR 20 rfl fun K t=>?_;gi_wp2;refine t.o _ _ (fun _=>p.o) ?_;refine qz wB (qah ?_);clear t;gi_wp2;rw [aF.o];exact⟨d.length,_,_,_,_,_,_,_,_,_,_,_,_,_,_,_,_,_,_,_,_,_,_,_,⟨zG _,aW.o.trans aN.o,aw.o,aM.o⟩,rfl⟩
 ·rintro a X hX;rw [aF.o]at hX;obtain⟨k,u6,u7,u8,u9,u10,u11,u12,u13,u14,u15,u16,u17,u18,u19,u20,u21,u22,u23,u24,u25,u26,u27,u28,⟨hk,hK,ab,an⟩,rfl⟩:=hX
  dsimp only
  have bc:=q6v ab an;have bs:=qf a9.o hK (fun _ _=>wF);have l:=hK.heap a6.o trivial;have d7:=qb l 7 _ rfl;have cV:=qe l;have d9:=hK.size;simp only [zD]at d7;obtain⟨v4,W4,cl,a3,bp,s,U,db,a1,d3⟩:=qc3 qvs 49 bs [.slice none 0 0,.slice none 0 0] rfl (by simp [Value.oneCell']) wA (by have:=bK.o;omega);subst db;have aT:Keep (fun b=>b<base∨b=N) X W4:=bp.mono fun b _ (h:b<base∨b=N)=>by
   rcases h with h |rfl
   ·exact qdu bs h
   ·exact fun e=>a8.o _ e.symm rfl
  have cZ:s≠N:=fun e=>by
   rcases a1 with h |h
   ·exact a8.o _ h e
   ·omega
  have dS:=(qes a3).2.2.2;have aO:=aT.heap l (.inl cT);have b4:=qg aO 7;have l4:=qe aO;have e7:=qb aO 7 _ rfl;simp only [zD]at e7;obtain⟨W5,a0⟩:=ex (W4.setCell ⟨B,7,none⟩ (.slice (some ⟨s,0,none⟩) (d.length+1) U));have k5:Keep (fun b=>b≠B) W4 W5:=by rw [←a0];exact kSc
  have b1:W5.heap[B]?=some (.cells #[c0,c1,c2,c3,c4,c5,c6,.slice (some ⟨s,0,none⟩) (d.length+1) U] 195 (0,0)):=by rw [←a0];exact qaj 7 _ aO
  have br:=qf a3 k5 (fun b hb e=>by subst e;have:=(zE a3 _ hb).1;omega);have b8:=k5.heap (aT.heap (hK.heap bV.o wF) (.inr rfl)) (show N≠B from wA);have b5:Keep (fun b=>b<w.heap.size/\b≠B/\(Value.slice ao d.length co).ownBlock≠some b) w W5:=((bi.o.trans hK).mt).trans ((bp.mono fun b _ h e=>h.2.2 e.symm).trans (k5.mono fun b _ h=>h.2.1));have c7: ∀b,b<w.heap.size/\b≠B/\(Value.slice ao d.length co).ownBlock≠some b->b≠s:=fun b h e=>by
   rcases a1 with h4 |h4
   ·exact h.2.2 (by rw [h4,e])
   ·have:=(bi.o.trans hK).size;omega
  have aS:(d.flatMap qad++ [Value.slice none 0 0,.slice none 0 0])=((d.take d.length++((default,.slice none 0 0,.slice none 0 0):MQ)::d.drop d.length).flatMap qad):=by
   rw [zi,xo,yG];rfl
  rw [aS]at br;have b7:=hK;clear ab an bs l a3 bp aT aO k5 aS;refine qdx ?_ a1 b7 bc hK cl a0 br b1 b8 b5;clear a1 b7 bc hK cl a0 br b1 b8 b5;intro bQ bJ bf aW bU bP bS bG bL bI
  gi_wp2_with (gi_at_builtin;refine qcd (v:=.slice ao d.length co) (u:=.slice (some ⟨X.heap.size,0,none⟩) 1 1) (v':=.slice (some ⟨s,0,none⟩) (d.length+1) U) (w':=W4) rfl (.tmp 33) (.tmp 35) 49 rfl rfl rfl bU.o ?_)
  rw [bP.o];gi_loopw [5] (fun ix wr=> ∃(j:Nat) (x:MQ),k<=j/\j<=d.length/\ix=.int .i64 (j:Int)/\Keep (fun b=>b≠s) W5 wr/\wr.ownsRow base 122 2 (.slice (some ⟨s,0,none⟩) (d.length+1) U) (d.length+1) ((d.take j++x::d.drop j).flatMap qad)) (fun i _=>(intOf i).toNat)
  case atStart=>exact⟨d.length,_,hk,zG _,rfl,Keep.refl _ _,bS.o⟩
  case round=>
   obtain⟨j,x,d2,d0,rfl,ap,hO⟩:=hrel;have l:=ap.heap bG.o (show B≠s from wA);have q7:=qb l 7 _ rfl;have z:=ap.heap bL.o (fun e=>cZ e.symm);have m0:=qb z 0 _ rfl;have m1:=qb z 1 _ rfl;have dJ:=qe l;have dK:=qe z;simp only [zD]at q7 m0 m1;obtain⟨dD,a5⟩:=qba hO (b:=s) rfl;have dU:=qe a5;have kd:wE wr wr.drew:=kDr;obtain⟨R,ag⟩:=ex (wr.drew);rw [ag]at kd;have dd:=kd.size;have cU:B<R.heap.size:=wA
   have cW:N<R.heap.size:=wA
   have dT:s<R.heap.size:=wA
   have aB:=qes hO;have dP:=aB.1;have dp:=aB.2.1;have ad:=kd.heap a5 trivial;have ar:=qf hO kd (fun _ _=>wF);by_cases a2:k<j
   ·obtain⟨i,rfl⟩: ∃i,j=i+1:=⟨j-1,wA⟩;have cf:(k:Int)<((i+1:Nat):Int):=by omega
    have dw:(((i+1:Nat):Int)-1)=(i:Int):=wA
    have dV:(0:Int)<=i:=wA
    have dW:(0:Int)<=(i:Int)+1:=wA
    have d8:IntKind.i64.wrap (i:Int)=(i:Int):=IntWalk.i64_in _ wA;have ds:(i:Int)<(d.length:Int)+1:=wA
    have dt:(i:Int)+1<(d.length:Int)+1:=wA
    have dX:(i:Int)<d.length:=wA
    have dq:(i:Int)<((d.length+1:Nat):Int):=wA
    have dr:((i+1:Nat):Int)<((d.length+1:Nat):Int):=wA
    obtain⟨y,hy⟩: ∃y,d[i]?=some y:=⟨_,zB wA⟩;have bo:(d.take (i+1)++x::d.drop (i+1))[i]?=some y:=by
     rw [yR (by rw [yC];omega),xP wA];exact hy
    have s0:R.cell? ⟨s,i*2,none⟩=some y.2.1:=kd.cell (qbd hO (i*2) _ (by have:=qbf qad 2 (fun _=>rfl) _ i 0 y bo wA;simpa [qad] using this)) trivial;have s1:R.cell? ⟨s,i*2+1,none⟩=some y.2.2:=kd.cell (qbd hO (i*2+1) _ (by have:=qbf qad 2 (fun _=>rfl) _ i 1 y bo wA;simpa [qad] using this)) trivial;have bw:=ba.o y (zH hy);obtain⟨y1,y2,y3⟩:=y;obtain⟨ay,cy,cp,-,-,-⟩:=id bw.1;obtain⟨az,cz,cr,-,-,-⟩:=id bw.2;simp only at cp cr s0 s1;subst cp;subst cr;have aj:(d.take (i+1)).length=i+1:=by rw [yC];omega
    have ai:((d.take (i+1)++x::d.drop (i+1)).flatMap qad).length=(d.length+1)*2:=by
     rw [qa4 qad 2 (fun _=>rfl),zR,length_cons,xu,aj];omega
    have ak:=qh6 (qh6 ar ((i+1)*2) (.slice ay y1.head.length cy) (by rw [ai];omega)) ((i+1)*2+1) (.slice az y1.vals.length cz) (by rw [xp,ai];omega);have Y:=q33 (d.take (i+1)) (d.drop (i+1)) x (y1,.slice ay y1.head.length cy,.slice az y1.vals.length cz);rw [aj]at Y;simp only at Y;rw [Y]at ak;obtain⟨W6,al⟩:=ex ((R.setCell ⟨s,(i+1)*2,none⟩ (.slice ay y1.head.length cy)).setCell ⟨s,(i+1)*2+1,none⟩ (.slice az y1.vals.length cz));rw [al]at ak;have k6:Keep (fun b=>b≠s) R W6:=by rw [←al];exact(kSc).trans (kSc)
    have aC:d.take (i+1)++(y1,Value.slice ay y1.head.length cy,Value.slice az y1.vals.length cz)::d.drop (i+1)=d.take i++(y1,.slice ay y1.head.length cy,.slice az y1.vals.length cz)::d.drop i:=by
     obtain⟨h1,h2⟩:=zA.1 hy;rw [zh,hy,zt h1,h2];simp
    rw [aC]at ak;have aP:=ap.trans (kd.mt.trans k6);have cP:=qg ad ((i+1)*2);have cQ:=qg ad ((i+1)*2+1);have af:R.cell? ⟨B,7,none⟩=some (.slice (some ⟨s,0,none⟩) (d.length+1) U)/\R.cell? ⟨s,i*2,none⟩=some (.slice ay y1.head.length cy)/\R.cell? ⟨s,i*2+1,none⟩=some (.slice az y1.vals.length cz):=⟨kd.cell q7 wF,s0,s1⟩;have t0: ∃u,R.cell? ⟨s,(i+1)*2,none⟩=some u:=by
     obtain⟨u,hu⟩: ∃u,((d.take (i+1)++x::d.drop (i+1)).flatMap qad)[(i+1)*2]?=some u:=⟨_,zB (by rw [ai];omega)⟩;exact⟨u,qbd ar _ u hu⟩
    have t1: ∃u,R.cell? ⟨s,(i+1)*2+1,none⟩=some u:=by
     obtain⟨u,hu⟩: ∃u,((d.take (i+1)++x::d.drop (i+1)).flatMap qad)[(i+1)*2+1]?=some u:=⟨_,zB (by rw [ai];omega)⟩;exact⟨u,qbd ar _ u hu⟩
    obtain⟨tu,t0⟩:=t0;obtain⟨tv,t1⟩:=t1;clear hy bo bw Y aC aj ai hO ar a5 aB k6 s0 s1;refine qdx ?_ l z ag kd af al ak aP ap ad;clear l z ag kd af al ak aP ap ad;intro aL aK ae aN p aJ bM aH t bg;gi_wp2;refine qag ?_;refine qw rfl (fun X=>X.cell? ⟨B,7,none⟩=some (.slice (some ⟨s,0,none⟩) (d.length+1) U)/\X.cell? ⟨s,i*2,none⟩=some (.slice ay y1.head.length cy)/\X.cell? ⟨s,i*2+1,none⟩=some (.slice az y1.vals.length cz)) [14] ?_;rw [ae.o];refine qq [0,1,2,3,4,5,6,7,8,9,10,11,12,13] ?_
    iterate 14
     refine tkB rfl p.o ?_
     try simp only [qr]
    refine ql ?_;refine hoR 14 rfl fun K t=>?_;gi_wp2;rw [aJ.o];refine t.o _ _ (fun h=>absurd h wD) ?_;refine qz wB (qah ?_);clear t;gi_wp2;go_roundw
    case rel=>exact⟨i,_,wA,wA,by go_num,aH.o,bM.o⟩
    case measure=>simp [intOf]
   ·obtain rfl:j=k:=by omega
    have ai:((d.take j++x::d.drop j).flatMap qad).length=(d.length+1)*2:=by
     rw [qa4 qad 2 (fun _=>rfl),zR,length_cons,xu,yC];omega
    have aj:(d.take j).length=j:=by rw [yC];omega
    have ak:=qh6 (qh6 ar (j*2) (.slice ah m.head.length ch) (by rw [ai];omega)) (j*2+1) (.slice av m.vals.length cv) (by rw [xp,ai];omega);have Y:=q33 (d.take j) (d.drop j) x (m,.slice ah m.head.length ch,.slice av m.vals.length cv);rw [aj]at Y;simp only at Y;rw [Y]at ak;obtain⟨W6,al⟩:=ex ((R.setCell ⟨s,j*2,none⟩ (.slice ah m.head.length ch)).setCell ⟨s,j*2+1,none⟩ (.slice av m.vals.length cv));rw [al]at ak;have k6:Keep (fun b=>b≠s) R W6:=by rw [←al];exact(kSc).trans (kSc)
    have b2:=k6.heap (kd.heap l wF) (show B≠s from wA);have aP:Keep (fun b=>b<w.heap.size/\b≠B/\(Value.slice ao d.length co).ownBlock≠some b) w W6:=bI.o.trans ((ap.trans (kd.mt.trans k6)).mono fun b _ h=>c7 b h);have b9:W6.ownsRow base 122 2 (.slice (some ⟨s,0,none⟩) (d.length+1) U) (d.take j++(m,.slice ah m.head.length ch,.slice av m.vals.length cv)::d.drop j).length ((d.take j++(m,.slice ah m.head.length ch,.slice av m.vals.length cv)::d.drop j).flatMap qad):=by
     rw [show(d.take j++((m,.slice ah m.head.length ch,.slice av m.vals.length cv):MQ)::d.drop j).length=d.length+1 by rw [zR,length_cons,xu,aj];omega];exact ak
    have aU:qcw (d.map (·.1)) m=(d.take j++((m,.slice ah m.head.length ch,.slice av m.vals.length cv):MQ)::d.drop j).map (·.1):=by
     rw [bf.o,zn,yX,map_take,map_drop]
    have cP:=qg ad (j*2);have cQ:=qg ad (j*2+1);have af:R.cell? ⟨B,7,none⟩=some (.slice (some ⟨s,0,none⟩) (d.length+1) U)/\R.cell? ⟨N,0,none⟩=some (.slice ah m.head.length ch)/\R.cell? ⟨N,1,none⟩=some (.slice av m.vals.length cv):=⟨kd.cell q7 wF,kd.cell m0 wF,kd.cell m1 wF⟩;have t0: ∃u,R.cell? ⟨s,j*2,none⟩=some u:=by
     obtain⟨u,hu⟩: ∃u,((d.take j++x::d.drop j).flatMap qad)[j*2]?=some u:=⟨_,zB (by rw [ai];omega)⟩;exact⟨u,qbd ar _ u hu⟩
    have t1: ∃u,R.cell? ⟨s,j*2+1,none⟩=some u:=by
     obtain⟨u,hu⟩: ∃u,((d.take j++x::d.drop j).flatMap qad)[j*2+1]?=some u:=⟨_,zB (by rw [ai];omega)⟩;exact⟨u,qbd ar _ u hu⟩
    obtain⟨tu,t0⟩:=t0;obtain⟨tv,t1⟩:=t1;have dZ:(0:Int)<=j:=wA
    have du:(j:Int)<(d.length:Int)+1:=wA
    clear Y aj ai hO ar a5 aB k6 a2 ak;refine qhw ?_ l z ag kd af al b9 aP ap ad b2 aU;clear l z ag kd af al b9 aP ap ad b2 aU;intro aL aK ae aN p aJ bN aH t bg bH aZ;gi_wp2;refine qag ?_;refine qw rfl (fun X=>X.cell? ⟨B,7,none⟩=some (.slice (some ⟨s,0,none⟩) (d.length+1) U)/\X.cell? ⟨N,0,none⟩=some (.slice ah m.head.length ch)/\X.cell? ⟨N,1,none⟩=some (.slice av m.vals.length cv)) [7] ?_;rw [ae.o];refine qq [0,1,2,3,4,5,6] ?_
    iterate 7
     refine tkB rfl p.o ?_
     try simp only [qr]
    refine ql ?_;refine hoR 7 rfl fun K t=>?_;gi_wp2;rw [aJ.o];refine t.o _ _ (fun h=>absurd h wD) ?_;refine qz wB (qah ?_);clear t;gi_wp2;refine xy (yt rfl _ _ _) rfl ⟨_,_,j,rfl,bH.o,aH.o,bN.o,aZ.o,fun g h=>by
     have e:s=g:=by simpa [Value.ownBlock] using h
     rcases bQ.o with h4 |h4
     ·exact .inl (by rw [h4,e])
     ·exact .inr (by have:=(bi.o.trans bJ.o).size;omega)⟩
theorem q8p {n base B:Nat}{w:World}{l p s t u v x y vh vv:Value}{c:List MQ}{m:qac}(hB:w.heap[B]?=some (.cells #[l,p,s,t,u,v,x,y] 195 (0,0)))(ho:w.ownsRow base 122 2 y c.length (c.flatMap qad))(d:B<base)(ag:n<=B)(hb:base<=w.heap.size)
  (hq: ∀q,q∈c->MqOk n w q) (hm:MqOk n w (m,vh,vv)) (hl:c.length<1073741824):
  Calls prog 124 #[qk B,.agg #[vh,vv]] w fun e w'=> ∃v0 vo' k,e=.returned v0/\w'.heap[B]?=some (.cells #[l,p,s,t,u,v,x,vo'] 195 (0,0))/\Keep (fun b=>b<base/\b≠B) w w'/\
   w'.ownsRow base 122 2 vo' (c.take k++(m,vh,vv)::c.drop k).length ((c.take k++(m,vh,vv)::c.drop k).flatMap qad)/\qcw (c.map (·.1)) m=(c.take k++(m,vh,vv)::c.drop k).map (·.1):=by
 refine(qyp hB ho d wA hb hq hm hl).mono ?_;rintro e w' ⟨v0,vo',k,z,R,U,Y,h5,-⟩;exact⟨v0,vo',k,z,R,U.mono fun b g h=>⟨g,h.2,fun e=>qdu ho h.1 e.symm⟩,Y,h5⟩
def q9u (n:Nat)(w:World)(b o:Nat)(m:qac):Prop:= ∃vh vv,CellsE w b o [vh,vv]/\qaf n w vh m.head/\qaf n w vv m.vals
abbrev qfe (n:Nat)(w:World)(v:Value)(ms:List qac):Prop:=SliceIn n w 2 (q9u n) v ms
theorem qq4 {n m:Nat}{w:World}{v:Value}{g:List MQ}(h:q0v m w v g)(t:n<=m)(R: ∀q,q∈g->MqOk n w q):qfe m w v (g.map (·.1)):=by
 obtain⟨a,c,U,z,x,y⟩:=h;refine⟨a,c,by rw [zL];exact U,by rw [zL];exact z,by rw [zL];exact x,fun i f d=>?_⟩;rw [zP]at d;cases e:g[i]? with
 |none=>rw [e] at d;cases d
 |some p=>
  rw [e]at d;cases d;obtain⟨b,o,u,l,s⟩:=y i p e;have:=R p (zH e);exact⟨b,o,u,l,p.2.1,p.2.2,s,qb4 this.1 t,qb4 this.2 t⟩
theorem q6w {b:List qac}{k:Nat}{m:qac}(h:b[k]?=some m):(b.take (k+1)).foldl qcw []=qcw ((b.take k).foldl qcw []) m:=by
 rw [zh,h,yl];rfl
theorem q6x {α:Type}(b:List α)(k:Nat)(x:α):(b.take k++x::b.drop k).Perm (b++ [x]):=by
 refine perm_middle.trans ?_;rw [yw];exact(perm_append_singleton x b).symm
theorem q0w {n m:Nat}{w:World}{v:Value}{l:List MQ}(hv:q0v m w v l)(hq: ∀q,q∈l->MqOk n w q)(hn:n<=m)(hm:m<=w.heap.size)(aY:l.length<1073741824):
  Calls prog 69 #[v] w fun e w'=> ∃v',e=.returned v'/\Keep (fun b=>b<w.heap.size) w w'/\ ∃os:List MQ,w'.ownsRow w.heap.size 122 2 v' os.length (os.flatMap qad)/\os.map (·.1)=qd3 (l.map (·.1))/\os.Perm l:=by
 obtain⟨al,cl,rfl,bb,a9,aB⟩:=id hv;obtain⟨N,hN⟩:=ex (w.heap.size);obtain⟨W0,U⟩:=ex (w.alloc (.cells #[.string ⟨#[]⟩,.slice none 0 0,.slice none 0 0,.slice none 0 0,.slice none 0 0,.slice none 0 0,.pointer none,.slice none 0 0] 195));have k0:wE w W0:=by rw [←U];exact kAl
 have p0:W0.heap[N]?=some (.cells #[.string ⟨#[]⟩,.slice none 0 0,.slice none 0 0,.slice none 0 0,.slice none 0 0,.slice none 0 0,.pointer none,.slice none 0 0] 195 (0,0)):=by rw [←U,←hN];exact qh _ _
 have z0:W0.heap.size=N+1:=by rw [←U,←hN];simp
 refine hd7 ?_ hv aB hq hN U k0 p0;clear hv aB hq hN U k0 p0;intro a4 ar au t aq aM aN
 go_enter Tryz.func69,Tryz.ntmps69
 go_wp2_with fail;rw [aq.o,t.o]
 go_loopw [4] (fun ix wr=> ∃(k:Nat) (vo:Value) (os:List MQ),k<=l.length/\ix=.int .i64 (k:Int)/\Keep (fun b=>b<N) w wr/\wr.heap[N]?=some (.cells #[.string ⟨#[]⟩,.slice none 0 0,.slice none 0 0,.slice none 0 0,.slice none 0 0,.slice none 0 0,.pointer none,vo] 195 (0,0))/\
  wr.ownsRow (N+1) 122 2 vo os.length (os.flatMap qad)/\os.map (·.1)=((l.map (·.1)).take k).foldl qcw []/\os.Perm (l.take k)) (fun i _=>l.length-(intOf i).toNat)
 case atStart=>exact⟨0,.slice none 0 0,[],wA,rfl,aM.o.mt,aN.o,zj _ _ _ _,rfl,.nil⟩
 case round=>
  obtain⟨k,vo,os,hk,rfl,hK,hB,hO,c,p⟩:=hrel;have aa: ∀q,q∈os->q∈l:=fun q h=>xj (p.mem_iff.1 h);have am:os.length=k:=by rw [p.length_eq,yC];omega
  have a7:=qe hB;have ba:(0:Int)<=k:=wA
  have a1:=hK.size;by_cases aD:k<l.length
  ·have aZ:(k:Int)<l.length:=by omega
   obtain⟨q,u⟩: ∃q,l[k]?=some q:=⟨_,zB aD⟩;obtain⟨b,o,rfl,hb,g⟩:=ar.o k q u;have ad:=au.o q (zH u);have aO:=zH u;have aA:b<N:=by have:=t.o;omega
   have f0:=hK.cell (g 0 _ rfl) aA;have f1:=hK.cell (g 1 _ rfl) aA;simp only [Nat.add_zero]at f0;have a8:b<wr.heap.size:=wA
   obtain⟨m1,vh,vv⟩:=q;have kn:Keep (fun b=>b<n) w wr:=hK.mono fun b _ h=>by have:=t.o;omega
   have Y:=q8p (n:=n) (base:=N+1) hB hO wA (by have:=t.o;omega) wA (fun q h=>(au.o q (aa q h)).keep kn) (ad.keep kn) wA;have aE:(l.map (·.1))[k]?=some m1:=by rw [zP,u];rfl
   have aF:=q6w aE;obtain⟨ah,ch,aG,-,-,-⟩:=id ad.1;obtain⟨av,cv,aH,-,-,-⟩:=id ad.2;simp only at aG aH f0 f1;subst aG;subst aH;clear g ad aE kn aa am aO;refine hd8 ?_ Y hK hB hO c p aF u;clear Y hK hB hO c p aF u;intro ab ag aK aL d y ax aw;go_wp2_with fail;refine ab.o.mono ?_;rintro e W2 ⟨v0,bd,kk,rfl,ay,aC,R,af⟩;have az:=ag.o.trans (aC.mono fun b _ h=>⟨wA,wA⟩);have s:(os.take kk++((m1,.slice ah m1.head.length ch,.slice av m1.vals.length cv):MQ)::os.drop kk).map (·.1)=((l.map (·.1)).take (k+1)).foldl qcw []:=by
    rw [ax.o,←d.o,af]
   have ae:(os.take kk++((m1,.slice ah m1.head.length ch,.slice av m1.vals.length cv):MQ)::os.drop kk).Perm (l.take (k+1)):=by
    rw [zh,aw.o];exact(q6x _ _ _).trans (y.o.append (.refl _))
   clear aC af;refine hd5 ?_ ay R az s ae;clear ay R az s ae;intro an x ap z ai;go_wp2_with fail;go_roundw
   case rel=>exact⟨k+1,_,_,wA,by go_num,ap.o,an.o,x.o,z.o,ai.o⟩
   case measure=>simp [intOf];omega
  ·obtain rfl:k=l.length:=by omega
   have d7:=qb hB 7 _ rfl;simp only [zD]at d7;rw [yx wC]at c;rw [zi]at p;obtain⟨ao,co,rfl⟩:=qi hO;have R:=hO.mono (show N<=N+1 from wA);clear aD aa;refine hd7 ?_ hK hB hO c p R am;clear hK hB hO c p R am;intro ag aK aL d y x aS;go_wp2_with fail;go_ret;exact⟨.slice ao os.length co,rfl,by rw [t.o];exact ag.o,os,by rw [t.o];exact x.o,d.o,y.o⟩
theorem qo1 {w:World}{m:Nat}{v:Value}(p:ByteArray){ts:List TermD}(h:qak m w v ts)(hm:m<=w.heap.size):Calls prog 61 #[.agg #[.string p,v]] w fun e w'=> ∃v',e=.returned (.agg #[.string p,v'])/\w'.ownsRow w.heap.size 77 2 v' ts.length (qae ts)/\wE w w':=by
 obtain⟨a,c,rfl,hl,hc,he⟩:=id h;obtain⟨N,hN⟩:=ex (w.heap.size);obtain⟨W0,d⟩:=ex ((w.alloc (.cells #[.string p,.slice a ts.length c] 24)).alloc (.cells #[.string ⟨#[]⟩,.slice none 0 0] 24));have k0:wE w W0:=by rw [←d];exact kAl.trans kAl
 have z0:W0.heap.size=N+2:=by rw [←d,←hN];simp
 have p0:W0.heap[N]?=some (.cells #[.string p,.slice a ts.length c] 24 (0,0)):=by rw [←d,←hN];exact(Keep.alloc (fun _=>True) _ _).heap (qh w _) trivial
 have p1:W0.heap[N+1]?=some (.cells #[.string ⟨#[]⟩,.slice none 0 0] 24 (0,0)):=by
  rw [←d,←hN];have:=qh (w.alloc (.cells #[.string p,.slice a ts.length c] 24)) (.cells #[.string ⟨#[]⟩,.slice none 0 0] 24);rw [zO]at this;exact this
 obtain⟨U,aa⟩:=ex (W0.drew);have kd:wE W0 U:=by rw [←aa];exact kDr
 have hS: ∀X,Keep (fun b=>b<N+2) W0 X->X.cell? ⟨N,0,none⟩=some (.string p)/\X.cell? ⟨N,1,none⟩=some (.slice a ts.length c):=fun X hX=>by
  have q:=hX.heap p0 wA;have q0:=qb q 0 _ rfl;have q1:=qb q 1 _ rfl;simp only [zD]at q0 q1;exact⟨q0,q1⟩
 have aZ:=kd.size;obtain⟨Wb,s⟩:=ex (U.alloc (.cells #[] 77));have kb:wE U Wb:=by rw [←s];exact kAl
 have ob:=qfc U 77 2;rw [s]at ob;have aY:=kb.size;have ab:=qan h ((k0.trans (kd.trans kb)).mt);obtain⟨v5,W5,av,g,ar,au⟩:=qhx (P:=prog) qh1 22 ob a ts.length c (qae ts) (qei _) (qea ab).1 (qea ab).2 (qks _) wA wA;rw [nil_append,zD]at g;obtain⟨a5,c5,rfl⟩:=qi g;have k5:Keep (fun b=>b<U.heap.size) Wb W5:=au.mono fun b _ h e=>by
  rcases ar b e with h1 |h1
  ·simp [Value.ownBlock]at h1;omega
  ·omega
 have t:Keep (fun b=>b<N+2) W0 W5:=((kd.trans kb).mt).trans (k5.mono fun b _ h=>wA);have Y:=t.heap p1 wA;have d0:=qb Y 0 _ rfl;have d1:=qb Y 1 _ rfl;have f0:=qg Y 0;have f1:=qg Y 1;have l1:=qe Y;simp only [zD]at d0 d1;obtain⟨W6,l⟩:=ex ((W5.setCell ⟨N+1,0,none⟩ (.string p)).setCell ⟨N+1,1,none⟩ (.slice a5 ts.length c5));have k6:Keep (fun b=>b≠N+1) W5 W6:=by rw [←l];exact(kSc).trans (kSc)
 have b6:W6.heap[N+1]?=some (.cells #[.string p,.slice a5 ts.length c5] 24 (0,0)):=by rw [←l];exact qaj 1 _ (qaj 0 (.string p) Y)
 have e0:=qb b6 0 _ rfl;have e1:=qb b6 1 _ rfl;have l6:=qe b6;simp only [zD]at e0 e1;have o6:=qf g k6 (fun b hb=>by have:=(zE g b hb).1;omega);have hK:wE w W6:=(k0.mt.trans ((t.mono fun b _ (h:b<N)=>wA).trans (k6.mono fun b _ (h:b<N)=>wA))).mono fun b hb _=>wA
 have ao:=hS U kd.mt;have ap:=hS Wb ((kd.trans kb).mt);have aq:=hS W5 t;have aW:U.heap.size≥N:=wA
 clear hS t k5 kb k6 ar au g ob ab Y b6 he;refine qby ?_ h hN d k0 p0 p1 aa kd s l av o6 hK ao ap aq;clear h hN d k0 p0 p1 aa kd s l av o6 hK ao ap aq;intro Xh af ai aP aR aS al aQ ak aj am aD aC ag ah R;refine qbr Tryz.func61 rfl ?_;simp only [Tryz.ntmps61,qdy,Nat.reduceAdd,Nat.reduceSub];gi_wp2;rw [ai.o,af.o];refine qag ?_;refine qw rfl (fun X=>X.cell? ⟨N,0,none⟩=some (.string p)/\X.cell? ⟨N,1,none⟩=some (.slice a ts.length c)) [7] ?_;rw [al.o];refine qq [0,1,3,4] ?_
 iterate 4
  refine tkB rfl ag.o ?_
  try simp only [qr]
 refine ql ?_;refine hoR 2 rfl fun K u=>?_;gi_wp2;rw [ak.o];refine u.o _ _ (fun _=>ah.o) ?_;refine hoR 5 rfl fun K x=>?_;refine qcd rfl (.tmp 5) (.tmp 7) 22 rfl rfl rfl am.o ?_;gi_wp2;refine x.o _ _ (fun _=>R.o) ?_;refine hoR 6 rfl fun K y=>?_;gi_wp2;refine y.o _ _ (fun _=>R.o) ?_;refine hoR 7 rfl fun K z=>?_;gi_wp2;rw [aj.o];refine z.o _ _ (fun h=>absurd h wD) ?_;refine qz wB (qah ?_);clear u x y z;gi_wp2;refine yA (v:=.agg #[.string p,.slice a5 ts.length c5]) (by simp [results,Tryz.results61,go_sem,e0,e1,l6]) rfl ⟨_,rfl,aD.o.mono (by have:=af.o;omega),aC.o⟩
theorem qme {w:World}{base c:Nat}{e m:TypeId}{sz g n t:Nat}{v v':Value}{xs l:List Value}(h:w.ownsRow base e sz v n xs)(p:w.ownsRow c m g v' t l)(s:e≠m){b:Nat}(q:v.ownBlock=some b):some b≠v'.ownBlock:=fun d=>by
 obtain⟨x,u⟩:=qba h q;obtain⟨y,t2⟩:=qba p d.symm;rw [u]at t2;injection t2 with t2
 injection t2 with _ t2 _
 exact s t2
theorem qff {w:World}{base:Nat}{e t:TypeId}{sz n B:Nat}{v:Value}{xs:List Value}{g:Array Value}(h:w.ownsRow base e sz v n xs)(c:w.heap[B]?=some (.cells g t (0,0)))(m:e≠t){b:Nat}(l:v.ownBlock=some b):b≠B:=fun d=>by
 subst d;obtain⟨q,p⟩:=qba h l;rw [p]at c;injection c with c
 injection c with _ c _
 exact m c
theorem qxo {w:World}{n:Nat}{r:RuleD}{sh sb:Value}(hr:RuleIn n w sh sb r)(hn:n<=w.heap.size):Calls prog 10 #[qaq r sh sb] w fun e w'=> ∃vh vb,e=.returned (qaq r vh vb)/\RuleOwn w.heap.size 79 77 w' vh vb r/\Keep (fun b=>b<w.heap.size) w w':=by
 unfold qaq;obtain⟨N,hN⟩:=ex (w.heap.size);have a4:=hr.1;obtain⟨⟨ah,ay,rfl,ce,cb,aQ⟩,⟨ab,ax,rfl,cd,ca,aP⟩⟩:=id hr;obtain⟨W0,am⟩:=ex ((w.alloc (.cells #[.string r.head.pred,.slice ah r.head.args.length ay,.slice ab r.body.length ax] 27)).alloc (.cells #[.string ⟨#[]⟩,.slice none 0 0,.slice none 0 0] 27));have k0:wE w W0:=by rw [←am];exact kAl.trans kAl
 have z0:W0.heap.size=N+2:=by rw [←am,←hN];simp
 have p0:W0.heap[N]?=some (.cells #[.string r.head.pred,.slice ah r.head.args.length ay,.slice ab r.body.length ax] 27 (0,0)):=by rw [←am,←hN];exact(Keep.alloc (fun _=>True) _ _).heap (qh w _) trivial
 have p1:W0.heap[N+1]?=some (.cells #[.string ⟨#[]⟩,.slice none 0 0,.slice none 0 0] 27 (0,0)):=by
  rw [←am,←hN];have:=qh (w.alloc (.cells #[.string r.head.pred,.slice ah r.head.args.length ay,.slice ab r.body.length ax] 27)) (.cells #[.string ⟨#[]⟩,.slice none 0 0,.slice none 0 0] 27);rw [zO]at this;exact this
 have d0:=qb p0 0 _ rfl;have d1:=qb p0 1 _ rfl;have d2:=qb p0 2 _ rfl;have l0:=qe p0;simp only [zD]at d0 d1 d2;have d:=qo1 (w:=W0) r.head.pred (qan a4 k0.mt) wA;rw [z0]at d;refine qib ?_ z0 hr a4 aQ aP hN am k0 p0 p1 d;clear z0 hr a4 aQ aP hN am k0 p0 p1 d;intro b5 cy cq bW aV z bd bo b1 b2 q
 go_enter Tryz.func10,Tryz.ntmps10
 go_wp2_with fail;rw [bd.o];refine q.o.mono ?_;rintro e W1 ⟨vh,rfl,oh,k1⟩;obtain⟨R,U,rfl⟩:=qi oh;obtain⟨B,hB⟩:=ex (W1.heap.size);obtain⟨W2,aB⟩:=ex (W1.alloc (.cells #[.string r.head.pred,.slice R r.head.args.length U,.slice none 0 0] 27));have k2:wE W1 W2:=by rw [←aB];exact kAl
 have pB:W2.heap[B]?=some (.cells #[.string r.head.pred,.slice R r.head.args.length U,.slice none 0 0] 27 (0,0)):=by rw [←aB,←hB];exact qh _ _
 have z2:W2.heap.size=B+1:=by rw [←aB,←hB];simp
 have c4:N+2<=B:=by have:=k1.size;have:=b5.o;omega
 have bI:=qf oh k2 (fun _ _=>wF);have bG:wE W0 W2:=k1.trans k2;clear k1 oh k2;refine hd6 ?_ hB aB pB bI bG z2;clear hB aB pB bI bG z2;intro bU bf b3 bq bp cz;go_wp2_with fail;rw [bf.o,bU.o,z.o]
 go_loopw [4] (fun ix wr=> ∃(k:Nat) (ps:List (LitD×Value)) (vb:Value),k<=r.body.length/\ix=.int .i64 (k:Int)/\Keep (fun b=>b<N+2) W0 wr/\wr.heap[B]?=some (.cells #[.string r.head.pred,.slice R r.head.args.length U,vb] 27 (0,0))/\
  wr.ownsRow (N+2) 77 2 (.slice R r.head.args.length U) r.head.args.length (qae r.head.args)/\wr.ownsRow (N+2) 79 7 vb ps.length (ps.flatMap qdf)/\ps.map (·.1)=r.body.take k/\ ∀p,p∈ps->wr.ownsRow (N+2) 77 2 p.2 p.1.atom.args.length (qae p.1.atom.args)) (fun i _=>r.body.length-(intOf i).toNat)
 case atStart=>exact⟨0,[],.slice none 0 0,wA,rfl,bp.o.mt,b3.o,bq.o,zj _ _ _ _,rfl,fun p h=>(by cases h)⟩
 case round=>
  obtain⟨k,ps,vb,hk,rfl,hK,Y,aD,t,ao,hT⟩:=hrel;have af:=hK.heap b1.o wA;have e0:=qb af 0 _ rfl;have e1:=qb af 1 _ rfl;have e2:=qb af 2 _ rfl;have cY:=qe af;simp only [zD]at e0 e1 e2;have ct:=hK.size;have cV:=qe Y;have c0:(0:Int)<=k:=wA
  have aI:ps.length=k:=by
   have h1:=yN List.length ao;rw [zL,yC]at h1;omega
  by_cases bz:k<r.body.length
  ·have cs:(k:Int)<r.body.length:=by omega
   obtain⟨L,hL⟩: ∃L,r.body[k]?=some L:=⟨_,zB bz⟩;obtain⟨b,off,rfl,hb,sa,ad,a6⟩:=aV.o k L hL;obtain⟨br,bt,rfl,c3,c2,-⟩:=id a6;have kw:Keep (fun b=>b<n) w wr:=bo.o.mt.trans (hK.mono fun b _ h=>by have:=z.o;omega);have f0:=kw.cell (ad 0 _ rfl) hb;have f1:=kw.cell (ad 1 _ rfl) hb;have f2:=kw.cell (ad 2 _ rfl) hb;have f3:=kw.cell (ad 3 _ rfl) hb;have f4:=kw.cell (ad 4 _ rfl) hb;have f5:=kw.cell (ad 5 _ rfl) hb;have f6:=kw.cell (ad 6 _ rfl) hb;simp only [Nat.add_zero]at f0;have cZ:b<wr.heap.size:=by have:=z.o;omega
   obtain⟨M,hM⟩:=ex (wr.heap.size);obtain⟨Wl,aC⟩:=ex (wr.alloc (.cells #[.int .i64 L.kind,.string L.atom.pred,.slice br L.atom.args.length bt,.bool L.left.var,.string L.left.text,.bool L.right.var,.string L.right.text] 79));have kl:wE wr Wl:=by rw [←aC];exact kAl
   have pM:Wl.heap[M]?=some (.cells #[.int .i64 L.kind,.string L.atom.pred,.slice br L.atom.args.length bt,.bool L.left.var,.string L.left.text,.bool L.right.var,.string L.right.text] 79 (0,0)):=by rw [←aC,←hM];exact qh _ _
   have zl:Wl.heap.size=M+1:=by rw [←aC,←hM];simp
   have d:=qo1 (w:=Wl) L.atom.pred (qan (qan a6 kw) kl.mt) (by have:=z.o;omega);have g0:=qb pM 0 _ rfl;have g1:=qb pM 1 _ rfl;have g2:=qb pM 2 _ rfl;have g3:=qb pM 3 _ rfl;have g4:=qb pM 4 _ rfl;have g5:=qb pM 5 _ rfl;have g6:=qb pM 6 _ rfl;have cW:=qe pM;simp only [zD]at g0 g1 g2 g3 g4 g5 g6;have bx: ∀u,vb.ownBlock=some u->u<M:=fun u g=>by have:=(zE t u g).2;omega
   obtain⟨aw,az,rfl⟩:=qi t;have aS: ∀v':Value,(ps++ [(L,v')]:List (LitD×Value)).map (·.1)=r.body.take (k+1):=fun v'=>by rw [zn,ao,zh,hL];rfl
   clear ad a6 kw hL ao;refine qk2 ?_ hK Y aD t hT af hM aC kl pM d bx aS aI;clear hK Y aD t hT af hM aC kl pM d bx aS aI;intro ba aL aM bj bc bm al bg b0 b4 q bh aX bk;go_wp2_with fail;rw [bg.o,al.o];refine q.o.mono ?_;rintro e W5 ⟨v',rfl,o5,k5⟩;obtain⟨a5,c5,rfl⟩:=qi o5;have bH:wE wr W5:=b0.o.trans k5;have ai:=k5.heap b4.o trivial;have m1:=qb ai 1 _ rfl;have m2:=qb ai 2 _ rfl;have c8:=qg ai 1;have c9:=qg ai 2;have c7:=qe ai;simp only [zD]at m1 m2;obtain⟨W6,bw⟩:=ex ((W5.setCell ⟨M,1,none⟩ (.string L.atom.pred)).setCell ⟨M,2,none⟩ (.slice a5 L.atom.args.length c5));have k6:Keep (fun b=>b≠M) W5 W6:=by rw [←bw];exact(kSc).trans (kSc)
   have y:W6.heap[M]?=some (.cells #[.int .i64 L.kind,.string L.atom.pred,.slice a5 L.atom.args.length c5,.bool L.left.var,.string L.left.text,.bool L.right.var,.string L.right.text] 79 (0,0)):=by rw [←bw];exact qaj 2 _ (qaj 1 (.string L.atom.pred) ai)
   have q0:=qb y 0 _ rfl;have q1:=qb y 1 _ rfl;have q2:=qb y 2 _ rfl;have q3:=qb y 3 _ rfl;have q4:=qb y 4 _ rfl;have q5:=qb y 5 _ rfl;have q6:=qb y 6 _ rfl;have qM:=qe y;simp only [zD]at q0 q1 q2 q3 q4 q5 q6;have ap:Keep (fun b=>b<M) wr W6:=bH.mt.trans (k6.mono fun b _ h=>wA);have aa:=ap.heap aL.o (by have:=al.o;omega);have s2:=qb aa 2 _ rfl;have cT:=qe aa;simp only [zD]at s2;have l:=qf bj.o ap (fun u g=>bh.o u g);have aE:=qf aM.o ap (fun u g=>by have:=(zE aM.o u g).2;have:=al.o;omega);have a0: ∀p,p∈ps->W6.ownsRow (N+2) 77 2 p.2 p.1.atom.args.length (qae p.1.atom.args):=fun p hp=>qf (bc.o p hp) ap (fun u g=>by have:=(zE (bc.o p hp) u g).2;have:=al.o;omega);have o6:=qf o5 k6 (fun u g=>by have:=(zE o5 u g).1;omega);obtain⟨v7,W7,a3,a2,an,g7,aj,cf,cc,c1⟩:=qc3 qlh 25 l (qap L (.slice a5 L.atom.args.length c5)) rfl (by simp [qap,Value.oneCell']) (by have:=bk.o;omega) wA;subst cf;have aK:(77:TypeId)≠79:=wD
   have a7:(79:TypeId)≠27:=wD
   have ak:(77:TypeId)≠27:=wD
   have c:=an.heap aa (fun e=>qff l aa a7 e.symm rfl);have t2:=qb c 2 _ rfl;have cH:=qg c 2;have cU:=qe c;simp only [zD]at t2;have aF:=qf aE an (fun u g=>qme aE l aK g);have a1: ∀p,p∈ps->W7.ownsRow (N+2) 77 2 p.2 p.1.atom.args.length (qae p.1.atom.args):=fun p hp=>qf (a0 p hp) an (fun u g=>qme (a0 p hp) l aK g);have o7:=qf o6 an (fun u g=>qme o6 l aK g);obtain⟨W8,s⟩:=ex (W7.setCell ⟨B,2,none⟩ (.slice (some ⟨g7,0,none⟩) (ps.length+1) aj));have k8:Keep (fun b=>b≠B) W7 W8:=by rw [←s];exact kSc
   have aO:W8.heap[B]?=some (.cells #[.string r.head.pred,.slice R r.head.args.length U,.slice (some ⟨g7,0,none⟩) (ps.length+1) aj] 27 (0,0)):=by rw [←s];exact qaj 2 _ c
   have ae:=qf aF k8 (fun u g=>qff aF c ak g);have bD:=qf a2 k8 (fun u g=>qff a2 c a7 g);have aA: ∀p,p∈ps++ [(L,Value.slice a5 L.atom.args.length c5)]->W8.ownsRow (N+2) 77 2 p.2 p.1.atom.args.length (qae p.1.atom.args):=fun p hp=>by
    rcases zr.1 hp with h |h
    ·exact qf (a1 p h) k8 (fun u g=>qff (a1 p h) c ak g)
    ·cases zm.1 h;exact(qf o7 k8 (fun u g=>qff o7 c ak g)).mono (by have:=al.o;omega)
   have bu:Keep (fun b=>b<N+2) W0 W8:=ba.o.trans ((ap.mono fun b _ (h:b<N+2)=>by have:=al.o;omega).trans ((an.mono fun b _ (h:b<N+2)=>qdu l h).trans (k8.mono fun b _ (h:b<N+2)=>wA)));have bF:W8.ownsRow (N+2) 79 7 (.slice (some ⟨g7,0,none⟩) (ps.length+1) aj) (ps++ [(L,Value.slice a5 L.atom.args.length c5)]).length ((ps++ [(L,Value.slice a5 L.atom.args.length c5)]).flatMap qdf):=by
    rw [yG,zR]
    simpa using bD
   have aT:=aX.o (.slice a5 L.atom.args.length c5);simp only [qap]at a3;clear k5 bH ai k6 y ap aa l aE a0 o5 o6 a2 an cc c aF a1 o7 k8 bD aK a7 ak;refine hd8 ?_ a3 s aO ae bF aA bu aT;clear a3 s aO ae bF aA bu aT;intro bn av aU ag bi au bb aY;go_wp2_with (at_builtin;refine qbo (v:=.slice aw ps.length az) (u:=.slice (some ⟨W6.heap.size,0,none⟩) 1 1) (v':=.slice (some ⟨g7,0,none⟩) (ps.length+1) aj) (w':=W7) rfl (.tmp 27) (.tmp 29) 25 rfl rfl rfl bn.o ?_);rw [av.o];go_roundw
   case rel=>exact⟨k+1,_,_,wA,by go_num,bb.o,aU.o,ag.o,bi.o,aY.o,au.o⟩
   case measure=>simp [intOf];omega
  ·obtain rfl:k=r.body.length:=by omega
   rw [zi]at ao;have x:=hK.heap b2.o wA;have u0:=qb x 0 _ rfl;have u1:=qb x 1 _ rfl;have u2:=qb x 2 _ rfl;have cI:=qg x 0;have cJ:=qg x 1;have cK:=qg x 2;have cX:=qe x;have v0:=qb Y 0 _ rfl;have v1:=qb Y 1 _ rfl;have v2:=qb Y 2 _ rfl;simp only [zD]at u0 u1 u2 v0 v1 v2;obtain⟨aw,az,rfl⟩:=qi t;rw [aI]at t v2;obtain⟨W8,s⟩:=ex (((wr.setCell ⟨N+1,0,none⟩ (.string r.head.pred)).setCell ⟨N+1,1,none⟩ (.slice R r.head.args.length U)).setCell ⟨N+1,2,none⟩ (.slice aw r.body.length az));have k8:Keep (fun b=>b≠N+1) wr W8:=by rw [←s];exact((kSc).trans (kSc)).trans (kSc)
   have b8:W8.heap[N+1]?=some (.cells #[.string r.head.pred,.slice R r.head.args.length U,.slice aw r.body.length az] 27 (0,0)):=by rw [←s];exact qaj 2 _ (qaj 1 _ (qaj 0 (.string r.head.pred) x))
   have w0:=qb b8 0 _ rfl;have w1:=qb b8 1 _ rfl;have w2:=qb b8 2 _ rfl;have cg:=qe b8;simp only [zD]at w0 w1 w2;have nn: ∀{base sz:Nat} {e:TypeId} {v:Value} {m:Nat} {xs:List Value},N+2<=base->wr.ownsRow base e sz v m xs-> ∀u,v.ownBlock=some u->u≠N+1:=fun hb h u g=>by have:=(zE h u g).1;omega
   have ae:=(qf aD k8 (nn (zG _) aD)).mono (show N<=N+2 from wA);have aR:=(qf t k8 (nn (zG _) t)).mono (show N<=N+2 from wA);have aA: ∀p,p∈ps->W8.ownsRow N 77 2 p.2 p.1.atom.args.length (qae p.1.atom.args):=fun p hp=>(qf (hT p hp) k8 (nn (zG _) (hT p hp))).mono (show N<=N+2 from wA);have hE:Keep (fun b=>b<N) w W8:=bo.o.mt.trans ((hK.mono fun b _ h=>wA).trans (k8.mono fun b _ h=>wA));clear bz x aD t hT k8 b8 nn aI;refine hd9 ?_ hK Y af ao s ae aR aA hE;clear hK Y af ao s ae aR aA hE;intro ba aL bm bl av ag aW au bV;go_wp2_with fail;rw [av.o];refine yA (v:=.agg #[.string r.head.pred,.slice R r.head.args.length U,.slice aw r.body.length az]) (by simp [results,Tryz.results10,go_sem,w0,w1,w2,cg]) rfl ?_;refine⟨_,_,rfl,⟨by rw [z.o];exact ag.o,ps,bl.o,by rw [z.o];exact aW.o,fun p hp=>by rw [z.o];exact au.o p hp⟩,by rw [z.o];exact bV.o⟩
def qi2 (x:ByteArray):TermD:=⟨true,x⟩
def qka (x:ByteArray):Prop:=Op.bytesLess x.toList [65]=false/\(Op.bytesLess x.toList [90] ||x.toList== [90])=true
theorem q34 {xs:List ByteArray}{k:Nat}{x:ByteArray}(h:xs[k]?=some x):(xs.take (k+1)).map qi2=(xs.take k).map qi2++ [qi2 x]:=by
 rw [zh,h,zn];rfl
theorem qvw {n:Nat}{w:World}{va:Value}{xs:List ByteArray}(pr:ByteArray)(ha:qaf n w va xs)(hn:n<=w.heap.size)(hx: ∀x,x∈xs->qka x):
  Calls prog 35 #[.string pr,va] w fun e w'=> ∃v,e=.returned (.agg #[.string pr,v])/\w'.ownsRow w.heap.size 77 2 v (xs.map qi2).length (qae (xs.map qi2))/\Keep (fun b=>b<w.heap.size) w w':=by
 obtain⟨N,hN⟩:=ex (w.heap.size);obtain⟨aa,ca,rfl,bL,bI,aO⟩:=id ha;obtain⟨W0,t⟩:=ex ((w.alloc (.cells #[.string ⟨#[]⟩,.slice none 0 0] 24)).alloc (.cells #[.string pr,.slice none 0 0] 24));have k0:wE w W0:=by rw [←t];exact kAl.trans kAl
 have z0:W0.heap.size=N+2:=by rw [←t,←hN];simp
 have p0:W0.heap[N]?=some (.cells #[.string ⟨#[]⟩,.slice none 0 0] 24 (0,0)):=by rw [←t,←hN];exact(Keep.alloc (fun _=>True) _ _).heap (qh w _) trivial
 have p1:W0.heap[N+1]?=some (.cells #[.string pr,.slice none 0 0] 24 (0,0)):=by
  rw [←t,←hN];have:=qh (w.alloc (.cells #[.string ⟨#[]⟩,.slice none 0 0] 24)) (.cells #[.string pr,.slice none 0 0] 24);rw [zO]at this;exact this
 refine hd8 ?_ ha aO hx hN t k0 p0 p1;clear ha aO hx hN t k0 p0 p1;intro bq aG a1 p aC aI a2 a3;refine qbr Tryz.func35 rfl ?_;simp only [Tryz.ntmps35,qdy,Nat.reduceAdd,Nat.reduceSub];gi_wp2;rw [aC.o,p.o];gi_loopw [6] (fun ix wr=> ∃(k:Nat) (vt:Value),k<=xs.length/\ix=.int .i64 (k:Int)/\Keep (fun b=>b<N+1) W0 wr/\wr.heap[N+1]?=some (.cells #[.string pr,vt] 24 (0,0))/\wr.ownsRow (N+2) 77 2 vt k (qae ((xs.take k).map qi2))/\N+2<=wr.heap.size) (fun i _=>xs.length-(intOf i).toNat)
 case atStart=>exact⟨0,.slice none 0 0,wA,rfl,Keep.refl _ _,a3.o,zj _ _ _ _,wA⟩
 case round=>
  obtain⟨k,vt,hk,rfl,hK,m,hO,hz⟩:=hrel;have b1:=qb m 1 _ rfl;have bz:=qe m;simp only [zD]at b1;have bJ:(0:Int)<=k:=wA
  obtain⟨g,l,rfl⟩:=qi hO;by_cases aP:k<xs.length
  ·have bh:(k:Int)<xs.length:=by omega
   obtain⟨x,ae⟩: ∃x,xs[k]?=some x:=⟨_,zB aP⟩;obtain⟨b,o,rfl,hb,hs⟩:=aG.o k x ae;have a7:=a1.o x (zH ae);obtain⟨g1,g2⟩:=a7;have aT:w.cell? ⟨b,o+k,none⟩=some (.string x):=by have:=hs;unfold qgq at this;rw [yB] at this;exact this
   have f0:=hK.cell (aI.o.cell aT wF) (show b<N+1 by have:=p.o;omega);have aU:=q34 ae;have kd:wE wr wr.drew:=kDr;obtain⟨Wd,au⟩:=ex (wr.drew);rw [au]at kd;have bM:=kd.size;have bF:N+1<Wd.heap.size:=wA
   have bG:b<Wd.heap.size:=by have:=p.o;omega
   have bH:b<wr.heap.size:=by have:=p.o;omega
   have z:=qf hO kd (fun _ _=>wF);obtain⟨v7,W7,aS,av,Y,g7,s,a9,a6,bK⟩:=qc3 qh1 22 z [.bool true,.string x] rfl (by simp [Value.oneCell']) wA wA;subst a9;have aw:(77:TypeId)≠24:=wD
   have U:=kd.heap m trivial;have c:=Y.heap U (fun e=>qff z U aw e.symm rfl);have t1:=qb c 1 _ rfl;have bu:=qg c 1;have bx:=qe c;simp only [zD]at t1;obtain⟨W8,d⟩:=ex (W7.setCell ⟨N+1,1,none⟩ (.slice (some ⟨g7,0,none⟩) (k+1) s));have k8:Keep (fun b=>b≠N+1) W7 W8:=by rw [←d];exact kSc
   have am:W8.heap[N+1]?=some (.cells #[.string pr,.slice (some ⟨g7,0,none⟩) (k+1) s] 24 (0,0)):=by rw [←d];exact qaj 1 _ c
   have aQ:=qf av k8 (fun u hu=>qff av c aw hu);have aR:W8.ownsRow (N+2) 77 2 (.slice (some ⟨g7,0,none⟩) (k+1) s) (k+1) (qae ((xs.take (k+1)).map qi2)):=by
    rw [aU,qji];exact aQ
   have aJ:Keep (fun b=>b<N+1) W0 W8:=hK.trans (kd.mt.trans ((Y.mono fun b _ (h:b<N+1)=>qdu z wA).trans (k8.mono fun b _ h=>wA)));obtain⟨Wb,ad⟩:=ex (Wd.alloc (.cells #[.bool true,.string x] 77));have kb:wE Wd Wb:=by rw [←ad];exact kAl
   have bb:N+2<=W8.heap.size:=by have:=k8.size;have:=Y.size;omega
   have R:Wd.cell? ⟨N+1,1,none⟩=some (.slice g k l)/\Wd.cell? ⟨b,o+k,none⟩=some (.string x):=⟨kd.cell b1 wF,kd.cell f0 wF⟩;have aM:Wb.cell? ⟨N+1,1,none⟩=some (.slice g k l)/\Wb.cell? ⟨b,o+k,none⟩=some (.string x):=⟨kb.cell R.1 wF,kb.cell R.2 wF⟩;have an:(Builtin.append_ #[22,22] 22 #[.slice g k l,.slice (some ⟨Wd.heap.size,0,none⟩) 1 1]).run prog Wb=.ok (.slice (some ⟨g7,0,none⟩) (k+1) s) W7:=by rw [←ad];exact aS
   have aN:W7.cell? ⟨N+1,1,none⟩=some (.slice g k l)/\W7.cell? ⟨b,o+k,none⟩=some (.string x):=⟨t1,Y.cell R.2 (qdu z (show b<N+2 by have:=p.o;omega))⟩;clear ae hs aT aU z av Y a6 U c k8 aQ aw kb aS;refine qub ?_ hK m hO au kd ad d am aR aJ R aM aN an t1;clear hK m hO au kd ad d am aR aJ R aM aN an t1;intro a0 aF bp aE br aD y aq aH ay aA aB ak ar a4;gi_wp2;refine qag ?_;refine qw rfl (fun X=>X.cell? ⟨N+1,1,none⟩=some (.slice g k l)/\X.cell? ⟨b,o+k,none⟩=some (.string x)) [22] ?_;rw [aE.o];refine qq [0,1,2,3,4,5,6,7,8,9,10,11,12,13,14,15,16,17,18] ?_
   iterate 19
    refine tkB rfl aA.o ?_
    try simp only [qr]
   refine ql ?_;refine hoR 19 rfl fun K ag=>?_;gi_wp2;rw [aD.o];refine ag.o _ _ (fun _=>aB.o) ?_;refine hoR 20 rfl fun K ah=>?_;refine qcd rfl (.tmp 16) (.tmp 34) 22 rfl rfl rfl ar.o ?_;gi_wp2;refine ah.o _ _ (fun _=>ak.o) ?_;refine hoR 21 rfl fun K ai=>?_;gi_wp2;refine ai.o _ _ (fun _=>ak.o) ?_;refine hoR 22 rfl fun K aj=>?_;have t1:=a4.o;gi_wp2;rw [y.o];refine aj.o _ _ (fun h=>absurd h wD) ?_;refine qz wB (qah ?_);clear ag ah ai aj;gi_wp2;go_roundw
   case rel=>exact⟨k+1,_,wA,by go_num,ay.o,aq.o,aH.o,bb⟩
   case measure=>simp [intOf];omega
  ·obtain rfl:k=xs.length:=by omega
   rw [zi]at hO;have q:=hK.heap a2.o wA;have u0:=qb q 0 _ rfl;have u1:=qb q 1 _ rfl;have bv:=qg q 0;have bw:=qg q 1;have bD:=qe q;have b0:=qb m 0 _ rfl;simp only [zD]at u0 u1 b0;obtain⟨W8,d⟩:=ex ((wr.setCell ⟨N,0,none⟩ (.string pr)).setCell ⟨N,1,none⟩ (.slice g xs.length l));have k8:Keep (fun b=>b≠N) wr W8:=by rw [←d];exact(kSc).trans (kSc)
   have b8:W8.heap[N]?=some (.cells #[.string pr,.slice g xs.length l] 24 (0,0)):=by rw [←d];exact qaj 1 _ (qaj 0 (.string pr) q)
   have w0:=qb b8 0 _ rfl;have w1:=qb b8 1 _ rfl;have ba:=qe b8;simp only [zD]at w0 w1;have aL:=(qf hO k8 (fun u hu=>by have:=(zE hO u hu).1;omega)).mono (show N<=N+2 from wA);have hE:Keep (fun b=>b<N) w W8:=aI.o.mt.trans ((hK.mono fun b _ h=>wA).trans (k8.mono fun b _ h=>wA));clear aP q hO k8 b8;refine hd5 ?_ hK m d aL hE;clear hK m d aL hE;intro a0 aF y az aZ;gi_wp2;rw [y.o];refine yA (v:=.agg #[.string pr,.slice g xs.length l]) (by simp [results,Tryz.results35,go_sem,w0,w1,ba]) rfl ?_;refine⟨_,rfl,by rw [p.o,zL];exact az.o,by rw [p.o];exact aZ.o⟩
theorem qmf {w:World}{B t:Nat}{xs:List ByteArray}(h:w.heap[B]?=some (.cells (xs.map Value.string).toArray t (0,0)))(b:xs.length<=1073741824):qaf (B+1) w (.slice (some ⟨B,0,none⟩) xs.length xs.length) xs:=
 ⟨_,_,rfl,b,⟨zG _,by unfold maxLen;omega⟩,fun k x c=>⟨B,0,rfl,wA,by
  have:=qb h k (.string x) (by rw [zP,c];rfl);unfold qgq;rw [yB];exact this⟩⟩
def bX:ByteArray:=⟨#[88]⟩
def bY:ByteArray:=⟨#[89]⟩
def bZ:ByteArray:=⟨#[90]⟩
def bT:ByteArray:=⟨#[116]⟩
def bE:ByteArray:=⟨#[101]⟩
def noT:TermD:=⟨false,⟨#[]⟩⟩
def qho:RuleD:=⟨⟨bT,[qi2 bX,qi2 bZ]⟩,[⟨1,⟨bE,[qi2 bX,qi2 bY]⟩,noT,noT⟩,⟨1,⟨bE,[qi2 bY,qi2 bZ]⟩,noT,noT⟩]⟩
theorem qyq:qka bX:=by unfold qka;rw [ByteArray.toList_eq];decide
theorem qyr:qka bY:=by unfold qka;rw [ByteArray.toList_eq];decide
theorem qys:qka bZ:=by unfold qka;rw [ByteArray.toList_eq];decide
theorem q8q (w:World):Calls prog 56 #[] w fun e w'=> ∃vh vb,e=.returned (qaq qho vh vb)/\RuleIn w'.heap.size w' vh vb qho/\Keep (fun b=>b<w.heap.size) w w':=by
 obtain⟨N,hN⟩:=ex (w.heap.size);obtain⟨W0,p⟩:=ex (w.alloc (.cells #[.string ⟨#[]⟩,.slice none 0 0,.slice none 0 0] 27));have k0:wE w W0:=by rw [←p];exact kAl
 have p0:W0.heap[N]?=some (.cells #[.string ⟨#[]⟩,.slice none 0 0,.slice none 0 0] 27 (0,0)):=by rw [←p,←hN];exact qh _ _
 have z0:W0.heap.size=N+1:=by rw [←p,←hN];simp
 obtain⟨W1,q⟩:=ex (W0.alloc (.cells #[.string ⟨#[88]⟩,.string ⟨#[90]⟩] 9));have k1:wE W0 W1:=by rw [←q];exact kAl
 have p1:W1.heap[N+1]?=some (.cells #[.string ⟨#[88]⟩,.string ⟨#[90]⟩] 9 (0,0)):=by rw [←q,←z0];exact qh _ _
 have z1:W1.heap.size=N+2:=by rw [←q];simp [z0]
 have aA:=qvw (w:=W1) bT (qmf (xs:= [bX,bZ]) p1 wC) wA (fun x hx=>by
  simp at hx;rcases hx with rfl |rfl
  ·exact qyq
  ·exact qys)
 refine hd8 ?_ hN p k0 p0 q k1 p1 aA;clear hN p k0 p0 q k1 p1 aA;intro al am aU aX an aV bn ar
 go_enter Tryz.func56,Tryz.ntmps56
 go_wp2_with fail;rw [am.o,an.o,al.o];refine ar.o.mono ?_;rintro e W2 ⟨v1,rfl,o1,k2⟩;obtain⟨a1,c1,rfl⟩:=qi o1;have bv:=k2.size;have aW:=zg k2;have af:=zg o1;clear k2 o1;obtain⟨M3,z⟩: ∃M,W2.heap.size=M:=⟨_,rfl⟩;obtain⟨W3,s⟩: ∃W,W2.alloc (.cells #[.string ⟨#[88]⟩,.string ⟨#[89]⟩] 9)=W:=⟨_,rfl⟩;have aF:wE W2 W3:=by rw [←s];exact kAl
 have p3:W3.heap[M3]?=some (.cells #[.string ⟨#[88]⟩,.string ⟨#[89]⟩] 9 (0,0)):=by rw [←s,←z];exact qh _ _
 have bt:W3.heap.size=M3+1:=by rw [←s,←z];simp
 have aB:=qvw (w:=W3) bE (qmf (xs:= [bX,bY]) p3 wC) wA (fun x hx=>by
  simp at hx;rcases hx with rfl |rfl
  ·exact qyq
  ·exact qyr)
 refine hd5 ?_ z s aF p3 aB;clear z s aF p3 aB;intro d ao ab bo au;go_wp2_with fail;rw [ao.o,d.o];refine au.o.mono ?_;rintro e W4 ⟨v3,rfl,o3,k4⟩;obtain⟨a3,c3,rfl⟩:=qi o3;have bw:=k4.size;have aw:=zg k4;have ag:=zg o3;clear k4 o3;obtain⟨M5,R⟩: ∃M,W4.heap.size=M:=⟨_,rfl⟩;obtain⟨W5,t⟩: ∃W,W4.alloc (.cells #[.string ⟨#[89]⟩,.string ⟨#[90]⟩] 9)=W:=⟨_,rfl⟩;have aG:wE W4 W5:=by rw [←t];exact kAl
 have p5:W5.heap[M5]?=some (.cells #[.string ⟨#[89]⟩,.string ⟨#[90]⟩] 9 (0,0)):=by rw [←t,←R];exact qh _ _
 have bu:W5.heap.size=M5+1:=by rw [←t,←R];simp
 have aC:=qvw (w:=W5) bE (qmf (xs:= [bY,bZ]) p5 wC) wA (fun x hx=>by
  simp at hx;rcases hx with rfl |rfl
  ·exact qyr
  ·exact qys)
 refine hd5 ?_ R t aG p5 aC;clear R t aG p5 aC;intro g ap m bp av;go_wp2_with fail;rw [ap.o,g.o];refine av.o.mono ?_;rintro e W6 ⟨v5,rfl,o5,k6⟩;obtain⟨a5,c5,rfl⟩:=qi o5;have bx:=k6.size;have ae:=zg k6;have ax:=zg o5;clear k6 o5;obtain⟨y,az⟩: ∃M,W6.heap.size=M:=⟨_,rfl⟩;obtain⟨W7,ah⟩: ∃W,W6.alloc (.cells #[.int .i64 1,.string bE,.slice a3 2 c3,.bool false,.string ⟨#[]⟩,.bool false,.string ⟨#[]⟩,.int .i64 1,.string bE,.slice a5 2 c5,.bool false,.string ⟨#[]⟩,.bool false,.string ⟨#[]⟩] 79)=W:=⟨_,rfl⟩;have k7:wE W6 W7:=by rw [←ah];exact kAl
 have p7:W7.heap[y]?=some (.cells #[.int .i64 1,.string bE,.slice a3 2 c3,.bool false,.string ⟨#[]⟩,.bool false,.string ⟨#[]⟩,.int .i64 1,.string bE,.slice a5 2 c5,.bool false,.string ⟨#[]⟩,.bool false,.string ⟨#[]⟩] 79 (0,0)):=by rw [←ah,←az];exact qh _ _
 have z7:W7.heap.size=y+1:=by rw [←ah,←az];simp
 have kN:Keep (fun b=>b<N+1) W0 W7:=aV.o.mt.trans ((aW.o.mono fun b _ h=>wA).trans (ab.o.mt.trans ((aw.o.mono fun b _ h=>wA).trans (m.o.mt.trans ((ae.o.mono fun b _ h=>wA).trans k7.mt)))));have pN:=kN.heap aX.o wA;have d0:=qb pN 0 _ rfl;have d1:=qb pN 1 _ rfl;have d2:=qb pN 2 _ rfl;have f0:=qg pN 0;have f1:=qg pN 1;have f2:=qg pN 2;have lN:=qe pN;simp only [zD]at d0 d1 d2;obtain⟨W8,U⟩: ∃W,((W7.setCell ⟨N,0,none⟩ (.string bT)).setCell ⟨N,1,none⟩ (.slice a1 2 c1)).setCell ⟨N,2,none⟩ (.slice (some ⟨y,0,none⟩) 2 2)=W:=⟨_,rfl⟩;have k8:Keep (fun b=>b≠N) W7 W8:=by rw [←U];exact((kSc).trans (kSc)).trans (kSc)
 have b8:W8.heap[N]?=some (.cells #[.string bT,.slice a1 2 c1,.slice (some ⟨y,0,none⟩) 2 2] 27 (0,0)):=by rw [←U];exact qaj 2 _ (qaj 1 _ (qaj 0 (.string bT) pN))
 have w0:=qb b8 0 _ rfl;have w1:=qb b8 1 _ rfl;have w2:=qb b8 2 _ rfl;have a0:=qe b8;simp only [zD]at w0 w1 w2;have z8:=k8.size;have aH:=qf (qf af.o ((ab.o.mt.trans ((aw.o.mono fun b _ (h:b<W2.heap.size)=>by have:=d.o;omega).trans (m.o.mt.trans ((ae.o.mono fun b _ h=>by have:=d.o;have:=g.o;omega).trans k7.mt))))) (fun u Y=>(zE af.o u Y).2)) k8 (fun u Y=>by have:=(zE af.o u Y).1;omega);have aI:=qf (qf ag.o ((m.o.mt.trans ((ae.o.mono fun b _ (h:b<W4.heap.size)=>by have:=g.o;omega).trans k7.mt))) (fun u Y=>(zE ag.o u Y).2)) k8 (fun u Y=>by have:=(zE ag.o u Y).1;have:=d.o;omega);have aJ:=qf (qf ax.o k7 (fun _ _=>wF)) k8 (fun u Y=>by have:=(zE ax.o u Y).1;have:=d.o;have:=g.o;omega);have l:=k8.heap p7 (show y≠N by have:=d.o;have:=g.o;omega);have hE:Keep (fun b=>b<N) w W8:=aU.o.mt.trans ((kN.mono fun b _ h=>wA).trans (k8.mono fun b _ h=>wA));have hR:RuleIn W8.heap.size W8 (.slice a1 2 c1) (.slice (some ⟨y,0,none⟩) 2 2) qho:=by
  refine⟨qf3 aH rfl wD,some ⟨y,0,none⟩,2,rfl,by simp [qho],by simp [qho,maxLen],fun k x hk=>⟨y,0,rfl,wA,?_⟩⟩
  match k,hk with
  |0,hk=>
   cases hk;refine⟨.slice a3 2 c3,fun j v c=>?_,qf3 aI rfl wD⟩
   match j,c with
   |0,c=>cases c;exact qb l 0 _ rfl
   |1,c=>cases c;exact qb l 1 _ rfl
   |2,c=>cases c;exact qb l 2 _ rfl
   |3,c=>cases c;exact qb l 3 _ rfl
   |4,c=>cases c;exact qb l 4 _ rfl
   |5,c=>cases c;exact qb l 5 _ rfl
   |6,c=>cases c;exact qb l 6 _ rfl
  |1,hk=>
   cases hk;refine⟨.slice a5 2 c5,fun j v c=>?_,qf3 aJ rfl wD⟩
   match j,c with
   |0,c=>cases c;exact qb l 7 _ rfl
   |1,c=>cases c;exact qb l 8 _ rfl
   |2,c=>cases c;exact qb l 9 _ rfl
   |3,c=>cases c;exact qb l 10 _ rfl
   |4,c=>cases c;exact qb l 11 _ rfl
   |5,c=>cases c;exact qb l 12 _ rfl
   |6,c=>cases c;exact qb l 13 _ rfl
 clear k7 p7 kN pN k8 b8 aH aI aJ l;refine hd3 ?_ U hE hR;clear U hE hR;intro aq aS aT;go_wp2_with fail;rw [aq.o];refine yA (v:=.agg #[.string bT,.slice a1 2 c1,.slice (some ⟨y,0,none⟩) 2 2]) (by simp [results,Tryz.results56,go_sem,w0,w1,w2,a0]) rfl ?_;exact⟨_,_,rfl,aT.o,by rw [al.o];exact aS.o⟩
end Go.Proofs
namespace Go.Proofs
open Go.RowKit Go.Ink Go.Flt R4 P16
def ApartV (v u:Value):Prop:= ∀b,v.ownBlock=some b->u.ownBlock≠some b
theorem ApartV.symm {v u:Value}(h:ApartV v u):ApartV u v:=fun b c d=>h b d c
structure MqsAt (P:Nat->Prop)(w:World)(v:Value)(qs:List MQ):Prop where
 own:w.ownsRow 0 122 2 v qs.length (qs.flatMap qad)
 blk: ∀b,v.ownBlock=some b->P b
 rows: ∀q,q∈qs->w.ownsRow 0 9 1 q.2.1 q.1.head.length (q.1.head.map .string)/\w.ownsRow 0 9 1 q.2.2 q.1.vals.length (q.1.vals.map .string)
 blks: ∀q,q∈qs->(∀b,q.2.1.ownBlock=some b->P b)/\ ∀b,q.2.2.ownBlock=some b->P b
 apart:(qs.flatMap qad).Pairwise ApartV
theorem MqsAt.keep {P P' C:Nat->Prop}{w w':World}{v:Value}{g:List MQ}(h:MqsAt P w v g)(hK:Keep C w w')(e: ∀b,b<w.heap.size->P b->C b/\P' b):MqsAt P' w' v g:=
 ⟨qf h.own hK (fun b c=>(e b (zE h.own b c).2 (h.blk b c)).1),fun b c=>(e b (zE h.own b c).2 (h.blk b c)).2,
  fun q d=>⟨qf (h.rows q d).1 hK (fun b c=>(e b (zE (h.rows q d).1 b c).2 ((h.blks q d).1 b c)).1),qf (h.rows q d).2 hK (fun b c=>(e b (zE (h.rows q d).2 b c).2 ((h.blks q d).2 b c)).1)⟩,
  fun q d=>⟨fun b c=>(e b (zE (h.rows q d).1 b c).2 ((h.blks q d).1 b c)).2,fun b c=>(e b (zE (h.rows q d).2 b c).2 ((h.blks q d).2 b c)).2⟩,h.apart⟩
theorem q8r {P:Nat->Prop}(w:World):MqsAt P w (.slice none 0 0) []:=
 ⟨zj _ _ _ _,fun b d=>(by simp [Value.ownBlock] at d),fun q c=>(by cases c),fun q c=>(by cases c),.nil⟩
theorem MqsAt.lt {P:Nat->Prop}{w:World}{v:Value}{g:List MQ}(h:MqsAt P w v g): ∀x,x∈g.flatMap qad-> ∀b,x.ownBlock=some b->b<w.heap.size:=fun x c b d=>by
 obtain⟨q,e,c⟩:=xD.1 c;unfold qad at c;simp only [zw,yS,yf]at c;rcases c with rfl |rfl
 ·exact(zE (h.rows q e).1 b d).2
 ·exact(zE (h.rows q e).2 b d).2
theorem MqsAt.mq {P:Nat->Prop}{w:World}{v:Value}{b:List MQ}(h:MqsAt P w v b)(e:b.length<=1073741824)(d: ∀q,q∈b->q.1.head.length<=1073741824/\q.1.vals.length<=1073741824):q0v w.heap.size w v b/\ ∀q,q∈b->MqOk w.heap.size w q:=
 ⟨qvu h.own rfl e,fun q c=>⟨qbj (h.rows q c).1 (d q c).1,qbj (h.rows q c).2 (d q c).2⟩⟩
theorem MqsAt.perm {P P':Nat->Prop}{w w':World}{v v':Value}{l c:List MQ}{base:Nat}{C:Nat->Prop}(h:MqsAt P w v l)(hK:Keep C w w')(m: ∀b,b<w.heap.size->P b->C b/\P' b)(ho:w'.ownsRow base 122 2 v' c.length (c.flatMap qad))(p: ∀b,base<=b->P' b)(e:c.Perm l):MqsAt P' w' v' c:=by
 have d:=h.keep hK m;exact⟨ho.mono (ya _),fun b s=>p b (zE ho b s).1,fun q g=>d.rows q (e.mem_iff.1 g),fun q g=>d.blks q (e.mem_iff.1 g),
  (List.Perm.pairwise_iff (fun h=>ApartV.symm h) (e.flatMap_right qad)).2 d.apart⟩
theorem MqsAt.snoc {P:Nat->Prop}{w:World}{v:Value}{l:List MQ}(h:MqsAt P w v l){m:qac}{vh vv:Value}{n:Nat}(R:w.ownsRow n 9 1 vh m.head.length (m.head.map .string))(U:w.ownsRow n 9 1 vv m.vals.length (m.vals.map .string))
  (ab: ∀b,vh.ownBlock=some b->P b) (ad: ∀b,vv.ownBlock=some b->P b) (hd: ∀b,vh.ownBlock=some b->vv.ownBlock≠some b) (hold: ∀x,x∈l.flatMap qad-> ∀b,x.ownBlock=some b->b<n) (hl:l.length<=1073741824) (Y: ∀b,w.heap.size<=b->P b):
  ∃a c g cap W',v=.slice a l.length c/\(Builtin.append_ #[49,49] 49 #[v,.slice (some ⟨w.heap.size,0,none⟩) 1 1]).run prog (w.alloc (.cells #[vh,vv] 122))=.ok (.slice (some ⟨g,0,none⟩) (l.length+1) cap) W'/\
   MqsAt P W' (.slice (some ⟨g,0,none⟩) (l.length+1) cap) (l++ [(m,vh,vv)])/\Keep (fun b=>v.ownBlock≠some b) w W':=by
 obtain⟨v3,Y3,ag,af,s,gb,cap,ah,ae,al⟩:=qc3 (P:=prog) qvs 49 h.own [vh,vv] rfl (by obtain⟨a,c,rfl⟩:=qi R;obtain⟨a,c,rfl⟩:=qi U;simp [Value.oneCell']) wA (ya _);subst ah;obtain⟨a,c,hv⟩:=qi h.own;refine⟨a,c,gb,cap,Y3,hv,ag,⟨?_,fun b p=>?_,fun q d=>?_,fun q d=>?_,?_⟩,s.mono fun b _ h e=>h e.symm⟩
 ·rw [zR,length_singleton,yG];exact af
 ·have aa:gb=b:=by simpa [Value.ownBlock] using p
  subst aa;rcases ae with hg |hg
  ·exact h.blk _ hg
  ·exact Y _ hg
 ·have key: ∀{x:Value} {t:List ByteArray} {base:Nat},w.ownsRow base 9 1 x t.length (t.map .string)->Y3.ownsRow 0 9 1 x t.length (t.map .string):=fun z=>(qf z s (fun b p e=>qc4 z h.own wD p e.symm)).mono (ya _);rcases zr.1 d with d |d
  ·exact⟨key (h.rows q d).1,key (h.rows q d).2⟩
  ·rw [zm.1 d];exact⟨key R,key U⟩
 ·rcases zr.1 d with d |d
  ·exact h.blks q d
  ·rw [zm.1 d];exact⟨ab,ad⟩
 ·rw [yG,pairwise_append];refine⟨h.apart,?_,fun x z y hy b p u=>?_⟩
  ·show [vh,vv].Pairwise ApartV;rw [pairwise_pair];exact hd
  ·have h3:=hold x z b p;have ai:y=vh∨y=vv:=by simpa [qad] using hy
   rcases ai with rfl |rfl
   ·have:=(zE R b u).1;omega
   ·have:=(zE U b u).1;omega
structure GWay (n0:Nat)(g:Gh)(w:World)(γ:Gh)(X:World):Prop where
 keep:Keep g.free w X
 new: ∀b,b<w.heap.size->g.free b->γ.free b
 held: ∀b,b<n0->γ.held b=g.held b
 st:γ.st=g.st
theorem GWay.refl {n0:Nat}{g:Gh}{w X:World}(h:wE w X):GWay n0 g w g X:=⟨h.mt,fun _ _ h=>h,fun _ _=>rfl,rfl⟩
theorem GWay.stay {n0:Nat}{g γ:Gh}{w X Y:World}{C:Nat->Prop}(h:GWay n0 g w γ X)(hK:Keep C X Y)(d: ∀b,b<w.heap.size->C b):GWay n0 g w γ Y:=
 ⟨⟨hK.os.trans h.keep.os,hK.tape.trans h.keep.tape,hK.output.trans h.keep.output,zW h.keep.size hK.size,fun k c e=>(hK.block k (zk c h.keep.size) (d k c)).trans (h.keep.block k c e)⟩,h.new,h.held,h.st⟩
theorem GWay.step {n0:Nat}{Ss:List Nat}{g γ m:Gh}{w X Y:World}(h:GWay n0 g w γ X)(c:(qb7 n0 Ss).istep γ X m Y):GWay n0 g w m Y:=
 ⟨⟨c.1.keep.os.trans h.keep.os,c.1.keep.tape.trans h.keep.tape,c.1.keep.output.trans h.keep.output,zW h.keep.size c.1.keep.size,fun k l e=>(c.1.keep.block k (zk l h.keep.size) (h.new k l e)).trans (h.keep.block k l e)⟩,
  fun b d e=>c.1.new b (zk d h.keep.size) (h.new b d e),fun b d=>(c.1.held b d).trans (h.held b d),c.2.trans h.st⟩
theorem GWay.gstep {n0:Nat}{g γ:Gh}{w X:World}(h:GWay n0 g w γ X)(hi:GInv γ X):GStep n0 g w γ X:=
 ⟨h.keep,fun S c b=>⟨[],by rw [yP,h.st];exact b⟩,h.new,h.held,hi⟩
theorem qdm {g:Gh}{w:World}(h:GInv g w){b:Nat}(c:w.heap.size<=b):g.free b:=by
 refine⟨?_,?_⟩
 ·cases e:g.tag b with
  |none=>rfl
  |some T=>have:=h.lt b T e;omega
 ·cases e:g.held b with
  |none=>rfl
  |some o=>have:=qe (h.hold b o e);omega
end Go.Proofs
