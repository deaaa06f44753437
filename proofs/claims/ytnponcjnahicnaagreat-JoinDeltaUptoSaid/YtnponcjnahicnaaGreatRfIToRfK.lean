/- Parts of the proof. -/
import Derived.Test.YtnponcjnahicnaaGreatRfEToRfH
set_option linter.unusedSimpArgs false
set_option linter.unusedVariables false
set_option maxRecDepth 100000
set_option maxHeartbeats 4000000
open Go.Proofs.Tryz(prog)
open List(flatten_append getElem?_mapIdx length_cons length_mapIdx map_drop map_take perm_append_singleton perm_middle set_append_right)
namespace Go.Proofs
open Go.RowKit Go.Ink Go.Flt R4 P16
attribute [local go_sem] Oper.semAt_some
def qdy (p:qk×Value):List Value:= [.string p.1.pred,p.2]
theorem qvr:qcj prog 28 52 2 40:=qc2 (z:=.agg #[.string ⟨#[]⟩,.slice none 0 0]) wD wD rfl wF wF
abbrev qq6 (n:Nat)(w:World)(v:Value)(ps:List (qk×Value)):Prop:=SliceIn n w 2 (fun w b o p=>CellsE w b o (qdy p)) v ps
theorem qxo {n:Nat}{w:World}{v:Value}{fs:List qk}(h:FactsIn n w v fs): ∃ps:List (qk×Value),ps.map (·.1)=fs/\qq6 n w v ps/\ ∀p,p∈ps->qac n w p.2 p.1.tuple:=by
 obtain⟨a,c,hv,U,Y,x⟩:=h;have m: ∀k,∃s,∀f,fs[k]?=some f-> ∃b o,a=some ⟨b,o,none⟩/\b<n/\CellsE w b (o+k*2) [.string f.pred,s]/\qac n w s f.tuple:=fun k=>by
  cases t:fs[k]? with
  |none=>exact⟨.nilFunc,fun f h=>by cases h⟩
  |some f=>
   obtain⟨b,o,e,r,s,d,q⟩:=x k f t;exact⟨s,fun f' h=>by cases h;exact⟨b,o,e,r,d,q⟩⟩
 obtain⟨g,z⟩: ∃g:Nat->Value,∀k f,fs[k]?=some f-> ∃b o,a=some ⟨b,o,none⟩/\b<n/\CellsE w b (o+k*2) [.string f.pred,g k]/\qac n w (g k) f.tuple:=⟨fun k=>Classical.choose (m k),fun k=>Classical.choose_spec (m k)⟩;have l: ∀(k:Nat) (p:qk×Value),(fs.mapIdx fun k f=>(f,g k))[k]?=some p->fs[k]?=some p.1/\p.2=g k:=fun k p h=>by
  rw [getElem?_mapIdx]at h;obtain⟨f,X,x⟩:=xQ.1 h;subst x;exact⟨X,rfl⟩
 refine⟨fs.mapIdx fun k f=>(f,g k),?_,⟨a,c,by rw [length_mapIdx];exact hv,by rw [length_mapIdx];exact U,by rw [length_mapIdx];exact Y,fun k p u=>?_⟩,fun p u=>?_⟩
 ·refine xZ fun k=>?_;rw [zP,getElem?_mapIdx];cases fs[k]?<;>rfl
 ·obtain⟨d,q⟩:=l k p u;obtain⟨b,o,e,r,y,R⟩:=z k _ d;exact⟨b,o,e,r,by rw [←q] at y;exact y⟩
 ·obtain⟨k,t⟩:=zy.1 u;obtain⟨d,q⟩:=l k p t;obtain⟨b,o,e,r,y,R⟩:=z k _ d;rw [q];exact R
theorem qq7 {m:Nat}{w:World}{a:Option Addr}{c:Nat}{ps:List (qk×Value)}(h:qq6 m w (.slice a ps.length c) ps):(∀b,a=some b-> ∀j u,(ps.flatMap qdy)[j]?=some u->w.cell? (b.add j)=some u)/\(a=none->ps.length=0):=
 qvq (E:=fun w b o p=>CellsE w b o (qdy p)) (f:=qdy) (fun _=>rfl) h fun b o x d j u e=>d j u e
theorem q3m {n:Nat}{w:World}{base:Nat}{e:TypeId}{v:Value}{k:Nat}{ps:List (qk×Value)}(h:w.ownsRow base e 2 v k (ps.flatMap qdy))(y:k=ps.length)(x:ps.length<=1073741824)(t:n<=w.heap.size)(hT: ∀p,p∈ps->qac n w p.2 p.1.tuple):FactsIn w.heap.size w v (ps.map (·.1)):=by
 have hA:qq6 w.heap.size w v ps:=qdb h ps y x _ fun b i p d q=>fun j u s=>by
  have l:j<2:=by
   have:=(zA.1 s).1
   simpa [qdy]using this
  have hi:=qbj qdy 2 (fun _=>rfl) _ i j p d l;have:=q j l;rw [hi,s]at this;exact this
 obtain⟨a,c,R,z,q,U⟩:=hA;refine⟨a,c,by rw [zL];exact R,by rw [zL];exact z,by rw [zL];exact q,fun i f g=>?_⟩;rw [zP]at g;cases d:ps[i]? with
 |none=>rw [d] at g;cases g
 |some p=>
  rw [d]at g;cases g;obtain⟨b,o,X,r,m⟩:=U i p d;exact⟨b,o,X,r,p.2,m,qb2 (hT p (zH d)) t⟩
def qzn (n:Nat)(w:World)(b o:Nat)(fs:List qk):Prop:= ∃v,w.cell? ⟨b,o,none⟩=some v/\FactsIn n w v fs
theorem q3n {n m:Nat}{v:Value}{ls:List (List qk)}{w:World}(hl:SliceIn m w 1 (qzn n) v ls)(hn:n<=m)(hm:m<=w.heap.size)(aK:ls.flatten.length<=1073741824):
  Calls prog 21 #[v] w fun e w'=> ∃v',e=.returned v'/\Keep (fun b=>b<w.heap.size) w w'/\FactsIn w'.heap.size w' v' ls.flatten:=by
 obtain⟨al,cl,rfl,a6,aZ,ao⟩:=id hl;have ad: ∀k,(ls.take k).flatten.length<=ls.flatten.length:=fun k=>by
  conv=>rhs;rw [←yy k ls,flatten_append,zR]
  omega
 refine hd3 ?_ hl ao ad;clear hl ao ad;intro a4 ae r
 go_enter Tryz.func21,Tryz.ntmps21
 go_wp2_with fail
 go_loopw [3,4] (fun v3 ix wr=> ∃(k:Nat) (ps:List (qk×Value)),k<=ls.length/\ix=.int .i64 (k:Int)/\Keep (fun b=>b<w.heap.size) w wr/\ps.map (·.1)=(ls.take k).flatten/\(∀p,p∈ps->qac n w p.2 p.1.tuple)/\wr.ownsRow w.heap.size 52 2 v3 ps.length (ps.flatMap qdy)) (fun _ i _=>ls.length-(intOf i).toNat)
 case atStart=>exact⟨0,[],wC,rfl,Keep.refl _ _,rfl,fun p h=>(by cases h),zj _ _ _ _⟩
 case round=>
  obtain⟨k,ps,hk,rfl,hK,c,hT,s⟩:=hrel;have aH:=hK.size;have aT:(0:Int)<=k:=wC
  obtain⟨a3,c3,rfl⟩:=qj s;have aE:ps.length<=1073741824:=by
   have X:=yO List.length c;rw [zL]at X;have h2:=r.o k;omega
  by_cases ag:k<ls.length
  ·have aL:(k:Int)<ls.length:=by omega
   obtain⟨fs,t⟩: ∃fs,ls[k]?=some fs:=⟨_,zB ag⟩;obtain⟨b,o,rfl,hb,vf,am,ak⟩:=ae.o k fs t;obtain⟨d,x,y,z⟩:=qxo ak;obtain⟨aq,cq,rfl,aQ,aR,az⟩:=id y;have f0:=hK.cell am (show b<w.heap.size from wC);simp only [yB]at f0;have aW:b<wr.heap.size:=wC
   have kn:Keep (fun b=>b<n) w wr:=hK.mono fun b _ h=>wC
   have g:qq6 n wr (.slice aq d.length cq) d:=y.mono fun b o p hb h=>fun j u hj=>kn.cell (h j u hj) hb;have l:(ls.take (k+1)).flatten=(ls.take k).flatten++fs:=by rw [zh,t,flatten_append];simp
   have aF:ps.length+d.length<=1073741824:=by
    have X:=yO List.length c;have h3:=yO List.length x;have h2:=r.o (k+1);rw [l,zR]at h2;rw [zL]at X h3;omega
   obtain⟨v',W5,aa,R,ar,ab⟩:=qhz (P:=prog) qvr 28 s aq d.length cq (d.flatMap qdy) (qa4 qdy 2 (fun _=>rfl) _) (qq7 g).1 (qq7 g).2 (fun u Y=>by
    obtain⟨p,hp,Y⟩:=xF.1 Y;obtain⟨ax,cx,hx,-,-,-⟩:=z p hp;unfold qdy at Y;rw [hx]at Y;simp at Y;rcases Y with rfl |rfl<;>simp [Value.oneCell']) wC wC
   obtain⟨a5,c5,rfl⟩:=qj R;have kW:=hK.trans (ab.mono fun b _ (h:b<w.heap.size) e=>by
    rcases ar b e with X |X
    ·exact qd4 s h X.symm
    ·omega)
   have au:W5.ownsRow w.heap.size 52 2 (.slice a5 (ps.length+d.length) c5) (ps++d).length ((ps++d).flatMap qdy):=by
    rw [yG,zR];exact R
   have q:(ps++d).map (·.1)=(ls.take (k+1)).flatten:=by rw [zn,c,x,l]
   have ah: ∀p,p∈ps++d->qac n w p.2 p.1.tuple:=fun p hp=>by
    rcases zr.1 hp with h |h
    ·exact hT p h
    ·exact z p h
   clear c hT t am ak x y z az kn g l ar ab R;refine hd7 ?_ hK s aa kW au q ah;clear hK s aa kW au q ah;intro ap av af aA aj U an;go_wp2_with (at_builtin;refine qbu (v:=.slice a3 ps.length c3) (u:=.slice aq d.length cq) (v':=.slice a5 (ps.length+d.length) c5) (w':=W5) rfl (.tmp 11) (.tmp 15) 28 rfl rfl rfl af.o ?_);go_roundw
   case rel=>exact⟨k+1,ps++d,wC,by go_num,aA.o,U.o,an.o,aj.o⟩
   case measure=>simp [intOf];omega
  ·obtain rfl:k=ls.length:=by omega
   rw [zi]at c;have hF:=q3m (n:=n) s rfl aE wC (fun p hp=>qan (hT p hp) (hK.mono fun b _ h=>wC));rw [c]at hF;clear ag c hT;refine hd3 ?_ hK s hF;clear hK s hF;intro ap av aD;go_wp2_with fail;go_ret;exact⟨_,rfl,ap.o,aD.o⟩
abbrev MQ:=qa0×Value×Value
def qau (q:MQ):List Value:= [q.2.1,q.2.2]
def MqOk (n:Nat)(w:World)(q:MQ):Prop:=qac n w q.2.1 q.1.head/\qac n w q.2.2 q.1.vals
theorem MqOk.keep {n:Nat}{w w':World}{q:MQ}(h:MqOk n w q)(hK:Keep (fun k=>k<n) w w'):MqOk n w' q:=⟨qan h.1 hK,qan h.2 hK⟩
theorem qvs:qcj prog 41 48 2 48:=qc2 (z:=.agg #[.slice none 0 0,.slice none 0 0]) wD wD rfl wF wF
theorem qvt {a b:List ByteArray}:qgs a b<0↔ltR a b=true:=by
 unfold qgs;by_cases h:ltR a b=true
 ·rw [zI h];simp [h]
 ·rw [zF h];by_cases c:ltR b a=true
  ·rw [zI c];simp [h]
  ·rw [zF c];simp [h]
theorem q54 {m:qa0}: ∀{l:List qa0} {k:Nat},(∀j x,j<k->l[j]?=some x->ltR x.vals m.vals=true)->(∀x,l[k]?=some x->ltR x.vals m.vals=false)->qdd l m=l.take k++m::l.drop k:=by
 intro l
 induction l with
 |nil=>intro k _ _;simp [qdd]
 |cons x xs ih=>
  intro k c d;cases k with
  |zero=>
   have:=d x rfl;unfold qdd;rw [zF (by rw [this];simp)]
   rfl
  |succ k=>
   have:=c 0 x wC rfl;unfold qdd;rw [zI this,ih (fun j y e b=>c (j+1) y wC b) (fun y b=>d y b)]
   rfl
theorem q3o (A C:List MQ)(x y:MQ):(((A++x::C).flatMap qau).set (A.length*2) y.2.1).set (A.length*2+1) y.2.2=(A++y::C).flatMap qau:=by
 rw [yG,yG,set_append_right _ _ (by rw [qa4 qau 2 (fun _=>rfl)];omega),qa4 qau 2 (fun _=>rfl),set_append_right _ _ (by rw [qa4 qau 2 (fun _=>rfl)];omega),qa4 qau 2 (fun _=>rfl)]
 congr 1
 rw [show A.length*2-A.length*2=0 from wC,show A.length*2+1-A.length*2=1 from wC]
 rfl
abbrev q0j (n:Nat)(w:World)(v:Value)(qs:List MQ):Prop:=SliceIn n w 2 (fun w b o q=>CellsE w b o (qau q)) v qs
theorem qq8 {w:World}{base:Nat}{e:TypeId}{v:Value}{n:Nat}{d:List MQ}(h:w.ownsRow base e 2 v n (d.flatMap qau))(l:n=d.length)(m:d.length<=1073741824):q0j w.heap.size w v d:=
 qdb h d l m _ fun b k p r s=>fun j u g=>by
  have c:j<2:=by
   have:=(zA.1 g).1
   simpa [qau]using this
  have q:=qbj qau 2 (fun _=>rfl) _ k j p r c;have:=s j c;rw [q,g]at this;exact this
theorem qvu {n:Nat}{c K:Act->World->Prop}{Q:Exit->Act->World->Prop}(h: ∀a X,c a X->K a X): ∀x a X,Exit.inBlock n (Exit.then c fun _ _ _=>False) x a X->Exit.inBlock n (Exit.then K Q) x a X:=fun x a X b=>by
 unfold Exit.inBlock at b⊢;cases x with
 |normal=>exact h a X b
 |exit i=>
  by_cases hi:i=n
  ·subst hi;simp only [yj]at b⊢;exact h a X b
  ·simp only [zF hi]at b⊢;exact b.elim
 |ret=>exact b.elim
 |goto _=>exact b.elim
 |panic _=>exact b.elim
 |outgrown=>exact b.elim
theorem qys {n base B:Nat}{w:World}{c0 c1 c2 c3 c4 c5 c6 vo vh vv:Value}{d:List MQ}{m:qa0}(hB:w.heap[B]?=some (.cells #[c0,c1,c2,c3,c4,c5,c6,vo] 132 (0,0)))(ho:w.ownsRow base 48 2 vo d.length (d.flatMap qau))(cK:B<base)(dJ:n<=w.heap.size)(hb:base<=w.heap.size)
  (hq: ∀q,q∈d->MqOk n w q) (hm:MqOk n w (m,vh,vv)) (hl:d.length<1073741824):
  Calls prog 62 #[qi B,.agg #[vh,vv]] w fun e w'=> ∃v0 vo' k,e=.returned v0/\w'.heap[B]?=some (.cells #[c0,c1,c2,c3,c4,c5,c6,vo'] 132 (0,0))/\Keep (fun b=>b<w.heap.size/\b≠B/\vo.ownBlock≠some b) w w'/\
   w'.ownsRow base 48 2 vo' (d.take k++(m,vh,vv)::d.drop k).length ((d.take k++(m,vh,vv)::d.drop k).flatMap qau)/\qdd (d.map (·.1)) m=(d.take k++(m,vh,vv)::d.drop k).map (·.1)/\ ∀g,vo'.ownBlock=some g->vo.ownBlock=some g∨w.heap.size<=g:=by
 obtain⟨N,hN⟩:=ex (w.heap.size);obtain⟨ah,ch,b9,cO,dl,-⟩:=id hm.1;obtain⟨av,cv,bO,cZ,cW,-⟩:=id hm.2;simp only at b9 bO cO dl cZ cW;subst b9;subst bO;obtain⟨W0,aR⟩:=ex (w.alloc (.cells #[.slice ah m.head.length ch,.slice av m.vals.length cv] 48));have k0:wG w W0:=by rw [←aR];exact kAl
 have p0:W0.heap[N]?=some (.cells #[.slice ah m.head.length ch,.slice av m.vals.length cv] 48 (0,0)):=by rw [←aR,←hN];exact qh _ _
 have z0:W0.heap.size=N+1:=by rw [←aR,←hN];simp
 have bK:=k0.heap hB trivial;have bU:=qf ho k0 (fun _ _=>wH);have cg: ∀q,q∈d->MqOk n W0 q:=fun q h=>(hq q h).keep k0.mt;have cd:=hm.keep k0.mt;have bF: ∀g,vo.ownBlock=some g->g≠N:=fun g h=>by have:=(zE ho g h).2;omega
 have dG:n<=N:=wC
 have dO:B<N:=wC
 obtain⟨ao,co,rfl⟩:=qj ho;clear hq hm;refine qhu ?_ hB ho hN aR k0 p0 bK bU cg cd bF;clear hB ho hN aR k0 p0 bK bU cg cd bF;intro dY dS bV b2 bo cw a8 a5 bb bH a6;refine qbr Tryz.func62 rfl ?_;simp only [Tryz.ntmps62,qd0,Nat.reduceAdd,Nat.reduceSub];gi_wp2;rw [b2.o,bV.o];obtain⟨K1,b8⟩: ∃K1:Act->World->Prop,K1=fun a X=> ∃(k:Nat) (u6 u7 u8 u9 u10 u11 u12 u13 u14 u15 u16 u17 u18 u19 u20 u21 u22 u23 u24 u25 u26 u27 u28:Value),(k<=d.length/\wG W0 X/\(∀j x,j<k->(d.map (·.1))[j]?=some x->ltR x.vals m.vals=true)/\ ∀x,(d.map (·.1))[k]?=some x->ltR x.vals m.vals=false)/\a=⟨#[qi B,.agg #[.slice ah m.head.length ch,.slice av m.vals.length cv],undef,.pointer (some ⟨N,0,none⟩),.int .i64 (k:Int),undef,u6,u7,u8,u9,u10,u11,u12,u13,u14,u15,u16,u17,u18,u19,u20,u21,u22,u23,u24,u25,u26,u27,u28,undef,undef,undef,undef,undef,undef,undef,undef,undef,undef,undef,undef,undef,undef,undef,undef,undef,undef,undef,undef,undef,undef,undef,undef,undef,undef,undef,undef,undef,undef,undef,undef,undef,undef,undef,undef,undef,undef,undef,undef,undef,undef],[]⟩:=⟨_,rfl⟩;have aE:=zg b8;clear b8;refine xt (Q:=Exit.inBlock 0 (Exit.then K1 fun _ _ _=>False)) ?_ (qvu ?_)
 ·gi_loopw [4] (fun ix wr=> ∃(k:Nat),k<=d.length/\ix=.int .i64 (k:Int)/\wG W0 wr/\ ∀j x,j<k->(d.map (·.1))[j]?=some x->ltR x.vals m.vals=true) (fun i _=>d.length-(intOf i).toNat)
  case atStart=>exact⟨0,wC,rfl,Keep.refl _ _,fun j x h=>wC⟩
  case round=>
   obtain⟨k,hk,rfl,hK,aa⟩:=hrel;have l:=hK.heap a8.o trivial;have d7:=qb l 7 _ rfl;have t:=hK.heap cw.o trivial;have e0:=qb t 0 _ rfl;have e1:=qb t 1 _ rfl;have cL:=qe l;have dL:=qe t;simp only [zD]at d7 e0 e1;have dT:(0:Int)<=k:=wC
   have Y:wG wr wr.drew:=kDr;obtain⟨z,ag⟩:=ex (wr.drew);rw [ag]at Y;have df:=Y.size;have da:B<z.heap.size:=wC
   have cM:N<z.heap.size:=wC
   by_cases aX:k<d.length
   ·have b6:(k:Int)<d.length:=by omega
    obtain⟨q,a4⟩: ∃q,d[k]?=some q:=⟨_,zB aX⟩;obtain⟨d5,ec,cR,-,dK,b0⟩:=qq8 a5.o rfl wC;injection cR with ho1 ho2 ho3
    subst ho1;subst ho3;obtain⟨b,o,rfl,dN,bN⟩:=b0 k q a4;have bu:=bb.o q (zH a4);obtain⟨aq,cq,br,dC,d1,-⟩:=id bu.2;have f1:=hK.cell (bN 1 _ rfl) trivial;rw [br]at f1;have bl:(d.map (·.1))[k]?=some q.1:=by rw [zP,a4];rfl
    have dE:b<wr.heap.size:=by have:=hK.size;omega
    have dP:b<z.heap.size:=wC
    have kn:Keep (fun b=>b<n) W0 z:=(hK.trans Y).mt;have ak:=qqm n _ _ q.1.vals m.vals z (qan bu.2 kn) (qan bH.o.2 kn) wC;rw [br]at ak;have ai:z.cell? ⟨B,7,none⟩=some (.slice (some ⟨b,o,none⟩) d.length co)/\z.cell? ⟨b,o+k*2+1,none⟩=some (.slice aq q.1.vals.length cq)/\z.cell? ⟨N,1,none⟩=some (.slice av m.vals.length cv):=⟨Y.cell d7 wH,Y.cell f1 wH,Y.cell e1 wH⟩;have aK:qgs q.1.vals m.vals<0-> ∀j x,j<k+1->(d.map (·.1))[j]?=some x->ltR x.vals m.vals=true:=fun h j x hj hx=>by
     rcases Nat.lt_succ_iff_lt_or_eq.1 hj with h2 |rfl
     ·exact aa j x h2 hx
     ·rw [bl]at hx;cases hx;exact qvt.1 h
    have al: ¬qgs q.1.vals m.vals<0-> ∀x,(d.map (·.1))[k]?=some x->ltR x.vals m.vals=false:=fun h x hx=>by
     rw [bl]at hx;cases hx;cases h3:ltR q.1.vals m.vals with
     |false=>rfl
     |true=>exact absurd (qvt.2 h3) h
    obtain⟨c,hc⟩:=ex (qgs q.1.vals m.vals);rw [hc]at aK al ak;clear bN br bu a4 b0 kn bl hc;refine qdz ?_ hK aa al aK l t ag Y ak ai;clear hK aa al aK l t ag Y ak ai;intro aY au aN bs aU aG ad aJ aW p;gi_wp2;refine qae ?_;refine qw rfl (fun X=>X.cell? ⟨B,7,none⟩=some (.slice (some ⟨b,o,none⟩) d.length co)/\X.cell? ⟨b,o+k*2+1,none⟩=some (.slice aq q.1.vals.length cq)/\X.cell? ⟨N,1,none⟩=some (.slice av m.vals.length cv)) [] ?_;rw [ad.o];refine qy [0,1,2,3,4,5,6,7,8,9,10,11,12,13,14,15,16,17] ?_
    iterate 18
     refine tkR (v:=?_) rfl p.o ?_ ?_;rotate_left
     ·rintro Wq ⟨x1,x2,x3⟩;go_simp
      try with_reducible rfl
     try simp only [qz]
    refine qm ?_;refine qgd (i:=18) rfl wD (fun K hK=>?_);have aO:=zg hK;clear hK;gi_wp2;refine⟨wH,rfl,(zU.2 aW.o).mono ?_⟩;rintro e We ⟨rfl,mm,b5⟩;have ke:wG z We:=by rw [b5];exact Keep.drewN' _ _ _
    have ce:We.cell? ⟨B,7,none⟩=some (.slice (some ⟨b,o,none⟩) d.length co)/\We.cell? ⟨b,o+k*2+1,none⟩=some (.slice aq q.1.vals.length cq)/\We.cell? ⟨N,1,none⟩=some (.slice av m.vals.length cv):=⟨ke.cell p.o.1 wH,ke.cell p.o.2.1 wH,ke.cell p.o.2.2 wH⟩;have bQ:=(aY.o.trans aJ.o).trans ke;clear b5 ke;refine hd2 ?_ ce bQ;clear ce bQ;intro aI a7;gi_wp2;refine aO.o _ _ (fun _=>aI.o) ?_;clear aO;by_cases cf:c<0
    ·have aS:=bs.o cf;refine hd1 ?_ aS;clear aS;intro a3;refine qy [19,20] ?_
     iterate 2
      refine tkR (v:=?_) rfl aI.o ?_ ?_;rotate_left
      ·rintro Wq ⟨x1,x2,x3⟩;go_simp
       try with_reducible rfl
      try simp only [qz]
     refine qm ?_;refine ql wD (qo ?_);gi_wp2;go_roundw
     case rel=>exact⟨k+1,wC,by go_num,a7.o,a3.o⟩
     case measure=>simp [intOf];omega
    ·have a9:=aN.o wC;refine hd1 ?_ a9;clear a9;intro bk;refine qy [19,20] ?_
     iterate 2
      refine tkR (v:=?_) rfl aI.o ?_ ?_;rotate_left
      ·rintro Wq ⟨x1,x2,x3⟩;go_simp
       try with_reducible rfl
      try simp only [qz]
     refine qm ?_;refine ql wD (qo ?_);gi_wp2;rw [aE.o];exact⟨k,_,_,_,_,_,_,_,_,_,_,_,_,_,_,_,_,_,_,_,_,_,_,_,⟨hk,a7.o,au.o,bk.o⟩,rfl⟩
   ·obtain rfl:k=d.length:=by omega
    have al: ∀x,(d.map (·.1))[d.length]?=some x->ltR x.vals m.vals=false:=fun x h=>by
     rw [xD wE]at h;cases h
    have ai:z.cell? ⟨B,7,none⟩=some (.slice ao d.length co):=Y.cell d7 trivial;clear aX;refine hd8 ?_ hK aa al l t ag Y ai;clear hK aa al l t ag Y ai;intro aY au aN aU aG ad aJ p;gi_wp2;refine qae ?_;refine qw rfl (fun X=>X.cell? ⟨B,7,none⟩=some (.slice ao d.length co)) [] ?_;rw [ad.o];refine qy [0,1,2,3,4,5,6,7] ?_
    iterate 8
     refine tkR (v:=?_) rfl p.o ?_ ?_;rotate_left
     ·rintro Wq x1;go_simp
      try with_reducible rfl
     try simp only [qz]
    refine qm ?_;refine qy [8,9,10,11,12,13,14,15,16,17,18,19] ?_
    iterate 12
     refine tkS rfl p.o ?_
     try simp only [qz]
    refine qm ?_;refine hoR 20 rfl fun K s=>?_;gi_wp2;refine s.o _ _ (fun _=>p.o) ?_;refine ql wD (qo ?_);clear s;gi_wp2;rw [aE.o];exact⟨d.length,_,_,_,_,_,_,_,_,_,_,_,_,_,_,_,_,_,_,_,_,_,_,_,⟨zG _,aY.o.trans aJ.o,au.o,aN.o⟩,rfl⟩
 ·rintro a X hX;rw [aE.o]at hX;obtain⟨k,u6,u7,u8,u9,u10,u11,u12,u13,u14,u15,u16,u17,u18,u19,u20,u21,u22,u23,u24,u25,u26,u27,u28,⟨hk,hK,aa,al⟩,rfl⟩:=hX
  dsimp only
  have ba:=q54 aa al;have bg:=qf a5.o hK (fun _ _=>wH);have l:=hK.heap a8.o trivial;have d7:=qb l 7 _ rfl;have cL:=qe l;have dU:=hK.size;simp only [zD]at d7;obtain⟨v4,W4,bR,a0,bd,r,U,cP,a1,d6⟩:=qc8 qvs 41 bg [.slice none 0 0,.slice none 0 0] rfl (by simp [Value.oneCell']) wC (by have:=bV.o;omega);subst cP;have aM:Keep (fun b=>b<base∨b=N) X W4:=bd.mono fun b _ (h:b<base∨b=N)=>by
   rcases h with h |rfl
   ·exact qd4 bg h
   ·exact fun e=>a6.o _ e.symm rfl
  have dh:r≠N:=fun e=>by
   rcases a1 with h |h
   ·exact a6.o _ h e
   ·omega
  have dV:=(qlg a0).2.2.2;have aQ:=aM.heap l (.inl cK);have b4:=qg aQ 7;have l4:=qe aQ;have e7:=qb aQ 7 _ rfl;simp only [zD]at e7;obtain⟨W5,a2⟩:=ex (W4.setCell ⟨B,7,none⟩ (.slice (some ⟨r,0,none⟩) (d.length+1) U));have k5:Keep (fun b=>b≠B) W4 W5:=by rw [←a2];exact kSc
  have bW:W5.heap[B]?=some (.cells #[c0,c1,c2,c3,c4,c5,c6,.slice (some ⟨r,0,none⟩) (d.length+1) U] 132 (0,0)):=by rw [←a2];exact qag 7 _ aQ
  have bv:=qf a0 k5 (fun b hb e=>by subst e;have:=(zE a0 _ hb).1;omega);have bD:=k5.heap (aM.heap (hK.heap cw.o wH) (.inr rfl)) (show N≠B from wC);have cr:Keep (fun b=>b<w.heap.size/\b≠B/\(Value.slice ao d.length co).ownBlock≠some b) w W5:=((bo.o.trans hK).mt).trans ((bd.mono fun b _ h e=>h.2.2 e.symm).trans (k5.mono fun b _ h=>h.2.1));have cI: ∀b,b<w.heap.size/\b≠B/\(Value.slice ao d.length co).ownBlock≠some b->b≠r:=fun b h e=>by
   rcases a1 with h4 |h4
   ·exact h.2.2 (by rw [h4,e])
   ·have:=(bo.o.trans hK).size;omega
  have aL:(d.flatMap qau++ [Value.slice none 0 0,.slice none 0 0])=((d.take d.length++((default,.slice none 0 0,.slice none 0 0):MQ)::d.drop d.length).flatMap qau):=by
   rw [zi,xq,yG];rfl
  rw [aL]at bv;have bG:=hK;clear aa al bg l a0 bd aM aQ k5 aL;refine qdz ?_ a1 bG ba hK bR a2 bv bW bD cr;clear a1 bG ba hK bR a2 bv bW bD cr;intro cj bS bm aY cl bL b3 cb bI cu
  gi_wp2_with (gi_at_builtin;refine qck (v:=.slice ao d.length co) (u:=.slice (some ⟨X.heap.size,0,none⟩) 1 1) (v':=.slice (some ⟨r,0,none⟩) (d.length+1) U) (w':=W4) rfl (.tmp 33) (.tmp 35) 41 rfl rfl rfl cl.o ?_)
  rw [bL.o];gi_loopw [5] (fun ix wr=> ∃(j:Nat) (x:MQ),k<=j/\j<=d.length/\ix=.int .i64 (j:Int)/\Keep (fun b=>b≠r) W5 wr/\wr.ownsRow base 48 2 (.slice (some ⟨r,0,none⟩) (d.length+1) U) (d.length+1) ((d.take j++x::d.drop j).flatMap qau)) (fun i _=>(intOf i).toNat)
  case atStart=>exact⟨d.length,_,hk,zG _,rfl,Keep.refl _ _,b3.o⟩
  case round=>
   obtain⟨j,x,d3,dR,rfl,an,hO⟩:=hrel;have l:=an.heap cb.o (show B≠r from wC);have q7:=qb l 7 _ rfl;have t:=an.heap bI.o (fun e=>dh e.symm);have m0:=qb t 0 _ rfl;have m1:=qb t 1 _ rfl;have ef:=qe l;have dZ:=qe t;simp only [zD]at q7 m0 m1;obtain⟨d9,aZ⟩:=qa1 hO (b:=r) rfl;have dM:=qe aZ;have Y:wG wr wr.drew:=kDr;obtain⟨z,ag⟩:=ex (wr.drew);rw [ag]at Y;have df:=Y.size;have da:B<z.heap.size:=wC
   have cM:N<z.heap.size:=wC
   have ee:r<z.heap.size:=wC
   have aB:=qlg hO;have dW:=aB.1;have dp:=aB.2.1;have ab:=Y.heap aZ trivial;have ap:=qf hO Y (fun _ _=>wH);by_cases aX:k<j
   ·obtain⟨i,rfl⟩: ∃i,j=i+1:=⟨j-1,wC⟩;have b6:(k:Int)<((i+1:Nat):Int):=by omega
    have ds:(((i+1:Nat):Int)-1)=(i:Int):=wC
    have dI:(0:Int)<=i:=wC
    have ea:(0:Int)<=(i:Int)+1:=wC
    have d8:IntKind.i64.wrap (i:Int)=(i:Int):=IntWalk.i64_in _ wC;have dA:(i:Int)<(d.length:Int)+1:=wC
    have dy:(i:Int)+1<(d.length:Int)+1:=wC
    have d4:(i:Int)<d.length:=wC
    have dw:(i:Int)<((d.length+1:Nat):Int):=wC
    have du:((i+1:Nat):Int)<((d.length+1:Nat):Int):=wC
    obtain⟨y,hy⟩: ∃y,d[i]?=some y:=⟨_,zB wC⟩;have bp:(d.take (i+1)++x::d.drop (i+1))[i]?=some y:=by
     rw [yS (by rw [yC];omega),xR wC];exact hy
    have s0:z.cell? ⟨r,i*2,none⟩=some y.2.1:=Y.cell (qcp hO (i*2) _ (by have:=qbj qau 2 (fun _=>rfl) _ i 0 y bp wC;simpa [qau] using this)) trivial;have s1:z.cell? ⟨r,i*2+1,none⟩=some y.2.2:=Y.cell (qcp hO (i*2+1) _ (by have:=qbj qau 2 (fun _=>rfl) _ i 1 y bp wC;simpa [qau] using this)) trivial;have bn:=bb.o y (zH hy);obtain⟨y1,y2,y3⟩:=y;obtain⟨ay,cy,bM,-,-,-⟩:=id bn.1;obtain⟨az,cz,b1,-,-,-⟩:=id bn.2;simp only at bM b1 s0 s1;subst bM;subst b1;have ae:(d.take (i+1)).length=i+1:=by rw [yC];omega
    have af:((d.take (i+1)++x::d.drop (i+1)).flatMap qau).length=(d.length+1)*2:=by
     rw [qa4 qau 2 (fun _=>rfl),zR,length_cons,xx,ae];omega
    have aj:=qh9 (qh9 ap ((i+1)*2) (.slice ay y1.head.length cy) (by rw [af];omega)) ((i+1)*2+1) (.slice az y1.vals.length cz) (by rw [xr,af];omega);have R:=q3o (d.take (i+1)) (d.drop (i+1)) x (y1,.slice ay y1.head.length cy,.slice az y1.vals.length cz);rw [ae]at R;simp only at R;rw [R]at aj;obtain⟨W6,am⟩:=ex ((z.setCell ⟨r,(i+1)*2,none⟩ (.slice ay y1.head.length cy)).setCell ⟨r,(i+1)*2+1,none⟩ (.slice az y1.vals.length cz));rw [am]at aj;have k6:Keep (fun b=>b≠r) z W6:=by rw [←am];exact(kSc).trans (kSc)
    have aA:d.take (i+1)++(y1,Value.slice ay y1.head.length cy,Value.slice az y1.vals.length cz)::d.drop (i+1)=d.take i++(y1,.slice ay y1.head.length cy,.slice az y1.vals.length cz)::d.drop i:=by
     obtain⟨h1,h2⟩:=zA.1 hy;rw [zh,hy,zt h1,h2];simp
    rw [aA]at aj;have aH:=an.trans (Y.mt.trans k6);have di:=qg ab ((i+1)*2);have cX:=qg ab ((i+1)*2+1);have ai:z.cell? ⟨B,7,none⟩=some (.slice (some ⟨r,0,none⟩) (d.length+1) U)/\z.cell? ⟨r,i*2,none⟩=some (.slice ay y1.head.length cy)/\z.cell? ⟨r,i*2+1,none⟩=some (.slice az y1.vals.length cz):=⟨Y.cell q7 wH,s0,s1⟩;have t0: ∃u,z.cell? ⟨r,(i+1)*2,none⟩=some u:=by
     obtain⟨u,hu⟩: ∃u,((d.take (i+1)++x::d.drop (i+1)).flatMap qau)[(i+1)*2]?=some u:=⟨_,zB (by rw [af];omega)⟩;exact⟨u,qcp ap _ u hu⟩
    have t1: ∃u,z.cell? ⟨r,(i+1)*2+1,none⟩=some u:=by
     obtain⟨u,hu⟩: ∃u,((d.take (i+1)++x::d.drop (i+1)).flatMap qau)[(i+1)*2+1]?=some u:=⟨_,zB (by rw [af];omega)⟩;exact⟨u,qcp ap _ u hu⟩
    obtain⟨tu,t0⟩:=t0;obtain⟨tv,t1⟩:=t1;clear hy bp bn R aA ae af hO ap aZ aB k6 s0 s1;refine qdz ?_ l t ag Y ai am aj aH an ab;clear l t ag Y ai am aj aH an ab;intro aU aG ad aJ p aF ct aT s bc;gi_wp2;refine qae ?_;refine qw rfl (fun X=>X.cell? ⟨B,7,none⟩=some (.slice (some ⟨r,0,none⟩) (d.length+1) U)/\X.cell? ⟨r,i*2,none⟩=some (.slice ay y1.head.length cy)/\X.cell? ⟨r,i*2+1,none⟩=some (.slice az y1.vals.length cz)) [14] ?_;rw [ad.o];refine qy [0,1,2,3,4,5,6,7,8,9,10,11,12,13] ?_
    iterate 14
     refine tkR (v:=?_) rfl p.o ?_ ?_;rotate_left
     ·rintro Wq ⟨x1,x2,x3⟩;go_simp
      try with_reducible rfl
     try simp only [qz]
    refine qm ?_;refine hoR 14 rfl fun K s=>?_;gi_wp2;rw [aF.o];refine s.o _ _ (fun h=>absurd h wF) ?_;refine ql wD (qo ?_);clear s;gi_wp2;go_roundw
    case rel=>exact⟨i,_,wC,wC,by go_num,aT.o,ct.o⟩
    case measure=>simp [intOf]
   ·obtain rfl:j=k:=by omega
    have af:((d.take j++x::d.drop j).flatMap qau).length=(d.length+1)*2:=by
     rw [qa4 qau 2 (fun _=>rfl),zR,length_cons,xx,yC];omega
    have ae:(d.take j).length=j:=by rw [yC];omega
    have aj:=qh9 (qh9 ap (j*2) (.slice ah m.head.length ch) (by rw [af];omega)) (j*2+1) (.slice av m.vals.length cv) (by rw [xr,af];omega);have R:=q3o (d.take j) (d.drop j) x (m,.slice ah m.head.length ch,.slice av m.vals.length cv);rw [ae]at R;simp only at R;rw [R]at aj;obtain⟨W6,am⟩:=ex ((z.setCell ⟨r,j*2,none⟩ (.slice ah m.head.length ch)).setCell ⟨r,j*2+1,none⟩ (.slice av m.vals.length cv));rw [am]at aj;have k6:Keep (fun b=>b≠r) z W6:=by rw [←am];exact(kSc).trans (kSc)
    have cm:=k6.heap (Y.heap l wH) (show B≠r from wC);have aH:Keep (fun b=>b<w.heap.size/\b≠B/\(Value.slice ao d.length co).ownBlock≠some b) w W6:=cu.o.trans ((an.trans (Y.mt.trans k6)).mono fun b _ h=>cI b h);have cp:W6.ownsRow base 48 2 (.slice (some ⟨r,0,none⟩) (d.length+1) U) (d.take j++(m,.slice ah m.head.length ch,.slice av m.vals.length cv)::d.drop j).length ((d.take j++(m,.slice ah m.head.length ch,.slice av m.vals.length cv)::d.drop j).flatMap qau):=by
     rw [show(d.take j++((m,.slice ah m.head.length ch,.slice av m.vals.length cv):MQ)::d.drop j).length=d.length+1 by rw [zR,length_cons,xx,ae];omega];exact aj
    have aP:qdd (d.map (·.1)) m=(d.take j++((m,.slice ah m.head.length ch,.slice av m.vals.length cv):MQ)::d.drop j).map (·.1):=by
     rw [bm.o,zn,yZ,map_take,map_drop]
    have di:=qg ab (j*2);have cX:=qg ab (j*2+1);have ai:z.cell? ⟨B,7,none⟩=some (.slice (some ⟨r,0,none⟩) (d.length+1) U)/\z.cell? ⟨N,0,none⟩=some (.slice ah m.head.length ch)/\z.cell? ⟨N,1,none⟩=some (.slice av m.vals.length cv):=⟨Y.cell q7 wH,Y.cell m0 wH,Y.cell m1 wH⟩;have t0: ∃u,z.cell? ⟨r,j*2,none⟩=some u:=by
     obtain⟨u,hu⟩: ∃u,((d.take j++x::d.drop j).flatMap qau)[j*2]?=some u:=⟨_,zB (by rw [af];omega)⟩;exact⟨u,qcp ap _ u hu⟩
    have t1: ∃u,z.cell? ⟨r,j*2+1,none⟩=some u:=by
     obtain⟨u,hu⟩: ∃u,((d.take j++x::d.drop j).flatMap qau)[j*2+1]?=some u:=⟨_,zB (by rw [af];omega)⟩;exact⟨u,qcp ap _ u hu⟩
    obtain⟨tu,t0⟩:=t0;obtain⟨tv,t1⟩:=t1;have ed:(0:Int)<=j:=wC
    have dn:(j:Int)<(d.length:Int)+1:=wC
    clear R ae af hO ap aZ aB k6 aX aj;refine qhv ?_ l t ag Y ai am cp aH an ab cm aP;clear l t ag Y ai am cp aH an ab cm aP;intro aU aG ad aJ p aF b7 aT s bc ca aV;gi_wp2;refine qae ?_;refine qw rfl (fun X=>X.cell? ⟨B,7,none⟩=some (.slice (some ⟨r,0,none⟩) (d.length+1) U)/\X.cell? ⟨N,0,none⟩=some (.slice ah m.head.length ch)/\X.cell? ⟨N,1,none⟩=some (.slice av m.vals.length cv)) [7] ?_;rw [ad.o];refine qy [0,1,2,3,4,5,6] ?_
    iterate 7
     refine tkR (v:=?_) rfl p.o ?_ ?_;rotate_left
     ·rintro Wq ⟨x1,x2,x3⟩;go_simp
      try with_reducible rfl
     try simp only [qz]
    refine qm ?_;refine hoR 7 rfl fun K s=>?_;gi_wp2;rw [aF.o];refine s.o _ _ (fun h=>absurd h wF) ?_;refine ql wD (qo ?_);clear s;gi_wp2;refine wA (yw rfl _ _ _) rfl ⟨_,_,j,rfl,ca.o,aT.o,b7.o,aV.o,fun g h=>by
     have e:r=g:=by simpa [Value.ownBlock] using h
     rcases cj.o with h4 |h4
     ·exact .inl (by rw [h4,e])
     ·exact .inr (by have:=(bo.o.trans bS.o).size;omega)⟩
theorem q72 {n base B:Nat}{w:World}{u s r v p t l vo vh vv:Value}{c:List MQ}{m:qa0}(hB:w.heap[B]?=some (.cells #[u,s,r,v,p,t,l,vo] 132 (0,0)))(ho:w.ownsRow base 48 2 vo c.length (c.flatMap qau))(d:B<base)(Y:n<=B)(z:base<=w.heap.size)
  (R: ∀q,q∈c->MqOk n w q) (x:MqOk n w (m,vh,vv)) (hl:c.length<1073741824):
  Calls prog 62 #[qi B,.agg #[vh,vv]] w fun e w'=> ∃v0 vo' k,e=.returned v0/\w'.heap[B]?=some (.cells #[u,s,r,v,p,t,l,vo'] 132 (0,0))/\Keep (fun b=>b<base/\b≠B) w w'/\
   w'.ownsRow base 48 2 vo' (c.take k++(m,vh,vv)::c.drop k).length ((c.take k++(m,vh,vv)::c.drop k).flatMap qau)/\qdd (c.map (·.1)) m=(c.take k++(m,vh,vv)::c.drop k).map (·.1):=by
 refine(qys hB ho d wC z R x hl).mono ?_;rintro e w' ⟨v0,vo',k,U,X,h3,h4,y,-⟩;exact⟨v0,vo',k,U,X,h3.mono fun b g h=>⟨g,h.2,fun e=>qd4 ho h.1 e.symm⟩,h4,y⟩
def q83 (n:Nat)(w:World)(b o:Nat)(m:qa0):Prop:= ∃vh vv,CellsE w b o [vh,vv]/\qac n w vh m.head/\qac n w vv m.vals
abbrev MatchesIn (n:Nat)(w:World)(v:Value)(ms:List qa0):Prop:=SliceIn n w 2 (q83 n) v ms
theorem MatchesIn.keep {n:Nat}{w w':World}{v:Value}{c:List qa0}(h:MatchesIn n w v c)(hK:Keep (fun k=>k<n) w w'):MatchesIn n w' v c:=
 h.mono fun b o s hb ⟨vh,vv,h1,h2,h3⟩=>⟨vh,vv,fun j v d=>hK.cell (h1 j v d) hb,qan h2 hK,qan h3 hK⟩
theorem qiq {n m:Nat}{w:World}{v:Value}{g:List MQ}(h:q0j m w v g)(s:n<=m)(t: ∀q,q∈g->MqOk n w q):MatchesIn m w v (g.map (·.1)):=by
 obtain⟨a,c,y,u,x,z⟩:=h;refine⟨a,c,by rw [zL];exact y,by rw [zL];exact u,by rw [zL];exact x,fun i f d=>?_⟩;rw [zP]at d;cases e:g[i]? with
 |none=>rw [e] at d;cases d
 |some p=>
  rw [e]at d;cases d;obtain⟨b,o,R,r,l⟩:=z i p e;have:=t p (zH e);exact⟨b,o,R,r,p.2.1,p.2.2,l,qb2 this.1 s,qb2 this.2 s⟩
theorem q55 {b:List qa0}{k:Nat}{m:qa0}(h:b[k]?=some m):(b.take (k+1)).foldl qdd []=qdd ((b.take k).foldl qdd []) m:=by
 rw [zh,h,yn];rfl
theorem q56 {α:Type}(b:List α)(k:Nat)(x:α):(b.take k++x::b.drop k).Perm (b++ [x]):=by
 refine perm_middle.trans ?_;rw [yy];exact(perm_append_singleton x b).symm
theorem q0k {n m:Nat}{w:World}{v:Value}{l:List MQ}(hv:q0j m w v l)(hq: ∀q,q∈l->MqOk n w q)(hn:n<=m)(hm:m<=w.heap.size)(aT:l.length<1073741824):
  Calls prog 20 #[v] w fun e w'=> ∃v',e=.returned v'/\Keep (fun b=>b<w.heap.size) w w'/\ ∃os:List MQ,w'.ownsRow w.heap.size 48 2 v' os.length (os.flatMap qau)/\os.map (·.1)=qfu (l.map (·.1))/\os.Perm l:=by
 obtain⟨al,cl,rfl,ba,a6,aA⟩:=id hv;obtain⟨N,hN⟩:=ex (w.heap.size);obtain⟨W0,R⟩:=ex (w.alloc (.cells #[.string ⟨#[]⟩,.slice none 0 0,.slice none 0 0,.slice none 0 0,.slice none 0 0,.slice none 0 0,.pointer none,.slice none 0 0] 132));have k0:wG w W0:=by rw [←R];exact kAl
 have p0:W0.heap[N]?=some (.cells #[.string ⟨#[]⟩,.slice none 0 0,.slice none 0 0,.slice none 0 0,.slice none 0 0,.slice none 0 0,.pointer none,.slice none 0 0] 132 (0,0)):=by rw [←R,←hN];exact qh _ _
 have z0:W0.heap.size=N+1:=by rw [←R,←hN];simp
 refine hd7 ?_ hv aA hq hN R k0 p0;clear hv aA hq hN R k0 p0;intro a3 am ax t ak aJ aN
 go_enter Tryz.func20,Tryz.ntmps20
 go_wp2_with fail;rw [ak.o,t.o]
 go_loopw [4] (fun ix wr=> ∃(k:Nat) (vo:Value) (os:List MQ),k<=l.length/\ix=.int .i64 (k:Int)/\Keep (fun b=>b<N) w wr/\wr.heap[N]?=some (.cells #[.string ⟨#[]⟩,.slice none 0 0,.slice none 0 0,.slice none 0 0,.slice none 0 0,.slice none 0 0,.pointer none,vo] 132 (0,0))/\
  wr.ownsRow (N+1) 48 2 vo os.length (os.flatMap qau)/\os.map (·.1)=((l.map (·.1)).take k).foldl qdd []/\os.Perm (l.take k)) (fun i _=>l.length-(intOf i).toNat)
 case atStart=>exact⟨0,.slice none 0 0,[],wC,rfl,aJ.o.mt,aN.o,zj _ _ _ _,rfl,.nil⟩
 case round=>
  obtain⟨k,vo,os,hk,rfl,hK,hB,hO,c,p⟩:=hrel;have U: ∀q,q∈os->q∈l:=fun q h=>xm (p.mem_iff.1 h);have aj:os.length=k:=by rw [p.length_eq,yC];omega
  have a1:=qe hB;have a2:(0:Int)<=k:=wC
  have aU:=hK.size;by_cases an:k<l.length
  ·have aW:(k:Int)<l.length:=by omega
   obtain⟨q,s⟩: ∃q,l[k]?=some q:=⟨_,zB an⟩;obtain⟨b,o,rfl,hb,g⟩:=am.o k q s;have Y:=ax.o q (zH s);have aM:=zH s;have aC:b<N:=by have:=t.o;omega
   have f0:=hK.cell (g 0 _ rfl) aC;have f1:=hK.cell (g 1 _ rfl) aC;simp only [Nat.add_zero]at f0;have a5:b<wr.heap.size:=wC
   obtain⟨m1,vh,vv⟩:=q;have kn:Keep (fun b=>b<n) w wr:=hK.mono fun b _ h=>by have:=t.o;omega
   have y:=q72 (n:=n) (base:=N+1) hB hO wC (by have:=t.o;omega) wC (fun q h=>(ax.o q (U q h)).keep kn) (Y.keep kn) wC;have aD:(l.map (·.1))[k]?=some m1:=by rw [zP,s];rfl
   have aw:=q55 aD;obtain⟨ah,ch,aB,-,-,-⟩:=id Y.1;obtain⟨av,cv,ay,-,-,-⟩:=id Y.2;simp only at aB ay f0 f1;subst aB;subst ay;clear g Y aD kn U aj aM;refine hd8 ?_ y hK hB hO c p aw s;clear y hK hB hO c p aw s;intro aa ai aL aI d X ar ap;go_wp2_with fail;refine aa.o.mono ?_;rintro e W2 ⟨v0,a9,kk,rfl,aF,az,z,ad⟩;have aE:=ai.o.trans (az.mono fun b _ h=>⟨wC,wC⟩);have r:(os.take kk++((m1,.slice ah m1.head.length ch,.slice av m1.vals.length cv):MQ)::os.drop kk).map (·.1)=((l.map (·.1)).take (k+1)).foldl qdd []:=by
    rw [ar.o,←d.o,ad]
   have ab:(os.take kk++((m1,.slice ah m1.head.length ch,.slice av m1.vals.length cv):MQ)::os.drop kk).Perm (l.take (k+1)):=by
    rw [zh,ap.o];exact(q56 _ _ _).trans (X.o.append (.refl _))
   clear az ad;refine hd5 ?_ aF z aE r ab;clear aF z aE r ab;intro au x aq u ag;go_wp2_with fail;go_roundw
   case rel=>exact⟨k+1,_,_,wC,by go_num,aq.o,au.o,x.o,u.o,ag.o⟩
   case measure=>simp [intOf];omega
  ·obtain rfl:k=l.length:=by omega
   have d7:=qb hB 7 _ rfl;simp only [zD]at d7;rw [yz wE]at c;rw [zi]at p;obtain⟨ao,co,rfl⟩:=qj hO;have z:=hO.mono (show N<=N+1 from wC);clear an U;refine hd7 ?_ hK hB hO c p z aj;clear hK hB hO c p z aj;intro ai aL aI d X x aV;go_wp2_with fail;go_ret;exact⟨.slice ao os.length co,rfl,by rw [t.o];exact ai.o,os,by rw [t.o];exact x.o,d.o,X.o⟩
end Go.Proofs
