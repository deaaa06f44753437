/- Parts of the proof. -/
import Derived.Test.YtnponcjnahicnaaGreatDlJToDlK
set_option linter.unusedSimpArgs false
set_option linter.unusedVariables false
set_option maxRecDepth 100000
set_option maxHeartbeats 8000000
open Go.Proofs.Tryz(prog)
open List(filter_map filter_nil length_cons length_flatMap map_map mem_append_right mem_of_mem_drop)
namespace Go.Proofs
open Go.RowKit Go.Ink Go.Flt R4 P16
theorem qmz (body:List LitD):qas body=(qaf body).map fun i=>(body.getD i default).atom:=by
 have b:body=(List.range body.length).map (fun i=>body.getD i default):=by
  refine xZ fun i=>?_;rw [zP];by_cases h:i<body.length
  ·rw [xu h,zB h];simp [zJ,zB h]
  ·rw [xD wC,xD (by simp;omega)];rfl
 unfold qas
 conv=>lhs;rw [b]
 rw [filter_map,map_map]
 rfl
theorem q6w {r:RuleD}(b:qaq r=true):qol r=qu r:=by
 unfold qol qu;rw [qk1 b]
 rfl
def nxJ (body:List LitD)(Cs:Nat->List qk)(neg:List qk):qbd:=qd3 body (fun i=>Cs (qcb body i)) neg
def nxM (r:RuleD)(Cs:Nat->List qk)(neg:List qk)(n:Nat)(a:Asg):List qa0:=
 ((qbl (nxJ r.body Cs neg) r.body ((qaf r.body).drop n) a).filter (qi5 (nxJ r.body Cs neg) r.body)).map (qbn r)
def nxF (r:RuleD)(Cs:Nat->List qk)(neg:List qk)(n:Nat)(a:Asg)(A:qcn)(f:qk):List qa0:=
 if f.pred=A.pred then (match qbg a A.args f.tuple with |some a'=>nxM r Cs neg (n+1) a' |none=> []) else []
theorem q1f (r:RuleD)(Cs:Nat->List qk)(neg:List qk):qfu (nxM r Cs neg 0 qca)=qeo (nxJ r.body Cs neg) r:=rfl
theorem q8e (r:RuleD)(Cs:Nat->List qk)(neg:List qk)(a:Asg):nxM r Cs neg (qaf r.body).length a=if qi5 (nxJ r.body Cs neg) r.body a=true then [qbn r a] else []:=by
 unfold nxM;rw [xq];show List.map (qbn r) (List.filter _ [a])=_;rw [yg,filter_nil];split<;>rfl
theorem q6x {α β γ:Type}(f:α->List β)(p:β->Bool)(g:β->γ)(l:List α):((l.flatMap f).filter p).map g=l.flatMap fun x=>((f x).filter p).map g:=by
 induction l with
 |nil=>rfl
 |cons x l ih=>rw [yF,yF,yV,zn,ih]
theorem q1g {α β:Type}(p:α->Bool)(f:α->List β)(l:List α):(l.filter p).flatMap f=l.flatMap fun x=>if p x=true then f x else []:=by
 induction l with
 |nil=>rfl
 |cons x l ih=>
  rw [yg,yF];split
  ·rw [yF,ih]
  ·rw [ih];rfl
theorem q6y {r:RuleD}{Cs:Nat->List qk}{neg:List qk}{n:Nat}{A:qcn}(hA:(qas r.body)[n]?=some A)(a:Asg):nxM r Cs neg n a=(Cs n).flatMap (nxF r Cs neg n a A):=by
 rw [qmz,zP]at hA;cases hi:(qaf r.body)[n]? with
 |none=>rw [hi] at hA;cases hA
 |some i=>
  rw [hi]at hA;have hA:(r.body.getD i default).atom=A:=yI hA;have h:=(qde (zH hi)).2;unfold qbm at h;have hrk:=q58 hi;have d:(qaf r.body).drop n=i::(qaf r.body).drop (n+1):=by
   obtain⟨g,e⟩:=zA.1 hi;rw [zt g,e]
  have b:qbl (nxJ r.body Cs neg) r.body ((qaf r.body).drop n) a=((Cs n).filter fun f=>decide (f.pred=A.pred)).flatMap fun f=>match qbg a A.args f.tuple with |some a'=>qbl (nxJ r.body Cs neg) r.body ((qaf r.body).drop (n+1)) a' |none=> []:=by
   rw [d,qbl,zF wC,zF wC];show(qv (Cs (qcb r.body i)) (r.body.getD i default).atom.pred (r.body.getD i default).atom.args.length).flatMap _=_;rw [hrk,hA];exact(q47 (Cs n) A.pred A.args a fun a'=>qbl (nxJ r.body Cs neg) r.body ((qaf r.body).drop (n+1)) a').symm
  unfold nxM;rw [b,q1g,q6x]
  congr 1
  funext f
  unfold nxF;by_cases c:f.pred=A.pred
  ·rw [zI (zS c),zI c];cases qbg a A.args f.tuple with
   |none=>rfl
   |some a'=>rfl
  ·rw [zF (by simpa using c),zF c]
   rfl
def RStB (n:Nat)(w:World)(s:Option Nat)(c:List qk):Prop:=match s with
 |none=>c= []
 |some S=>S<n/\ ∃v,w.heap[S]?=some (.cells #[v] 98 (0,0))/\FactsIn n w v c
theorem RStB.keep {n:Nat}{w w':World}{s:Option Nat}{c:List qk}(h:RStB n w s c)(hK:Keep (fun b=>b<n) w w'):RStB n w' s c:=by
 cases s with
 |none=>exact h
 |some S=>
  obtain⟨d,v,e,g⟩:=h;exact⟨d,v,hK.heap e d,g.keep hK⟩
theorem RStB.read {n:Nat}{w:World}{s:Option Nat}{c:List qk}(h:RStB n w s c)(e:n<=w.heap.size):RSt w s c:=by
 cases s with
 |none=>exact h
 |some S=>
  obtain⟨g,v,b,d⟩:=h;exact⟨v,b,d.wider e⟩
theorem RSt.low {w:World}{s:Option Nat}{c:List qk}(h:RSt w s c):RStB w.heap.size w s c:=by
 cases s with
 |none=>exact h
 |some S=>
  obtain⟨v,b,d⟩:=h;exact⟨qe b,v,b,d⟩
abbrev qm0 (n:Nat)(w:World)(v:Value)(ins:List (Option Nat)):Prop:=SliceIn n w 1 (fun w b o s=>w.cell? ⟨b,o,none⟩=some (.pointer (s.map fun S=>⟨S,0,none⟩))) v ins
structure NxC (B:Nat)(w:World)(r:RuleD)(sh sb vv va vi:Value)(sN:Option Nat)(ps:List (qcn×Value))(ins:List (Option Nat))(Cs:Nat->List qk)(neg:List qk):Prop where
 rule:RuleIn B w sh sb r
 vars:qac B w vv (qu r)
 atoms:qyr B w va ps
 pmap:ps.map (·.1)=qas r.body
 args: ∀p,p∈ps->qai B w p.2 p.1.args
 ptrs:qm0 B w vi ins
 len:ins.length=ps.length
 sts: ∀(k:Nat) (s:Option Nat),ins[k]?=some s->RStB B w s (Cs k)
 ok: ∀(k:Nat) (x:qk),x∈Cs k->okF x=true
 no:RStB B w sN neg
theorem NxC.keep {B:Nat}{w w':World}{r:RuleD}{sh g vv l m:Value}{sN:Option Nat}{ps:List (qcn×Value)}{c:List (Option Nat)}{Cs:Nat->List qk}{neg:List qk}(h:NxC B w r sh g vv l m sN ps c Cs neg)(hK:Keep (fun b=>b<B) w w'):NxC B w' r sh g vv l m sN ps c Cs neg:=
 ⟨h.rule.keep hK,qan h.vars hK,h.atoms.mono fun b o p d e=>fun j u q=>hK.cell (e j u q) d,h.pmap,fun p t=>qak (h.args p t) hK,h.ptrs.mono fun b o s d e=>hK.cell e d,h.len,fun k s v=>(h.sts k s v).keep hK,h.ok,h.no.keep hK⟩
structure NxO (B:Nat)(X:World)(cs:Value->Array Value)(vo:Value)(qs:List MQ):Prop where
 box:X.heap[B]?=some (.cells (cs vo) 132 (0,0))
 own:X.ownsRow (B+1) 48 2 vo qs.length (qs.flatMap qau)
 rows: ∀q,q∈qs->X.ownsRow 0 9 1 q.2.1 q.1.head.length (q.1.head.map .string)/\X.ownsRow 0 9 1 q.2.2 q.1.vals.length (q.1.vals.map .string)
 few: ∀q,q∈qs->q.1.head.length<=1073741824/\q.1.vals.length<=1073741824
def NxK (B:Nat)(X:World)(vo:Value)(b:Nat):Prop:=b<X.heap.size/\b≠B/\vo.ownBlock≠some b
theorem NxO.keep {B:Nat}{X Y:World}{b:Value->Array Value}{vo:Value}{d:List MQ}(h:NxO B X b vo d)(hK:wG X Y):NxO B Y b vo d:=
 ⟨hK.heap h.box wH,qf h.own hK fun _ _=>wH,fun q c=>⟨qf (h.rows q c).1 hK fun _ _=>wH,qf (h.rows q c).2 hK fun _ _=>wH⟩,h.few⟩
theorem NxO.row {B:Nat}{X Y:World}{d:Value->Array Value}{vo:Value}{m:List MQ}(h:NxO B X d vo m){base n:Nat}{e:TypeId}{v:Value}{xs:List Value}(ho:X.ownsRow base e 1 v n xs)(g:e≠48)(l:e≠132)(hK:Keep (NxK B X vo) X Y):Y.ownsRow base e 1 v n xs:=
 qf ho hK fun b c=>⟨(zE ho b c).2,qfc ho h.box l c,fun e=>qc9 ho h.own g c e⟩
theorem NxO.low {B:Nat}{X Y:World}{c:Value->Array Value}{vo:Value}{g:List MQ}(h:NxO B X c vo g)(hK:Keep (NxK B X vo) X Y):Keep (fun b=>b<B) X Y:=
 hK.mono fun b d l=>⟨d,wC,fun e=>by have:=(zE h.own b e).1;omega⟩
theorem NxO.mq {B:Nat}{X:World}{d:Value->Array Value}{vo:Value}{c:List MQ}(h:NxO B X d vo c): ∀q,q∈c->MqOk X.heap.size X q:=fun q b=>⟨qbq (h.rows q b).1 (h.few q b).1,qbq (h.rows q b).2 (h.few q b).2⟩
theorem NxK.trans {B:Nat}{X Y Z:World}{vo c:Value}(d:Keep (NxK B X vo) X Y)(p: ∀g,c.ownBlock=some g->vo.ownBlock=some g∨X.heap.size<=g)(l:Keep (NxK B Y c) Y Z):Keep (NxK B X vo) X Z:=
 d.trans (l.mono fun b m h=>⟨m,h.2.1,fun e=>by
  rcases p b e with h3 |h3
  ·exact h.2.2 h3
  ·have:=h.1;omega⟩)
theorem q1h {B:Nat}{X Y:World}{vo:Value}(h:wG X Y):Keep (NxK B X vo) X Y:=h.mt
theorem NxO.put {B:Nat}{X:World}{p r s t u x y vo vh vv:Value}{c:List MQ}(h:NxO B X (fun v=> #[p,r,s,t,u,x,y,v]) vo c){m:qa0}(R:X.ownsRow 0 9 1 vh m.head.length (m.head.map .string))(U:X.ownsRow 0 9 1 vv m.vals.length (m.vals.map .string))(l:m.head.length<=1073741824/\m.vals.length<=1073741824)(hl:c.length<1073741824):
  Calls prog 62 #[qi B,.agg #[vh,vv]] X fun e Y=> ∃v0 vo' qs',e=.returned v0/\NxO B Y (fun v=> #[p,r,s,t,u,x,y,v]) vo' qs'/\Keep (NxK B X vo) X Y/\qs'.map (·.1)=qdd (c.map (·.1)) m/\(∀g,vo'.ownBlock=some g->vo.ownBlock=some g∨X.heap.size<=g)/\qs'.length=c.length+1:=by
 refine(qys (n:=X.heap.size) h.box h.own (Nat.lt_succ_self B) (zG _) (by have:=qe h.box;omega) h.mq ⟨qbq R l.1,qbq U l.2⟩ hl).mono ?_;rintro e Y ⟨v0,vo',k,rfl,h1,h2,h3,z,h5⟩;have hK:Keep (NxK B X vo) X Y:=h2;have d: ∀q,q∈c.take k++(m,vh,vv)::c.drop k->q∈c∨q=(m,vh,vv):=fun q b=>by
  rcases zr.1 b with b |b
  ·exact .inl (xm b)
  ·rcases zw.1 b with b |b
   ·exact .inr b
   ·exact .inl (mem_of_mem_drop b)
 refine⟨v0,vo',_,rfl,⟨h1,h3,fun q b=>?_,fun q b=>?_⟩,hK,z.symm,h5,?_⟩
 ·rcases d q b with b |rfl
  ·exact⟨h.row (h.rows q b).1 wF wF hK,h.row (h.rows q b).2 wF wF hK⟩
  ·exact⟨h.row R wF wF hK,h.row U wF wF hK⟩
 ·rcases d q b with b |rfl
  ·exact h.few q b
  ·exact l
 ·rw [zR,length_cons,yC,xx];by_cases hk:k<=c.length
  ·omega
  ·have:=yO List.length z;rw [zL,zR,length_cons,yC,xx]at this;have h6:(qdd (c.map (·.1)) m).length=c.length+1:=by rw [qx2,zL]
   omega
end Go.Proofs
namespace Go.Proofs
open Go.RowKit Go.Ink Go.Flt R4 P16
attribute [local go_sem] Oper.semAt_some
theorem q4q {r:RuleD}{n i:Nat}{A:qcn}{a a':Asg}{xs:List ByteArray}(hi:(qaf r.body)[n]?=some i)(hA:(r.body.getD i default).atom=A)(h: ∀x,x∈q8 r.body ((qaf r.body).take n)-> ∃v,a x=some v)(c:qbg a A.args xs=some a'): ∀x,x∈q8 r.body ((qaf r.body).take (n+1))-> ∃v,a' x=some v:=fun x b=>by
 obtain⟨-,hd,-⟩:=qfk c;have d:=(qde (zH hi)).2;unfold qbm at d;unfold q8 at b h;rw [zh,hi,yG]at b;rcases zr.1 b with b |b
 ·exact(hd x).2 (.inl (h x b))
 ·refine(hd x).2 (.inr ?_);simp only [Option.toList_some,yF,xp,yQ]at b;rw [zF wC,hA]at b;exact b
theorem q1i {r:RuleD}(c:qce r){a:Asg}(h: ∀x,x∈q8 r.body (qaf r.body)-> ∃v,a x=some v): ∀t,t∈qb4 r->KnT (qu r) a t:=fun t d e=>by
 have b:t.text∈r.names:=by
  rw [qk1 c.formed];unfold qaj;exact yL.2 ⟨t,yX.2 ⟨d,e⟩,rfl⟩
 exact⟨by unfold qu;exact(qep _ _).2 b,h _ (c.bound _ b)⟩
theorem qy2 {r:RuleD}(b:qce r){a:Asg}(h: ∀x,x∈q8 r.body (qaf r.body)-> ∃v,a x=some v): ∀x,x∈qu r-> ∃v,a x=some v:=fun x c=>h x (b.bound x ((qep _ _).1 c))
theorem q4r {B:Nat}{w0:World}{r:RuleD}{sh sb vv va vi:Value}{sN:Option Nat}{ps:List (qcn×Value)}{b8:List (Option Nat)}{Cs:Nat->List qk}{neg:List qk}(hr:qce r)(hC:NxC B w0 r sh sb vv va vi sN ps b8 Cs neg)(fr:B<=w0.heap.size):
  ∀(m n:Nat),n+m=ps.length-> ∀(W:World) (vo vl vk:Value) (qs:List MQ) (vals:List ByteArray) (kn:List Bool) (a:Asg),
   Keep (fun b=>b<B) w0 W->NxO B W (fun v=> #[.string r.head.pred,sh,sb,vv,va,vi,.pointer (sN.map fun S=>⟨S,0,none⟩),v]) vo qs->qcs (qu r) vals kn a->W.ownsRow 0 9 1 vl vals.length (vals.map .string)->W.ownsRow 0 4 1 vk kn.length (kn.map .bool)->
   (∀x,x∈q8 r.body ((qaf r.body).take n)-> ∃v,a x=some v)->qs.length+(nxM r Cs neg n a).length<=1000000->
   Calls prog 83 #[qi B,.int .i64 (n:Int),vl,vk] W fun e W'=> ∃v0 vo' qs',e=.returned v0/\NxO B W' (fun v=> #[.string r.head.pred,sh,sb,vv,va,vi,.pointer (sN.map fun S=>⟨S,0,none⟩),v]) vo' qs'/\Keep (NxK B W vo) W W'/\
    qs'.map (·.1)=(nxM r Cs neg n a).foldl qdd (qs.map (·.1))/\(∀g,vo'.ownBlock=some g->vo.ownBlock=some g∨W.heap.size<=g)/\qs'.length=qs.length+(nxM r Cs neg n a).length:=by
 obtain⟨pN,ah⟩:=ex ((sN.map fun S=>(⟨S,0,none⟩:Addr)));have aY:ps.length=(qaf r.body).length:=by
  have:=yO List.length hC.pmap;rw [zL,qmz,zL]at this;exact this
 obtain⟨ba,bc,rfl,-,-,-⟩:=id hC.rule.1;obtain⟨a9,bb,rfl,-,-,-⟩:=id hC.rule.2;obtain⟨av,cv,rfl,-,-,-⟩:=id hC.vars;obtain⟨ap,cp,rfl,fB,fy,az⟩:=id hC.atoms;obtain⟨ai,ci,rfl,eJ,eF,ay⟩:=id hC.ptrs;have bJ:=hC.len;rw [bJ]at eJ eF;intro m
 induction m with
 |zero=>
  intro n hn W vo vl vk qs vals kn a hK hO hA aj aA q af;have hn:n=ps.length:=wC
  subst hn;rw [aY,q8e]at af⊢;rw [aY,zi]at q;have bL:=q1i hr q;have ad:=hC.keep hK;have ez:=qe hO.box;have aL:vals=(qbn r a).vals:=qwj hA (qy2 hr q);have bP:=qbq aj (by rw [aL];unfold qbn;rw [zL];have:=qgx hr.formed r.body.length (zG _);rw [qfj hr.formed] at this;have:=qe0 hr.formed;omega);obtain⟨al,cl,rfl⟩:=qj aj;have c0:=qb hO.box 0 _ rfl;have c1:=qb hO.box 1 _ rfl;have c2:=qb hO.box 2 _ rfl;have c3:=qb hO.box 3 _ rfl;have c4:=qb hO.box 4 _ rfl;have c6:=qb hO.box 6 _ rfl;simp only [zD]at c0 c1 c2 c3 c4 c6;rw [ah]at c6;have hS: ∀X,wG W X->X.cell? ⟨B,0,none⟩=some (.string r.head.pred)/\X.cell? ⟨B,1,none⟩=some (.slice ba r.head.args.length bc)/\X.cell? ⟨B,2,none⟩=some (.slice a9 r.body.length bb)/\X.cell? ⟨B,3,none⟩=some (.slice av (qu r).length cv)/\X.cell? ⟨B,6,none⟩=some (.pointer pN):=fun X hX=>⟨hX.cell c0 wH,hX.cell c1 wH,hX.cell c2 wH,hX.cell c3 wH,hX.cell c6 wH⟩;obtain⟨Wd,ax⟩:=ex (W.drew);have kd:wG W Wd:=by rw [←ax];exact kDr
  have zd:=kd.size;have ak:=hS Wd kd;have ft:B<Wd.heap.size:=wC
  have ae:=ad.keep kd.mt;have y:=q1e (n:=Wd.heap.size) (w:=Wd) (pos:=fun i=>Cs (qcb r.body i)) (ae.rule.wider wC) hA (qb2 ae.vars wC) (qb2 (qan bP kd.mt) zd) (zG _) (ae.no.read wC) (fun L hL _ t ht=>bL t (by unfold qb4;exact mem_append_right _ (xF.2 ⟨L,hL,ht⟩)));unfold qam at y;rw [ah]at y;obtain⟨bR,bg⟩:=ex (qi5 (nxJ r.body Cs neg) r.body a);rw [bg]at af⊢;rw [show qi5 (qd3 r.body (fun i=>Cs (qcb r.body i)) neg) r.body a=bR from bg]at y;rw [←aY];have fb:((ps.length:Int)==ps.length)=true:=wE
  cases bR with
  |false=>
   rw [zF wE];refine qb5 ?_ hr hC ah az ay hK hO hA aj aA q bL ad aL bP hS;clear hr hC ah az ay hK hO hA aj aA q bL ad aL bP hS;intro aR cs aG bu bt bV U aP aI a2 ar cd aF aT bx aD;refine hd6 ?_ ax kd ak ae y bg;clear ax kd ak ae y bg;intro aE cx bn c8 au c7;unfold qi
   go_enter Tryz.func83,Tryz.ntmps83
   go_wp2_with fail;refine qa5 rfl (fun X=>X.cell? ⟨B,0,none⟩=some (.string r.head.pred)/\X.cell? ⟨B,1,none⟩=some (.slice ba r.head.args.length bc)/\X.cell? ⟨B,2,none⟩=some (.slice a9 r.body.length bb)/\X.cell? ⟨B,3,none⟩=some (.slice av (qu r).length cv)/\X.cell? ⟨B,6,none⟩=some (.pointer pN)) [] ?_;rw [aE.o];refine qy [0,1,2,3,4,5,6,7,8,9,10,11,12] ?_
   iterate 13
    refine tkN (v:=?_) rfl bn.o ?_ ?_;rotate_left
    ·rintro Wq ⟨x1,x2,x3,x4,x5⟩;go_simp
     try with_reducible rfl
    try simp only [qz]
   refine qm ?_;refine ho 13 rfl fun K d=>?_;go_wp2_with fail;refine au.o.mono ?_;rintro e W1 ⟨rfl,k1⟩;have aB:wG W W1:=cx.o.trans (k1.mono fun b hb _=>hb);have aJ:=aD.o W1 aB;have ey:B<W1.heap.size:=by have:=aB.size;omega
   clear k1;refine hd2 ?_ aB aJ;clear aB aJ;intro ao bo;go_wp2_with fail;refine d.o _ _ (fun _=>bo.o) ?_;refine qbh wD ?_;clear d;go_wp2_with fail;refine yA (yw rfl _ _ _) rfl ⟨_,vo,qs,rfl,U.o.keep ao.o,q1h ao.o,rfl,fun g h=>.inl h,rfl⟩
  |true=>
   rw [zI rfl]at af⊢;refine qb5 ?_ hr hC ah az ay hK hO hA aj aA q bL ad aL bP hS;clear hr hC ah az ay hK hO hA aj aA q bL ad aL bP hS;intro aR cs aG bu bt bV U aP aI a2 ar cd aF aT bx aD;refine hd6 ?_ ax kd ak ae y bg;clear ax kd ak ae y bg;intro aE cx bn c8 au c7;unfold qi
   go_enter Tryz.func83,Tryz.ntmps83
   go_wp2_with fail;refine qa5 rfl (fun X=>X.cell? ⟨B,0,none⟩=some (.string r.head.pred)/\X.cell? ⟨B,1,none⟩=some (.slice ba r.head.args.length bc)/\X.cell? ⟨B,2,none⟩=some (.slice a9 r.body.length bb)/\X.cell? ⟨B,3,none⟩=some (.slice av (qu r).length cv)/\X.cell? ⟨B,6,none⟩=some (.pointer pN)) [] ?_;rw [aE.o];refine qy [0,1,2,3,4,5,6,7,8,9,10,11,12] ?_
   iterate 13
    refine tkN (v:=?_) rfl bn.o ?_ ?_;rotate_left
    ·rintro Wq ⟨x1,x2,x3,x4,x5⟩;go_simp
     try with_reducible rfl
    try simp only [qz]
   refine qm ?_;refine ho 13 rfl fun K d=>?_;go_wp2_with fail;refine au.o.mono ?_;rintro e W1 ⟨rfl,k1⟩;have aB:wG W W1:=cx.o.trans (k1.mono fun b hb _=>hb);have aJ:=aD.o W1 aB;have ey:B<W1.heap.size:=by have:=aB.size;omega
   clear k1;refine hd2 ?_ aB aJ;clear aB aJ;intro ao bo;go_wp2_with fail;refine d.o _ _ (fun _=>bo.o) ?_;refine qbh wD ?_;clear d;have z:=U.o.keep ao.o;have cC:=aF.o.keep ao.o.mt;obtain⟨We,cB⟩:=ex (W1.drew);have ke:wG W1 We:=by rw [←cB];exact kDr
   have bS:=ao.o.trans ke;have dz:=aD.o We bS;have fu:B<We.heap.size:=by have:=ke.size;omega
   have dH:=qr4 (n:=We.heap.size) (w:=We) aP.o (qb2 (cC.vars |>fun h=>qan h ke.mt) wC) (qb2 (qan bx.o bS.mt) bS.size) (zG _) r.head (qfn (qak cC.rule.1 ke.mt) wC) (fun t ht=>cd.o t (by unfold qb4;exact xf _ ht));clear cC;refine hd6 ?_ z cB ke bS dz dH;clear z cB ke bS dz dH;intro am cZ fk dn cW da;go_wp2_with fail;refine qa5 rfl (fun X=>X.cell? ⟨B,0,none⟩=some (.string r.head.pred)/\X.cell? ⟨B,1,none⟩=some (.slice ba r.head.args.length bc)/\X.cell? ⟨B,2,none⟩=some (.slice a9 r.body.length bb)/\X.cell? ⟨B,3,none⟩=some (.slice av (qu r).length cv)/\X.cell? ⟨B,6,none⟩=some (.pointer pN)) [] ?_;rw [cZ.o];refine qy [0,1,2,3,4,5,6,7,8,9,10,13] ?_
   iterate 12
    refine tkN (v:=?_) rfl cW.o ?_ ?_;rotate_left
    ·rintro Wq ⟨x1,x2,x3,x4,x5⟩;go_simp
     try with_reducible rfl
    try simp only [qz]
   refine qm ?_;refine ho 11 rfl fun K d=>?_;go_wp2_with fail;refine da.o.mono ?_;rintro e W2 ⟨v1,rfl,o1,k2⟩;have bk:=dn.o.trans k2;have dw:=aD.o W2 bk;have cA:=U.o.keep bk;have co:=qf aI.o bk fun _ _=>trivial;have cD:(qbn r a).head.length=r.head.args.length:=by unfold qbn;rw [zL]
   have d5:W2.ownsRow 0 9 1 v1 (qbn r a).head.length ((qbn r a).head.map .string):=by rw [cD];exact o1.mono (yc _)
   have cq:W2.ownsRow 0 9 1 (.slice al vals.length cl) (qbn r a).vals.length ((qbn r a).vals.map .string):=by rw [←aT.o];exact co
   have a5:=cA.put d5 cq ⟨by rw [cD];have:=qht aR.o.formed;omega,by rw [←aT.o];obtain⟨_,_,_,h,_⟩:=id bx.o;exact h⟩ wC;rw [aG.o]at a5;obtain⟨a1,ds,rfl⟩:=qj o1;have eG: ∀w,(Instr.field 52 (.agg #[.string r.head.pred,.slice a1 r.head.args.length ds]) 1).run prog w=.ok (.slice a1 r.head.args.length ds) w:=fun _=>wD
   have fs:B<W2.heap.size:=by have:=bk.size;omega
   unfold qi at a5;clear o1 d5 co cq cD k2;refine hd4 ?_ bk dw cA a5;clear bk dw cA a5;intro cg ca eW cu;go_wp2_with fail;refine d.o _ _ (fun _=>ca.o) ?_;refine qy [12,14] ?_
   iterate 2
    refine tkN (v:=?_) rfl ca.o ?_ ?_;rotate_left
    ·rintro Wq ⟨x1,x2,x3,x4,x5⟩;go_simp
     try simp only [eG]
     try with_reducible rfl
    try simp only [qz]
   refine qm ?_;refine ho 15 rfl fun K u=>?_;go_wp2_with fail;refine cu.o.mono ?_;rintro e W3 ⟨v0,vo',qs',rfl,aU,k3,dP,dJ,eH⟩;have d0:=qb aU.box 0 _ rfl;have d1:=qb aU.box 1 _ rfl;have d2:=qb aU.box 2 _ rfl;have d3:=qb aU.box 3 _ rfl;have d6:=qb aU.box 6 _ rfl;simp only [zD]at d0 d1 d2 d3 d6;have dx:W3.cell? ⟨B,0,none⟩=some (.string r.head.pred)/\W3.cell? ⟨B,1,none⟩=some (.slice ba r.head.args.length bc)/\W3.cell? ⟨B,2,none⟩=some (.slice a9 r.body.length bb)/\W3.cell? ⟨B,3,none⟩=some (.slice av (qu r).length cv)/\W3.cell? ⟨B,6,none⟩=some (.pointer pN):=⟨d0,d1,d2,d3,d6⟩;have bK:Keep (NxK B W vo) W W3:=NxK.trans (q1h cg.o) (fun g h=>.inl h) k3;have bI: ∀g,vo'.ownBlock=some g->vo.ownBlock=some g∨W.heap.size<=g:=fun g h=>by
    rcases dJ g h with h |h
    ·exact .inl h
    ·exact .inr (by have:=cg.o.size;omega)
   clear d0 d1 d2 d3 d6 dJ k3;refine hd5 ?_ aU dx bK bI dP;clear aU dx bK bI dP;intro cX cU bw bv dg;go_wp2_with fail;refine u.o _ _ (fun _=>cU.o) ?_;refine qbh wD ?_;clear d u;go_wp2_with fail;refine yA (yw rfl _ _ _) rfl ⟨_,vo',qs',rfl,by rw [aG.o];exact cX.o,bw.o,dg.o,bv.o,eH⟩
 |succ m ih=>
  intro n hn W vo vl vk qs vals kn a hK hO hA aj aA q af;have eL:n<ps.length:=wC
  obtain⟨p,hp⟩: ∃p,ps[n]?=some p:=⟨_,zB eL⟩;obtain⟨s,hs⟩: ∃s,b8[n]?=some s:=⟨_,zB wC⟩;have dT:=zH hp;have b6:(qas r.body)[n]?=some p.1:=by rw [←hC.pmap,zP,hp];rfl
  have bN:=q6y (Cs:=Cs) (neg:=neg) b6 a;rw [bN]at af⊢;obtain⟨i,hi⟩: ∃i,(qaf r.body)[n]?=some i:=⟨_,zB wC⟩;have bD:(r.body.getD i default).atom=p.1:=by
   rw [qmz,zP,hi]at b6;exact yI b6
  have b5: ∀t,t∈p.1.args->qex (qu r) t:=fun t ht=>by
   obtain⟨hl,hk⟩:=qde (zH hi);unfold qbm at hk;refine qyf hr (L:=r.body.getD i default) (by rw [zJ,zB hl];exact xG hl) ?_;unfold qq;rw [zF wC,bD];exact ht
  have ad:=hC.keep hK;have b7:=ad.sts n s hs;have ez:=qe hO.box;obtain⟨bp,op,eC,b3,bG⟩:=az n p hp;obtain⟨bi,oi,eB,dE,cm⟩:=ay n s hs;subst eC;subst eB;have p0:=hK.cell (bG 0 _ rfl) b3;have p1:=hK.cell (bG 1 _ rfl) b3;have i0:=hK.cell cm dE;simp only [Nat.add_zero,yB]at p0 i0;have fC:(0:Int)<=n:=wC
  have fD:(n:Int)<ps.length:=wC
  have fE:(n:Int)<b8.length:=wC
  have fF:((n:Int)==ps.length)=false:=y9.2 wC;rw [ah]at hO ih⊢;have c4:=qb hO.box 4 _ rfl;have c5:=qb hO.box 5 _ rfl;simp only [zD]at c4 c5;have e7:bp<W.heap.size:=wC
  have e6:bi<W.heap.size:=wC
  clear b6 bN bG cm;cases s with
  |none=>
   have cz:Cs n= []:=b7;rw [cz]at af⊢;simp only [Option.map_none]at i0;refine qb5 ?_ hr hC ah aY bJ az ay hK hO hA aj aA q b5 ad b7;clear hr hC ah aY bJ az ay hK hO hA aj aA q b5 ad b7;intro aR cs aG dj dd bu bt bV U aP aI a2 ar cc aF eY;refine hd6 ?_ hi bD hp hs ih cz;clear hi bD hp hs ih cz;intro dc b9 ee ef dm eV;unfold qi
   go_enter Tryz.func83,Tryz.ntmps83
   go_wp2_with fail
   go_loopw [8] (fun ix wr=>ix=.int .i64 0/\wr=W) (fun _ _=>0)
   case atStart=>exact⟨rfl,rfl⟩
   case round=>
    obtain⟨rfl,eN⟩:=hrel;subst eN;go_wp2_with fail;refine wA (yw rfl _ _ _) rfl ⟨_,vo,qs,rfl,U.o,Keep.refl _ _,rfl,fun g h=>.inl h,rfl⟩
  |some S=>
   obtain⟨dC,vS,hS,hF⟩:=b7;obtain⟨c,hc⟩:=ex (Cs n);have aX:=hC.ok n;rw [hc]at hF aX af⊢;obtain⟨aS,cS,rfl,fA,fx,dG⟩:=id hF;simp only [Option.map_some]at i0;have dX:=i0;refine qb5 ?_ hr hC ah aY bJ az ay hK hO hA aj aA q b5 ad hi;clear hr hC ah aY bJ az ay hK hO hA aj aA q b5 ad hi;intro aR cs aG dj dd bu bt bV U aP aI a2 ar cc aF dc;refine qm6 ?_ bD hp hs ih hc aX hF dG hS p0 p1 dX dT;clear bD hp hs ih hc aX hF dG hS p0 p1 dX dT;intro b9 ee ef dm fj di fi c9 aD eh ei dl dk;unfold qi
   go_enter Tryz.func83,Tryz.ntmps83
   go_wp2_with fail;clear c4 c5 i0
   go_loopw [8] (fun ix wr=> ∃(k:Nat) (a0:Value) (aN:List MQ),k<=c.length/\ix=.int .i64 (k:Int)/\Keep (NxK B W vo) W wr/\NxO B wr (fun v=> #[.string r.head.pred,.slice ba r.head.args.length bc,.slice a9 r.body.length bb,.slice av (qu r).length cv,.slice (some ⟨bp,op,none⟩) ps.length cp,.slice (some ⟨bi,oi,none⟩) b8.length ci,.pointer pN,v]) a0 aN/\aN.map (·.1)=((c.take k).flatMap (nxF r Cs neg n a p.1)).foldl qdd (qs.map (·.1))/\(∀g,a0.ownBlock=some g->vo.ownBlock=some g∨W.heap.size<=g)/\aN.length=qs.length+((c.take k).flatMap (nxF r Cs neg n a p.1)).length) (fun ix _=>c.length-(intOf ix).toNat)
   case atStart=>exact⟨0,vo,qs,wC,rfl,Keep.refl _ _,U.o,rfl,fun g h=>.inl h,wE⟩
   case round=>
    obtain⟨k,a0,aN,hk,rfl,aK,z,aW,bh,aV⟩:=hrel;have l:=U.o.low aK;have fG:=aK.size;have c3:=qb z.box 3 _ rfl;have c4:=qb z.box 4 _ rfl;have c5:=qb z.box 5 _ rfl;have fv:=qe z.box;have e0:=l.cell eh.o b3;have e1:=l.cell ei.o b3;have j0:=l.cell dl.o dE;have eA:=qb (l.heap aD.o dC) 0 _ rfl;have lS:=qe (l.heap aD.o dC);simp only [zD]at c3 c4 c5 eA;have fR:bp<wr.heap.size:=wC
    have fQ:bi<wr.heap.size:=wC
    have fz:(0:Int)<=k:=wC
    by_cases dO:k<c.length
    ·as_aux_lemma=>
      have fa:(k:Int)<c.length:=wC
      obtain⟨f,bH⟩: ∃f,c[k]?=some f:=⟨_,zB dO⟩;obtain⟨bf,fS,rfl,dD,sv,a3,bO⟩:=c9.o k f bH;have q0:=l.cell (a3 0 _ rfl) dD;have q1:=l.cell (a3 1 _ rfl) dD;have fP:bf<wr.heap.size:=wC
      simp only [Nat.add_zero]at q0;have bM:(c.take (k+1)).flatMap (nxF r Cs neg n a p.1)=(c.take k).flatMap (nxF r Cs neg n a p.1)++nxF r Cs neg n a p.1 f:=by rw [zh,bH,yG];simp
      have eI:((c.take (k+1)).flatMap (nxF r Cs neg n a p.1)).length<=(c.flatMap (nxF r Cs neg n a p.1)).length:=by
       conv=>rhs;rw [←yy (k+1) c,yG,zR]
       omega
      obtain⟨M,hM⟩:=ex (wr.heap.size);obtain⟨W3,bd⟩:=ex (wr.alloc (.cells #[.string f.pred,sv] 52));have k3:wG wr W3:=by rw [←bd];exact kAl
      have p3:W3.heap[M]?=some (.cells #[.string f.pred,sv] 52 (0,0)):=by rw [←bd,←hM];exact qh _ _
      have m0:=qb p3 0 _ rfl;have m1:=qb p3 1 _ rfl;simp only [zD]at m0 m1;have b4:=k3.cell c4 trivial;have g0:=k3.cell e0 trivial;have lM:=qe p3;have z3:=k3.size;have fK:B<W3.heap.size:=wC
      have fN:bp<W3.heap.size:=wC
      have b1: ∀X,wG W3 X->X.cell? ⟨B,3,none⟩=some (.slice av (qu r).length cv)/\X.cell? ⟨B,4,none⟩=some (.slice (some ⟨bp,op,none⟩) ps.length cp)/\X.cell? ⟨bp,op+n*2,none⟩=some (.string p.1.pred)/\X.cell? ⟨bp,op+n*2+1,none⟩=some p.2/\X.cell? ⟨M,0,none⟩=some (.string f.pred)/\X.cell? ⟨M,1,none⟩=some sv:=fun X hX=>⟨hX.cell (k3.cell c3 wH) wH,hX.cell b4 wH,hX.cell g0 wH,hX.cell (k3.cell e1 wH) wH,hX.cell m0 wH,hX.cell m1 wH⟩;obtain⟨el,ep,rfl,-,-,-⟩:=id bO;by_cases bj:f.pred=p.1.pred
      ·have eM:=qdv bj;have dR:=zH bH;clear bH a3;refine qro ?_ bj aK z aW bh l bM b1 bd k3 p3 hM bO m1 e1;clear bj aK z aW bh l bM b1 bd k3 p3 hM bO m1 e1;intro ce u am an Y aa aH bq br bW ej ct cf eg ed;go_wp2_with fail;rw [br.o,ct.o]
       go_quiet (fail)
       go_wp2_with fail;obtain⟨W4,b2⟩:=ex (W3.drewN nq);rw [b2];have d4:wG W3 W4:=by rw [←b2];exact Keep.drewN' _ _ _
       obtain⟨Wd,ax⟩:=ex (W4.drew);have bU:wG W3 Wd:=by rw [←ax];exact d4.trans kDr
       have dy:=bq.o Wd bU;have aZ:=bW.o.trans bU;have ae:=(aF.o.keep aa.o).keep aZ.mt;have dV:=qf (U.o.row aI.o wF wF u.o) aZ fun _ _=>trivial;have dL:=qf (U.o.row a2.o wF wF u.o) aZ fun _ _=>trivial;have fI:=aZ.size;have cG:(qu r).length<=1073741824:=by have:=qgx aR.o.formed r.body.length (zG _);rw [qfj aR.o.formed] at this;have:=qe0 aR.o.formed;omega
       have dI:=q1c (n:=Wd.heap.size) (w:=Wd) aP.o (qzh r) (qb2 ae.vars wC) (qbq dV (by rw [aP.o.lv];exact cG)) (q1b dL rfl (by rw [aP.o.lk];exact cG)) (qb2 (qan cf.o (aa.o.trans aZ.mt)) wC) (fun s hs=>qur (di.o f dR) hs) (zG _) p.1 (qfn (ae.args p dk.o) wC) cc.o;have fL:B<Wd.heap.size:=wC
       have fO:bp<Wd.heap.size:=wC
       have fM:M<Wd.heap.size:=by have:=bU.size;omega
       clear dV dL cG ae d4;refine hd6 ?_ b2 ax bU dy aZ dI;clear b2 ax bU dy aZ dI;intro eX aE dp cV dr db;go_wp2_with fail;refine qa5 rfl (fun X=>X.cell? ⟨B,3,none⟩=some (.slice av (qu r).length cv)/\X.cell? ⟨B,4,none⟩=some (.slice (some ⟨bp,op,none⟩) ps.length cp)/\X.cell? ⟨bp,op+n*2,none⟩=some (.string p.1.pred)/\X.cell? ⟨bp,op+n*2+1,none⟩=some p.2/\X.cell? ⟨M,0,none⟩=some (.string f.pred)/\X.cell? ⟨M,1,none⟩=some (.slice el f.tuple.length ep)) [] ?_;rw [aE.o];refine qy [0,1,2,3,4,5,6,7,8,9,10,11,12,13,14] ?_
       iterate 15
        refine tkN (v:=?_) rfl cV.o ?_ ?_;rotate_left
        ·rintro Wq ⟨x1,x2,x3,x4,x5,x6⟩;go_simp
         try with_reducible rfl
        try simp only [qz]
       refine qm ?_;refine ho 15 rfl fun K d=>?_;go_wp2_with fail;refine db.o.mono ?_;rintro e W5 ⟨v',k',ok,rfl,k5,cE,bQ⟩;have aM:=dr.o.trans k5;have b0:=bq.o W5 (dp.o.trans k5);have bF:=am.o.keep aM;have fH:=aM.size;have a4:Keep (NxK B W vo) W W5:=u.o.trans aM.mt;cases ag:qbg a p.1.args f.tuple with
       |none=>
        have aX:=cE ag;subst aX;have ak:nxF r Cs neg n a p.1 f= []:=by unfold nxF;rw [zI ce.o,ag]
        have R:=aH.o;rw [ak,yQ]at R;clear cE bQ ag ak k5;refine hd5 ?_ aM b0 bF a4 R;clear aM b0 bF a4 R;intro dq aC cb aQ ab;go_wp2_with fail;refine d.o _ _ (fun _=>aC.o) ?_;refine qy [16,17,18,19,20,21,22] ?_
        iterate 7
         refine tkN (v:=?_) rfl aC.o ?_ ?_;rotate_left
         ·rintro Wq ⟨x1,x2,x3,x4,x5,x6⟩;go_simp
          try with_reducible rfl
         try simp only [qz]
        refine qm ?_;refine qbh wD ?_;clear d;go_wp2_with fail;go_roundw
        case rel=>exact⟨k+1,a0,aN,wC,by go_num,aQ.o,cb.o,by rw [ab.o];exact an.o,Y.o,by rw [ab.o];exact aV⟩
        case measure=>simp [intOf];omega
       |some a'=>
        obtain⟨aX,us,bs,dv,oU,oB⟩:=bQ a' ag;subst aX;have aJ:nxF r Cs neg n a p.1 f=nxM r Cs neg (n+1) a':=by unfold nxF;rw [zI ce.o,ag]
        have R:=aH.o;rw [aJ]at R;rw [R,zR]at eI;have a7:=dm.o (n+1) wC W5 a0 v' k' aN us bs a' ((bV.o.trans aa.o).trans aM.mt) bF dv (oU.mono (yc _)) (oB.mono (yc _)) (q4q dc.o b9.o ar.o ag) wC;rw [show((n+1:Nat):Int)=(n:Int)+1 from wC]at a7;unfold qi at a7;clear cE bQ ag aJ k5 dv oU oB;refine hd6 ?_ aM b0 bF a4 R a7;clear aM b0 bF a4 R a7;intro dq aC cb aQ ab cw;go_wp2_with fail;refine d.o _ _ (fun _=>aC.o) ?_;refine qy [16,17,18,19,20,21,22] ?_
        iterate 7
         refine tkN (v:=?_) rfl aC.o ?_ ?_;rotate_left
         ·rintro Wq ⟨x1,x2,x3,x4,x5,x6⟩;go_simp
          try with_reducible rfl
         try simp only [qz]
        refine qm ?_;refine qbh wD ?_;clear d;go_wp2_with fail;refine cw.o.mono ?_;rintro e W6 ⟨v0,d7,cJ,rfl,dB,k6,dQ,dK,dM⟩;have bK:=NxK.trans aQ.o Y.o k6;have dS:cJ.map (·.1)=((c.take (k+1)).flatMap (nxF r Cs neg n a p.1)).foldl qdd (qs.map (·.1)):=by rw [ab.o,yn,dQ,an.o]
        have bI: ∀g,d7.ownBlock=some g->vo.ownBlock=some g∨W.heap.size<=g:=fun g h=>by
         rcases dK g h with h |h
         ·exact Y.o g h
         ·exact .inr wC
        have dN:cJ.length=qs.length+((c.take (k+1)).flatMap (nxF r Cs neg n a p.1)).length:=by rw [ab.o,zR,dM,aV];omega
        clear k6 dQ dK dM;refine hd5 ?_ dB bK dS bI dN;clear dB bK dS bI dN;intro cY bw dh bv df;go_wp2_with fail;go_roundw
        case rel=>exact⟨k+1,d7,cJ,wC,by go_num,bw.o,cY.o,dh.o,bv.o,df.o⟩
        case measure=>simp [intOf];omega
      ·have eM:=qc1 bj;have ak:nxF r Cs neg n a p.1 f= []:=by unfold nxF;rw [zF bj]
       rw [ak,yQ]at bM;clear bH a3 bj ak;refine qlu ?_ aK z aW bh l bM b1 bd k3 p3 hM bO m1 e1;clear aK z aW bh l bM b1 bd k3 p3 hM bO m1 e1;intro u am an Y aa aH bq br bW ej ct cf eg ed;go_wp2_with fail;rw [br.o,ct.o]
       go_quiet (fail)
       go_wp2_with fail;go_roundw
       case rel=>exact⟨k+1,a0,aN,wC,by go_num,u.o.trans ((bW.o.trans (Keep.drewN' _ _ _)).mt),am.o.keep (bW.o.trans (Keep.drewN' _ _ _)),by rw [aH.o];exact an.o,Y.o,by rw [aH.o];exact aV⟩
       case measure=>simp [intOf];omega
    ·as_aux_lemma=>
      obtain rfl:k=c.length:=wC
      rw [zi]at aW aV;clear dO;rw [length_flatMap]at aV;refine hd6 ?_ aK z aW bh l aV;clear aK z aW bh l aV;intro u am an Y aa de;go_wp2_with fail;refine wA (yw rfl _ _ _) rfl ?_;exact⟨⟨_,rfl⟩,a0,aN,am.o,u.o,an.o,Y.o,de.o⟩
end Go.Proofs
