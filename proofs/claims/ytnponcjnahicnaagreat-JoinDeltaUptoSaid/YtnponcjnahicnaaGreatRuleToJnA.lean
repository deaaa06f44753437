/- Parts of the proof. -/
import Derived.Test.YtnponcjnahicnaaGreatTermsToSet
set_option linter.unusedSimpArgs false
set_option linter.unusedVariables false
set_option maxRecDepth 100000
set_option maxHeartbeats 2000000
open Go.Proofs.Tryz(prog)
open List(mem_map_of_mem nil_append nodup_nil)
namespace Go.Proofs.S12
open Go.RowKit Go.Ink
attribute [local go_sem] Oper.semAt_some
def looseOf (r:RuleD):Option ByteArray:=r.names.find? fun x=>decide (x∉qcm r.body)
def ruleAns:Option ByteArray->Value
 |none=>.tuple #[.string ⟨#[]⟩,.bool true]
 |some x=>.tuple #[.string x,.bool false]
structure RuleSt (n1 Bs Bb Bm M:Nat)(w:World)(s:List ByteArray)(W:World):Prop where
 sbox: ∃u,W.heap[Bs]?=some (.cells #[.string u] 9 (0,0))
 bbox: ∃u,W.heap[Bb]?=some (.cells #[.bool u] 4 (0,0))
 mbox:W.heap[Bm]?=some (.cells #[.map (some M)] 144 (0,0))
 set:SetIn W M s
 old:Keep (fun k=>k<n1) w W
theorem RuleSt.keep {n1 Bs g Bm M:Nat}{w:World}{s:List ByteArray}{W l:World}{C:Nat->Prop}(h:RuleSt n1 Bs g Bm M w s W)(hK:Keep C W l)
  (v:C Bs) (x:C g) (q:C Bm) (p:C M) (r: ∀b,b<n1->C b):RuleSt n1 Bs g Bm M w s l:=by
 obtain⟨⟨u,a⟩,⟨m,b⟩,c,d,e⟩:=h;exact⟨⟨u,hK.heap a v⟩,⟨m,hK.heap b x⟩,hK.heap c q,d.keep hK p,e.trans (hK.mono fun b _ t=>r b t)⟩
theorem rule_any (r:RuleD)(sh sb:Value)(w:World)(hr:RuleIn w.heap.size w sh sb r)(hN:(r.body.flatMap LitD.uses).length<=1073741824):
  Calls prog 41 #[.agg #[.string r.head.pred,sh,sb]] w fun e w'=>e=.returned (ruleAns (looseOf r))/\Keep (fun k=>k<w.heap.size) w w':=by
 refine qgb Tryz.func41 rfl ?_;simp only [Tryz.ntmps41,qd0,Nat.reduceAdd,Nat.reduceSub];obtain⟨⟨ah,q,rfl,bw,bm,ak⟩,⟨ab,u,rfl,bv,bi,an⟩⟩:=id hr;have ay:= @run_makeMap prog;refine hd3 ?_ hr ak an;clear hr ak an;intro aX br bG;gi_wp2;refine⟨wH,rfl,qwv (fun W0=>wG w W0/\W0.heap.size=w.heap.size+1+1+1/\W0.heap[w.heap.size]?=some (.cells (qcz r (.slice ah r.head.args.length q) (.slice ab r.body.length u)).toArray 27 (0,0))/\
   W0.heap[w.heap.size+1]?=some (.cells #[.string ⟨#[]⟩] 9 (0,0))/\W0.heap[w.heap.size+1+1]?=some (.cells #[.bool false] 4 (0,0)))
   ⟨(kAl.trans kAl).trans kAl,wE,by simp only [qao,zO,xI];simp [qcz],by simp only [qao,zO,xI];simp [qcz],by simp only [qao,zO,xI];simp [qcz]⟩ ?_⟩
 rintro W0 ⟨k0,s0,a1,a2,a3⟩;have aw:=aX.o.keep k0.mt;refine(zU.2 (q4a w.heap.size _ _ W0 aw.2 wC hN)).mono ?_;rintro e W1 ⟨v1,rfl,k1,o1⟩;have ax:(qcm r.body).length<=1073741824:=by
  refine zW (qm7 _) (zW ?_ hN);have aQ: ∀l:List LitD,((l.filter fun L=>L.kind==1).flatMap LitD.uses).length<=(l.flatMap LitD.uses).length:=by
   intro l
   induction l with
   |nil=>simp
   |cons L l ih=>
    by_cases h:(L.kind==1)=true
    ·simp only [yg,h,yj,yF,zR];omega
    ·simp only [yg,h,xA,yF,zR,zz];omega
  exact aQ _
 have aZ:=qbq o1 ax;have z1:=k1.size;clear o1;refine hd8 ?_ aw k0 a1 a2 a3 k1 aZ ax;clear aw k0 a1 a2 a3 k1 aZ ax;intro bR ba bb bD bg af aP bH;gi_wp2;refine⟨wH,rfl,(zU.2 (q78 _ _ _ W1 aP.o (zG _))).mono ?_⟩;rintro e z ⟨rfl,k2,hS⟩;have z2:=k2.size;have b1:=k2.heap (af.o.heap bb.o wC) wC;have b2:=k2.heap (af.o.heap bD.o wC) wC;have b3:=k2.heap (af.o.heap bg.o wC) wC;have c0:=qb b1 0 _ rfl;have c1:=qb b1 1 _ rfl;have c2:=qb b1 2 _ rfl;simp only [zD,Nat.add_zero]at c0 c1 c2;have kk:Keep (fun k=>k<w.heap.size) w z:=(ba.o.mt.trans (af.o.mono fun b _ h=>wC)).trans (k2.mono fun b _ h=>wC);refine hd6 ?_ b1 b2 b3 kk k2 hS;clear b1 b2 b3 kk k2 hS;intro ch bF bl aL b4 aO;have cf:w.heap.size<z.heap.size:=wC
 gi_wp2;refine⟨wH,rfl,(zU.2 (qrj r _ _ _ _ _ _ _)).mono ?_⟩;rintro e w' ⟨rfl,rfl⟩;gi_wp2;refine qpe (fun R=>wG z R/\R.heap.size=z.heap.size+1+1/\R.heap[z.heap.size]?=some (.cells #[.map (some W1.heap.size)] 144 (0,0))/\
   R.heap[z.heap.size+1]?=some (.cells (qcz r (.slice ah r.head.args.length q) (.slice ab r.body.length u)).toArray 27 (0,0)))
  ⟨kAl.trans kAl,wE,by simp only [qao,zO,xI];simp [qcz],by simp only [qao,zO,xI];simp [qcz]⟩ ?_
 rintro R ⟨kW,sW,h1,h2⟩;have m:=aX.o.keep (w':=R) (aL.o.trans kW.mt);have hM:=SetIn.lt aO.o;have t:RuleSt w.heap.size (w.heap.size+1) (w.heap.size+1+1) z.heap.size W1.heap.size w (qcm r.body) R:=by
  refine⟨⟨_,kW.heap bF.o wH⟩,⟨_,kW.heap bl.o wH⟩,h1,?_,aL.o.trans kW.mt⟩;have:=aO.o.keep kW trivial
  rwa [qcm,qza] at this
 refine qk2 (gf:=114) (lb:= #[.pointer (some ⟨z.heap.size+1,0,none⟩)]) rfl (qdg Tryz.func114 wD rfl)
  (qn7 w.heap.size (z.heap.size+1) R r _ _ m.1 m.2 wC wC) (fun _=>rfl) (fun _ h=>h.elim)
  ⟨h2,Keep.refl _ _⟩ (fun X Y hv hK=>qc0 hv hK (fun k hk=>wC) wC)
  (fun k O X=>RuleSt w.heap.size (w.heap.size+1) (w.heap.size+1+1) z.heap.size W1.heap.size w (qcm r.body) X/\ ∀x,x∈r.names.take k->x∈qcm r.body)
  (fun c k O X=>qto c/\Keep (fun k=>k<w.heap.size) w X/\ ∃x,looseOf r=some x/\X.heap[w.heap.size+1]?=some (.cells #[.string x] 9 (0,0))/\X.heap[w.heap.size+1+1]?=some (.cells #[.bool false] 4 (0,0))) ?hI ?hIx ?h0 ?round ?done ?stop
 case hI=>
  rintro k O X Y ⟨h,hh⟩ hK;exact⟨h.keep hK (.inl ⟨wC,fun h=>h⟩) (.inl ⟨wC,fun h=>h⟩) (.inl ⟨wC,fun h=>h⟩) (.inl ⟨wC,fun h=>h⟩) (fun b hb=>.inl ⟨wC,fun h=>h⟩),hh⟩
 case hIx=>
  rintro c k O X Y ⟨hc,hk,x,h1,h2,h3⟩ hK;exact⟨hc,hk.trans (hK.mono fun b _ hb=>.inl ⟨wC,fun h=>h⟩),x,h1,hK.heap h2 (.inl ⟨wC,fun h=>h⟩),hK.heap h3 (.inl ⟨wC,fun h=>h⟩)⟩
 case h0=>exact⟨t,wE⟩
 case round=>
  intro lr k O X b0 b6 aN hk hI hV cb;obtain⟨s,hs⟩:=ex ((r.stands.getD k default).2);have aT:r.names[k]?=some s:=by simp [RuleD.names,←hs,List.getD,zB hk]
  rw [hs];clear h1 h2 kW ay c0 c1 c2 t;refine hd7 ?_ hI hs aT hV hk aN m;clear hI hs aT hV hk aN m;intro ag bV al aA ce bO am;gi_wp2;refine⟨Keep.refl _ _,fun Y hY aY aV=>?_⟩;have ai:=ag.o.1.keep hY wC wC wC wC (fun b hb=>wC);have aj:=qc0 aA.o hY (fun b hb=>wC) wC;obtain⟨⟨us,p1⟩,⟨ub,p2⟩,p3,p4,p5⟩:=id ai;have d2:=qbz p3;have aU:=qiw (P:=prog) (T:=144) (K:=9) (E:=4) Tryz.underlying144 Tryz.underlying9 (fun _=>wD) p4 s;have av:r.names.take (k+1)=r.names.take k++ [s]:=by rw [zh,al.o];rfl
  by_cases y:s∈qcm r.body
  ·have g:decide (s∈qcm r.body)=true:=by simpa using y
   rw [g]at aU;have hf:qey R.heap.size X.heap.size (qgq w.heap.size (z.heap.size+1) R (qcz r (.slice ah r.head.args.length q) (.slice ab r.body.length u)).toArray) O Y Y
     (fun O'=>RuleSt w.heap.size (w.heap.size+1) (w.heap.size+1+1) z.heap.size W1.heap.size w (qcm r.body) Y/\ ∀x,x∈r.names.take (k+1)->x∈qcm r.body):=
    ⟨O,fun _ h=>h,fun _ h=>.inl h,Keep.refl _ _,aj,ai,fun x hx=>by
     rw [av]at hx;rcases zr.1 hx with h |h
     ·exact ag.o.2 x h
     ·simp at h;subst h;exact y⟩
   clear ai aj p1 p2 p3 p4 p5 av y g hY aY aV;refine hd1 ?_ hf;clear hf;intro au;gi_wp2;exact au.o
  ·have g:decide (s∈qcm r.body)=false:=by simpa using y
   rw [g]at aU;have d:looseOf r=some s:=by
    exact q67 (fun x hx=>by simpa using ag.o.2 x hx) al.o (by simpa using y)
   have d3:=qbz p1;have bc:=qg p1 0;have d4:=qbz p2;have bt:=qg p2 0;have k3:Keep (fun b=>b≠w.heap.size+1/\b≠w.heap.size+1+1) Y ((Y.setCell ⟨w.heap.size+1,0,none⟩ (.string s)).setCell ⟨w.heap.size+1+1,0,none⟩ (.bool false)):=(kSc).trans (kSc);have hf:qey R.heap.size X.heap.size (qgq w.heap.size (z.heap.size+1) R (qcz r (.slice ah r.head.args.length q) (.slice ab r.body.length u)).toArray) O Y ((Y.setCell ⟨w.heap.size+1,0,none⟩ (.string s)).setCell ⟨w.heap.size+1+1,0,none⟩ (.bool false))
     (fun O'=>qto .ret/\Keep (fun k=>k<w.heap.size) w ((Y.setCell ⟨w.heap.size+1,0,none⟩ (.string s)).setCell ⟨w.heap.size+1+1,0,none⟩ (.bool false))/\ ∃x,looseOf r=some x/\((Y.setCell ⟨w.heap.size+1,0,none⟩ (.string s)).setCell ⟨w.heap.size+1+1,0,none⟩ (.bool false)).heap[w.heap.size+1]?=some (.cells #[.string x] 9 (0,0))/\
      ((Y.setCell ⟨w.heap.size+1,0,none⟩ (.string s)).setCell ⟨w.heap.size+1+1,0,none⟩ (.bool false)).heap[w.heap.size+1+1]?=some (.cells #[.bool false] 4 (0,0))):=
    ⟨O,fun _ h=>h,fun _ h=>.inl h,k3.mono (fun b _ h=>wC),qc0 aj k3 (fun b hb=>wC) wC,rfl,p5.trans (k3.mono fun b _ h=>wC),s,d,
     (Keep.setCell (C:=fun b=>b≠w.heap.size+1+1) _ _ _ wE).heap (qgn _ p1) wC,qgn _ ((Keep.setCell (C:=fun b=>b≠w.heap.size+1) _ _ _ wE).heap p2 wC)⟩
   have bq:w.heap.size+1<Y.heap.size:=qe p1;clear ai aj p1 p2 p3 p4 p5 av y g hY aY aV k3;refine hd2 ?_ hf d;clear hf d;intro au p;gi_wp2;exact au.o
 case done=>
  rintro D O W hD ad ae bu ⟨hI,U⟩ hV;have d:looseOf r=none:=by
   unfold looseOf;rw [yp];intro x hx;have:=U x (by rw [yz (by simp [RuleD.names])];exact hx)
   simpa using this
  obtain⟨⟨us,p1⟩,⟨ub,p2⟩,p3,p4,p5⟩:=id hI;have d3:=qbz p1;have bc:=qg p1 0;have d4:=qbz p2;have bt:=qg p2 0;have bq:w.heap.size+1<W.heap.size:=qe p1;clear h1 h2 kW ay c0 c1 c2 t;refine qhv ?_ hI p1 p2 p3 p4 p5 hV ad ae m U d;clear hI p1 p2 p3 p4 p5 hV ad ae m U d;intro ag bf bj b5 bW bp aA aM aa am bs p;gi_wp2;have k3:Keep (fun b=>b≠w.heap.size+1/\b≠w.heap.size+1+1) W ((W.setCell ⟨w.heap.size+1,0,none⟩ (.string ⟨#[]⟩)).setCell ⟨w.heap.size+1+1,0,none⟩ (.bool true)):=(kSc).trans (kSc);refine qg0 [D] _ wE (fun E hE=>by simp at hE;subst hE;exact k3.heap aa.o wC) (fun w' hK hs=>?_);have q1:=qbz (hK.heap ((Keep.setCell (C:=fun b=>b≠w.heap.size+1+1) _ _ _ wE).heap (qgn (.string ⟨#[]⟩) bf.o) wC) (by simp;omega));have q2:=qbz (hK.heap (qgn (.bool true) ((Keep.setCell (C:=fun b=>b≠w.heap.size+1) _ _ (.string ⟨#[]⟩) wE).heap bj.o wC)) (by simp;omega));refine qb9 (v:=.tuple #[.string ⟨#[]⟩,.bool true]) (by simp [results,Tryz.results41,go_sem,q1,q2]) ⟨by rw [p.o];rfl,?_⟩;exact(bp.o.trans (k3.mono fun b _ h=>wC)).trans (hK.mono fun b _ h=>by simp;omega)
 case stop=>
  rintro D c k O W hD ad ae bu hk ⟨aR,hK,x,hl,q1,q2⟩ hV;obtain rfl:c=.ret:=aR;clear h1 h2 kW ay c0 c1 c2 t;refine hd8 ?_ hK q1 q2 hV ad ae m hl;clear hK q1 q2 hV ad ae m hl;intro bd bh bk aA aM aa am bx;gi_wp2;refine qg0 [D] _ wE (fun E hE=>by simp at hE;subst hE;exact aa.o) (fun w' hK hs=>?_);have q1:=qbz (hK.heap bh.o (by simp;omega));have q2:=qbz (hK.heap bk.o (by simp;omega));refine qb9 (v:=.tuple #[.string x,.bool false]) (by simp [results,Tryz.results41,go_sem,q1,q2]) ⟨by rw [bx.o];rfl,?_⟩;exact bd.o.trans (hK.mono fun b _ h=>by simp;omega)
end Go.Proofs.S12
namespace Go.Ink
abbrev Asg:=ByteArray->Option ByteArray
def qca:Asg:=fun _=>none
def qaa (a:Asg)(t:TermD):Option ByteArray:=if t.var then a t.text else some t.text
def qaz (a:Asg)(t:TermD):ByteArray:=(qaa a t).getD ⟨#[]⟩
def qfv (a:Asg)(x v:ByteArray):Asg:=fun y=>if y=x then some v else a y
def qbg (a:Asg):List TermD->List ByteArray->Option Asg
 | [],[]=>some a
 |t::ts,x::xs=>match qaa a t with
  |some y=>if y=x then qbg a ts xs else none
  |none=>qbg (qfv a t.text x) ts xs
 |_,_=>none
def ExtA (a b:Asg):Prop:= ∀x v,a x=some v->b x=some v
def qir (a b:Asg)(xs:List ByteArray):Prop:= ∀x,(∃v,b x=some v)↔(∃v,a x=some v)∨x∈xs
def qaj (ts:List TermD):List ByteArray:=(ts.filter (·.var)).map (·.text)
theorem ExtA.refl (a:Asg):ExtA a a:=fun _ _ h=>h
theorem ExtA.trans {a b c:Asg}(h:ExtA a b)(g:ExtA b c):ExtA a c:=fun x v d=>g x v (h x v d)
theorem qkh {a b:Asg}(h:ExtA a b){t:TermD}{y:ByteArray}(c:qaa a t=some y):qaa b t=some y:=by
 unfold qaa at c⊢;cases d:t.var with
 |true=>rw [d] at c;simp only [yj] at c⊢;exact h _ _ c
 |false=>rw [d] at c;simpa using c
theorem qn2 {a:Asg}{t:TermD}(h:qaa a t=none):t.var=true/\a t.text=none:=by
 unfold qaa at h;cases b:t.var with
 |true=>rw [b] at h;exact⟨rfl,by simpa using h⟩
 |false=>rw [b] at h;cases h
theorem qv0 {a:Asg}{x v:ByteArray}(h:a x=none):ExtA a (qfv a x v):=fun y w b=>by
 unfold qfv;by_cases e:y=x
 ·subst e;rw [h] at b;cases b
 ·rw [zF e];exact b
theorem qrx (a:Asg)(x v:ByteArray):qfv a x v x=some v:=by unfold qfv;rw [zI rfl]
theorem qfk {ts:List TermD}: ∀{a a':Asg} {xs:List ByteArray},qbg a ts xs=some a'->ExtA a a'/\qir a a' (qaj ts)/\ts.map (qaa a')=xs.map some:=by
 induction ts with
 |nil=>
  intro a a' xs h;cases xs with
  |nil=>cases h;exact⟨ExtA.refl _,fun x=>by simp [qaj],rfl⟩
  |cons x xs=>cases h
 |cons t ts ih=>
  intro a a' xs h;cases xs with
  |nil=>cases h
  |cons x xs=>
   unfold qbg at h;split at h
   ·rename_i y hy;split at h
    ·rename_i he;subst he;obtain⟨c,g,d⟩:=ih h;refine⟨c,fun z=>?_,?_⟩
     ·rw [g z];unfold qaj;rw [yg];by_cases b:t.var=true
      ·rw [zI b,yZ,zw];constructor
       ·rintro(h |h)
        ·exact .inl h
        ·exact .inr (.inr h)
       ·rintro(h |rfl |h)
        ·exact .inl h
        ·refine .inl ⟨y,?_⟩;unfold qaa at hy;rw [zI b]at hy;exact hy
        ·exact .inr h
      ·rw [zF b]
     ·rw [yZ,yZ,d,qkh c hy]
    ·cases h
   ·rename_i hy;obtain⟨b,l⟩:=qn2 hy;obtain⟨c,g,d⟩:=ih h;refine⟨(qv0 l).trans c,fun z=>?_,?_⟩
    ·rw [g z];unfold qaj;rw [yg,zI b,yZ,zw];unfold qfv;by_cases e:z=t.text
     ·subst e;simp
     ·rw [zF e];simp [e]
    ·rw [yZ,yZ,d];have:qaa a' t=some x:=by
      unfold qaa;rw [zI b];exact c _ _ (qrx _ _ _)
     rw [this]
theorem qv1 {ts:List TermD}: ∀{a b:Asg} {xs:List ByteArray},ExtA a b->ts.map (qaa b)=xs.map some-> ∃a',qbg a ts xs=some a'/\ExtA a' b:=by
 induction ts with
 |nil=>
  intro a b xs c h;cases xs with
  |nil=>exact⟨a,rfl,c⟩
  |cons x xs=>cases h
 |cons t ts ih=>
  intro a b xs c h;cases xs with
  |nil=>cases h
  |cons x xs=>
   rw [yZ,yZ]at h;injection h with h1 h2
   unfold qbg;split
   ·rename_i y hy;have:=qkh c hy;rw [h1]at this;cases this;rw [zI rfl];exact ih c h2
   ·rename_i hy;obtain⟨g,l⟩:=qn2 hy;refine ih ?_ h2;intro z v d;unfold qfv at d;by_cases e:z=t.text
    ·subst e;rw [zI rfl]at d;cases d;unfold qaa at h1;rw [zI g]at h1;exact h1
    ·rw [zF e]at d;exact c z v d
theorem qv2 {a b c:Asg}{xs:List ByteArray}(m:ExtA b c)(l:qir a b xs)(h:qir a c xs):b=c:=by
 funext x
 cases e:b x with
 |some v=>exact(m x v e).symm
 |none=>
  cases g:c x with
  |none=>rfl
  |some v=>
   obtain⟨w,d⟩:=(l x).2 ((h x).1 ⟨v,g⟩);rw [e]at d;cases d
structure qbd where
 pos:Nat->List (List ByteArray)
 neg:Nat->List (List ByteArray)
def qgi (J:qbd)(body:List LitD)(b:Asg)(i:Nat):Prop:=
 if (body.getD i default).kind=3 then qaa b (body.getD i default).left≠qaa b (body.getD i default).right
 else if (body.getD i default).kind=2 then (body.getD i default).atom.args.map (qaz b)∉J.neg i
 else∃t,t∈J.pos i/\(body.getD i default).atom.args.map (qaa b)=t.map some
def qbl (J:qbd)(body:List LitD):List Nat->Asg->List Asg
 | [],a=> [a]
 |i::is,a=>
  if (body.getD i default).kind=3 then (if qaa a (body.getD i default).left=qaa a (body.getD i default).right then [] else qbl J body is a)
  else if (body.getD i default).kind=2 then (if (body.getD i default).atom.args.map (qaz a)∈J.neg i then [] else qbl J body is a)
  else (J.pos i).flatMap fun t=>match qbg a (body.getD i default).atom.args t with
   |some a'=>qbl J body is a'
   |none=> []
def q8 (body:List LitD)(is:List Nat):List ByteArray:=is.flatMap fun i=>if (body.getD i default).kind=3∨(body.getD i default).kind=2 then [] else qaj (body.getD i default).atom.args
theorem qdm (body:List LitD)(i:Nat):q8 body [i]=if (body.getD i default).kind=3∨(body.getD i default).kind=2 then [] else qaj (body.getD i default).atom.args:=by
 unfold q8;rw [yF,xp,yQ]
def qv3 (a:Asg)(t:TermD):Prop:= ∃y,qaa a t=some y
def qg9 (body:List LitD):List Nat->(ByteArray->Prop)->Prop
 | [],_=>True
 |i::is,K=>
  ((body.getD i default).kind=3-> ∀t,t=(body.getD i default).left∨t=(body.getD i default).right->t.var=true->K t.text)/\
  ((body.getD i default).kind=2-> ∀t,t∈(body.getD i default).atom.args->t.var=true->K t.text)/\
  qg9 body is (fun x=>K x∨x∈q8 body [i])
theorem qha {a b:Asg}{t:TermD}(h:qv3 a t)(d:ExtA a b):qaa b t=qaa a t:=by
 obtain⟨y,c⟩:=h;rw [c];exact qkh d c
theorem q3t {a b c:Asg}{xs d:List ByteArray}(h:qir a b xs)(g:qir b c d):qir a c (xs++d):=fun x=>by
 rw [g x,h x,zr,or_assoc]
theorem qln {J:qbd}{body:List LitD}: ∀(is:List Nat) (a b:Asg),qg9 body is (fun x=> ∃v,a x=some v)->
  (b∈qbl J body is a↔ExtA a b/\qir a b (q8 body is)/\ ∀i,i∈is->qgi J body b i):=by
 intro is
 induction is with
 |nil=>
  intro a b _;unfold qbl;rw [zm];constructor
  ·rintro rfl;exact⟨ExtA.refl _,fun x=>by simp [q8],fun i h=>by cases h⟩
  ·rintro⟨h1,d,-⟩;exact(qv2 (a:=a) (xs:= []) h1 (fun x=>wE) d).symm
 |cons i is ih=>
  intro a b hw;obtain⟨Y,w2,wr⟩:=hw;have z:q8 body (i::is)=q8 body [i]++q8 body is:=by unfold q8;simp
  have q: ∀t:TermD,(t.var=true-> ∃v,a t.text=some v)->qv3 a t:=fun t h=>by
   unfold qv3 qaa;cases hv:t.var with
   |true=>simpa using h hv
   |false=>exact⟨_,rfl⟩
  unfold qbl;by_cases l:(body.getD i default).kind=3
  ·have c:q8 body [i]= []:=by rw [qdm,zI (.inl l)]
   have r:qg9 body is (fun x=> ∃v,a x=some v):=by simpa [c] using wr
   rw [zI l,z,c,nil_append];have kl:=q _ (Y l _ (.inl rfl));have kr:=q _ (Y l _ (.inr rfl));split
   ·rename_i he;constructor
    ·intro h;cases h
    ·rintro⟨h1,-,d⟩;have:=d i (yJ ..);unfold qgi at this;rw [zI l,qha kl h1,qha kr h1]at this;exact absurd he this
   ·rename_i he;rw [ih a b r];constructor
    ·rintro⟨h1,d,h4⟩;refine⟨h1,d,fun k g=>?_⟩;rcases zw.1 g with rfl |g
     ·unfold qgi;rw [zI l,qha kl h1,qha kr h1];exact he
     ·exact h4 k g
    ·rintro⟨h1,d,h4⟩;exact⟨h1,d,fun k g=>h4 k (yD _ g)⟩
  ·by_cases d:(body.getD i default).kind=2
   ·have c:q8 body [i]= []:=by rw [qdm,zI (.inr d)]
    have r:qg9 body is (fun x=> ∃v,a x=some v):=by simpa [c] using wr
    rw [zF l,zI d,z,c,nil_append];have ka: ∀b:Asg,ExtA a b->(body.getD i default).atom.args.map (qaz b)=(body.getD i default).atom.args.map (qaz a):=fun b U=>by
     refine xC fun t s=>?_;unfold qaz;rw [qha (q t (w2 d t s)) U]
    split
    ·rename_i he;constructor
     ·intro h;cases h
     ·rintro⟨h1,-,h4⟩;have:=h4 i (yJ ..);unfold qgi at this;rw [zF l,zI d,ka b h1]at this;exact absurd he this
    ·rename_i he;rw [ih a b r];constructor
     ·rintro⟨h1,h5,h4⟩;refine⟨h1,h5,fun k g=>?_⟩;rcases zw.1 g with rfl |g
      ·unfold qgi;rw [zF l,zI d,ka b h1];exact he
      ·exact h4 k g
     ·rintro⟨h1,h5,h4⟩;exact⟨h1,h5,fun k g=>h4 k (yD _ g)⟩
   ·have u:q8 body [i]=qaj (body.getD i default).atom.args:=by rw [qdm,zF (fun h=>h.elim l d)]
    rw [zF l,zF d,z,u,xF];rw [u]at wr;have m: ∀a' t,qbg a (body.getD i default).atom.args t=some a'->qg9 body is (fun x=> ∃v,a' x=some v):=fun a' t p=>by
     have:=(qfk p).2.1;have e:(fun x=> ∃v,a' x=some v)=fun x=>(∃v,a x=some v)∨x∈qaj (body.getD i default).atom.args:=wB fun x=>propext (this x);rw [e];exact wr
    constructor
    ·rintro⟨t,s,hb⟩;split at hb
     ·rename_i a' p;obtain⟨f1,R,f3⟩:=qfk p;obtain⟨g1,g2,g3⟩:=(ih a' b (m a' t p)).1 hb;refine⟨f1.trans g1,q3t R g2,fun k g=>?_⟩;rcases zw.1 g with rfl |g
      ·unfold qgi;rw [zF l,zF d];refine⟨t,s,?_⟩;rw [←f3];refine xC fun x hx=>?_;have:qaa a' x∈(body.getD k default).atom.args.map (qaa a'):=mem_map_of_mem hx;rw [f3]at this;obtain⟨y,-,hy⟩:=yL.1 this;exact qha ⟨y,hy.symm⟩ g1
      ·exact g3 k g
     ·cases hb
    ·rintro⟨h1,h4,h5⟩;have X:=h5 i (yJ ..);unfold qgi at X;rw [zF l,zF d]at X;obtain⟨t,s,hm⟩:=X;obtain⟨a',p,U⟩:=qv1 h1 hm;refine⟨t,s,?_⟩;rw [p];refine(ih a' b (m a' t p)).2 ⟨U,fun x=>?_,fun k g=>h5 k (yD _ g)⟩;have R:=(qfk p).2.1;rw [h4 x,R x,zr,or_assoc]
theorem qn3 {J:qbd}{body:List LitD}(hJ: ∀i,(J.pos i).Nodup): ∀(is:List Nat) (a:Asg),qg9 body is (fun x=> ∃v,a x=some v)->(qbl J body is a).Nodup:=by
 intro is
 induction is with
 |nil=>intro a _;unfold qbl;simp
 |cons i is ih=>
  intro a hw;obtain⟨w3,w2,wr⟩:=hw;unfold qbl;by_cases r:(body.getD i default).kind=3
  ·have g:q8 body [i]= []:=by rw [qdm,zI (.inl r)]
   rw [zI r];split
   ·exact nodup_nil
   ·exact ih a (by simpa [g] using wr)
  ·by_cases s:(body.getD i default).kind=2
   ·have g:q8 body [i]= []:=by rw [qdm,zI (.inr s)]
    rw [zF r,zI s];split
    ·exact nodup_nil
    ·exact ih a (by simpa [g] using wr)
   ·have u:q8 body [i]=qaj (body.getD i default).atom.args:=by rw [qdm,zF (fun h=>h.elim r s)]
    rw [zF r,zF s];rw [u]at wr;have d: ∀a' t,qbg a (body.getD i default).atom.args t=some a'->qg9 body is (fun x=> ∃v,a' x=some v):=fun a' t m=>by
     have:=(qfk m).2.1;have e:(fun x=> ∃v,a' x=some v)=fun x=>(∃v,a x=some v)∨x∈qaj (body.getD i default).atom.args:=wB fun x=>propext (this x);rw [e];exact wr
    have key: ∀t b,b∈(match qbg a (body.getD i default).atom.args t with |some a'=>qbl J body is a' |none=> [])->(body.getD i default).atom.args.map (qaa b)=t.map some:=fun t b q=>by
     split at q
     ·rename_i a' m;obtain⟨f1,f2,Y⟩:=qfk m;obtain⟨g1,-,-⟩:=(qln is a' b (d a' t m)).1 q;rw [←Y];refine xC fun x hx=>?_;have:qaa a' x∈(body.getD i default).atom.args.map (qaa a'):=mem_map_of_mem hx;rw [Y]at this;obtain⟨y,-,hy⟩:=yL.1 this;exact qha ⟨y,hy.symm⟩ g1
     ·cases q
    have p:=hJ i
    revert p
    generalize J.pos i=l;intro p
    induction l with
    |nil=>simp
    |cons t l ihl=>
     rw [xU]at p;rw [yF,xY];refine⟨?_,ihl p.2,?_⟩
     ·split
      ·rename_i a' m;exact ih a' (d a' t m)
      ·exact nodup_nil
     ·intro b q c R e;subst e;obtain⟨X,z,R⟩:=xF.1 R;have e1:=key t b q;have U:=key X b R;rw [e1]at U;have:t=X:=(List.map_inj_right (fun x y h=>by cases h;rfl)).1 U;subst this;exact p.1 z
end Go.Ink
