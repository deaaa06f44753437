/- Parts of the proof. -/
import Derived.Test.YtnponcjnahicnaaGreatDoorRelQToRelS
set_option linter.unusedSimpArgs false
set_option linter.unusedVariables false
set_option maxRecDepth 100000
set_option maxHeartbeats 4000000
open Go.Proofs.Tryz(prog)
open List(all_append append_toArray cons_append filter_congr filter_eq_nil_iff filter_filter getElem?_drop length_cons length_nil nil_append pairwise_iff_getElem pairwise_lt_range push_toArray singleton_append size_toArray)
namespace Go.Proofs.R4
open Go.RowKit Go.Ink
attribute [local go_sem] Oper.semAt_some
def BoxAt (w:World)(b t:Nat)(v:Value):Prop:=w.heap[b]?=some (.cells #[v] t (0,0))
theorem BoxAt.keep {w w':World}{b t:Nat}{v:Value}{C:Nat->Prop}(h:BoxAt w b t v)(hK:Keep C w w')(c:C b):BoxAt w' b t v:=hK.heap h c
theorem BoxAt.cell {w:World}{b t:Nat}{v:Value}(h:BoxAt w b t v):w.cell? ⟨b,0,none⟩=some v:=qbb h
theorem BoxAt.lt {w:World}{b t:Nat}{v:Value}(h:BoxAt w b t v):b<w.heap.size:=qe h
structure MatchV (n0 n1 bR bL bK bT bF B:Nat)(vl vk:Value)(lo hi:Int)(cols key:List Int)(w:World):Prop where
 r:BoxAt w bR 154 (.pointer (some ⟨B,0,none⟩))
 l:BoxAt w bL 125 vl
 k:BoxAt w bK 125 vk
 t:BoxAt w bT 3 (.int .i64 hi)
 f:BoxAt w bF 3 (.int .i64 lo)
 ol:w.ownsRow n0 3 1 vl cols.length (cols.map (.int .i64))
 ok:w.ownsRow n0 3 1 vk key.length (key.map (.int .i64))
 bl: ∀b,vl.ownBlock=some b->b<n1
 bk: ∀b,vk.ownBlock=some b->b<n1
 at':(n0<=bR/\bR<n1)/\(n0<=bL/\bL<n1)/\(n0<=bK/\bK<n1)/\(n0<=bT/\bT<n1)/\(n0<=bF/\bF<n1)
theorem MatchV.keep {n0 n1 p m j bT i B:Nat}{s q:Value}{lo hi:Int}{c key:List Int}{w w':World}{C:Nat->Prop}(h:MatchV n0 n1 p m j bT i B s q lo hi c key w)(hK:Keep C w w')(d: ∀b,n0<=b->b<n1->C b):MatchV n0 n1 p m j bT i B s q lo hi c key w':=by
 obtain⟨g,a2,a3,a4,a5⟩:=h.at';exact⟨h.r.keep hK (d _ g.1 g.2),h.l.keep hK (d _ a2.1 a2.2),h.k.keep hK (d _ a3.1 a3.2),h.t.keep hK (d _ a4.1 a4.2),h.f.keep hK (d _ a5.1 a5.2),
  qf h.ol hK (fun b e=>d b (zE h.ol b e).1 (h.bl b e)),qf h.ok hK (fun b e=>d b (zE h.ok b e).1 (h.bk b e)),h.bl,h.bk,h.at'⟩
theorem qte (w:World)(B m:Nat)(vc vk:Value)(d key:List Int)(lo hi:Int)(hs:qan m w vc d)(U:qan m w vk key)(hm:m<=w.heap.size):
  Calls prog 141 #[.pointer (some ⟨B,0,none⟩),vc,vk,.int .i64 lo,.int .i64 hi] w fun e w'=> ∃bR bL bK bT bF vl vk',
   e=.returned (.func (.func 178) #[] #[.pointer (some ⟨bR,0,none⟩),.pointer (some ⟨bL,0,none⟩),.pointer (some ⟨bK,0,none⟩),.pointer (some ⟨bT,0,none⟩),.pointer (some ⟨bF,0,none⟩)])/\
   wD w w'/\MatchV w.heap.size w'.heap.size bR bL bK bT bF B vl vk' lo hi d key w':=by
 obtain⟨a,cc,rfl,aM,bm,av⟩:=id hs;obtain⟨ak,ck,rfl,aw,a3,aa⟩:=id U;obtain⟨W0,r⟩:=ex (((w.alloc (.cells #[.pointer (some ⟨B,0,none⟩)] 154)).alloc (.cells #[.int .i64 lo] 3)).alloc (.cells #[.int .i64 hi] 3));have k0:wD w W0:=by rw [←r];exact(kAl.trans kAl).trans kAl
 have z0:W0.heap.size=w.heap.size+3:=by rw [←r];simp
 have r0:BoxAt W0 w.heap.size 154 (.pointer (some ⟨B,0,none⟩)):=by rw [←r];unfold BoxAt;simp only [qah,zO];simp<;>omega
 have f0:BoxAt W0 (w.heap.size+1) 3 (.int .i64 lo):=by rw [←r];unfold BoxAt;simp only [qah,zO];simp<;>omega
 have t0:BoxAt W0 (w.heap.size+2) 3 (.int .i64 hi):=by rw [←r];unfold BoxAt;simp only [qah,zO];simp<;>omega
 have p: ∀(W:World) (a:Option Addr) (c:Nat) (l:List Int),l.length<=1073741824->qan m W (.slice a l.length c) l->m<=W.heap.size-> ∃a' c' W',(Builtin.append_ #[125,125] 125 #[.slice (some ⟨W.heap.size,0,none⟩) 0 0,.slice a l.length c]).run prog (W.alloc (.cells #[] 3))=.ok (.slice a' l.length c') W'/\
   W'.ownsRow W.heap.size 3 1 (.slice a' l.length c') l.length (l.map (.int .i64))/\wD W W':=by
  intro W a c l hl hi bo;have k1:wD W (W.alloc (.cells #[] 3)):=kAl;have aO:(W.alloc (.cells #[] 3)).ownsRow W.heap.size 3 1 (.slice (some ⟨W.heap.size,0,none⟩) 0 0) 0 []:=xe W #[] 0 (zG _) (by simp [maxLen]) rfl;have aJ:=qdo hi (m:=m) k1.mt (zG _);have au:=qfo (sz:=1) ic (fun _=>rfl) xz (E:=qe8) (fun b o x h j u hj=>by
   have aL:j=0:=by have:=(zA.1 hj).1;simp [ic] at this;exact this
   subst aL;simp [ic]at hj;subst hj;exact h) aJ rfl
  obtain⟨va,W3,aP,R,bn,aV⟩:=qi0 (P:=prog) ql8 125 aO a l.length c (l.flatMap ic) (qa1 _ 1 (fun _=>rfl) _) au.1 au.2 (qi2 _ (by simp [ic,Value.oneCell']) _) xz wB;rw [ql7,nil_append,zD]at R;obtain⟨a',c',rfl⟩:=qi R;exact⟨a',c',W3,aP,R,(k1.mt.trans (aV.mono (C':=fun b=>b<W.heap.size) fun b _ h e=>by have:=(zE R b e).1;omega)).mono fun b i _=>i⟩
 have ay:=qdo hs (m:=m) k0.mt (zG _);obtain⟨al,cl,W2,ah,af,k2⟩:=p W0 a cc d aM ay xz;have aQ:=k2.size;have ab:=qdo (qdo U (m:=m) k0.mt (zG _)) (m:=m) k2.mt (zG _);obtain⟨k,q,f,ax,ag,k4⟩:=p W2 ak ck key aw ab xz;have aR:=k4.size;obtain⟨X,z⟩:=ex ((f.alloc (.cells #[.slice none 0 0] 125)).alloc (.cells #[.slice none 0 0] 125));have k5:wD f X:=by rw [←z];exact kAl.trans kAl
 have z5:X.heap.size=f.heap.size+2:=by rw [←z];simp
 have l5:BoxAt X f.heap.size 125 (.slice none 0 0):=by rw [←z];unfold BoxAt;simp only [qah,zO];simp<;>omega
 have v5:BoxAt X (f.heap.size+1) 125 (.slice none 0 0):=by rw [←z];unfold BoxAt;simp only [qah,zO];simp<;>omega
 obtain⟨W6,ad⟩:=ex (X.setCell ⟨f.heap.size,0,none⟩ (.slice al d.length cl));have l6:BoxAt W6 f.heap.size 125 (.slice al d.length cl):=by rw [←ad];exact qgj _ l5
 have k6:Keep (fun b=>b≠f.heap.size) X W6:=by rw [←ad];exact kSc
 have v6:=v5.keep k6 xz;obtain⟨Y,ae⟩:=ex (W6.setCell ⟨f.heap.size+1,0,none⟩ (.slice k key.length q));have v7:BoxAt Y (f.heap.size+1) 125 (.slice k key.length q):=by rw [←ae];exact qgj _ v6
 have k7:Keep (fun b=>b≠f.heap.size+1) W6 Y:=by rw [←ae];exact kSc
 have l7:=l6.keep k7 xz;have s:Keep (fun b=>b<f.heap.size) f Y:=k5.mt.trans ((k6.mono fun b _ h=>xz).trans (k7.mono fun b _ h=>xz));have az:wD w Y:=(k0.mt.trans (k2.mt.trans (k4.mt.trans (s.mono (C':=fun b=>b<w.heap.size) fun b _ h=>xz)))).mono fun b i _=>i;have z7:Y.heap.size=X.heap.size:=by rw [←ae,←ad];simp [World.setCell]
 have t: ∀b,Value.ownBlock (.slice al d.length cl)=some b->W0.heap.size<=b/\b<W2.heap.size:=fun b i=>zE af b i;have y: ∀b,Value.ownBlock (.slice k key.length q)=some b->W2.heap.size<=b/\b<f.heap.size:=fun b i=>zE ag b i;have hV:MatchV w.heap.size Y.heap.size w.heap.size f.heap.size (f.heap.size+1) (w.heap.size+2) (w.heap.size+1) B (.slice al d.length cl) (.slice k key.length q) lo hi d key Y:=by
  have kk:Keep (fun b=>b<W0.heap.size) W0 Y:=k2.mt.trans (k4.mt.trans (s.mono fun b _ h=>xz));refine⟨r0.keep kk xz,l7,v7,t0.keep kk xz,f0.keep kk xz,?_,?_,fun b i=>by have:=t b i;omega,fun b i=>by have:=y b i;omega,⟨xz,xz⟩,⟨xz,xz⟩,⟨xz,xz⟩,⟨xz,xz⟩,xz,xz⟩
  ·have h1:=qf (qf af k4 (fun _ _=>wE)) s (fun b i=>by have:=t b i;omega);exact⟨h1.1,h1.2.imp id (fun⟨g,cap,cur,e1,e2,e3⟩=>⟨g,cap,cur,e1,xz,e3⟩)⟩
  ·have h1:=qf ag s (fun b i=>by have:=y b i;omega);exact⟨h1.1,h1.2.imp id (fun⟨g,cap,cur,e1,e2,e3⟩=>⟨g,cap,cur,e1,xz,e3⟩)⟩
 have bi:=l5.cell;have bg:=qg l5 0;have bj:=v6.cell;have bh:=qg v6 0;obtain⟨n0,aN⟩:=ex (W0.heap.size);have bk:f.heap.size<X.heap.size:=xz
 have bl:f.heap.size+1<W6.heap.size:=v6.lt;clear p ay af ab ag l5 v5 l6 v6 v7 l7 s k7 k6 k5 t y z7 z5 aQ aR k0 k2 k4 r0 f0 t0 z0;rw [aN]at ah;refine hd8 ?_ hs U av aa ah ax hV az;clear hs U av aa ah ax hV az;intro bf aX aW aI am an aH ao
 go_enter Tryz.func141,Tryz.ntmps141
 go_wp2_with (first
  |(at_builtin;refine qcd (v:=.slice (some ⟨n0,0,none⟩) 0 0) (u:=.slice a d.length cc) (v':=.slice al d.length cl) (w':=W2) rfl (.tmp 13) (.tmp 14) 125 rfl rfl rfl am.o ?_)
  |(at_builtin;refine qcd (v:=.slice (some ⟨W2.heap.size,0,none⟩) 0 0) (u:=.slice ak key.length ck) (v':=.slice k key.length q) (w':=f) rfl (.tmp 16) (.tmp 17) 125 rfl rfl rfl an.o ?_))
 go_ret;exact⟨_,_,_,_,_,_,_,rfl,ao.o,aH.o⟩
theorem qz9 {n:Nat}{t b key:List Int}(p:n<=16)(q:t.length=n)(i:qdf n b=true)(m:key.length=b.length):qkc t b key=decide (qb4 t b=qay key):=by
 have g:=qmu i;have c:(qb4 t b=qay key)↔qd6 t b=key:=by
  constructor
  ·intro h;exact qpm h (by rw [qjg,m])
  ·intro h;unfold qb4;rw [h]
 have l:qkc t b key=true↔qd6 t b=key:=by
  unfold qkc;rw [yL];constructor
  ·intro h;apply xW;intro j;by_cases d:j<b.length
   ·have:=h j (by simpa using d);simp only [zT]at this;rw [←this];have f:b[j]?=some b[j]:=zB d;have k:=g b[j] (xD d);unfold qd6;rw [zP,f,zJ,f];simp only [Option.map_some,Option.getD_some];rw [zJ,zB xz]
    rfl
   ·rw [xA (by rw [qjg];omega),xA xz]
  ·rintro rfl j d;rw [yh]at d;have f:b[j]?=some b[j]:=zB d;have k:=g b[j] (xD d);unfold qd6;rw [zT,zP,f,zJ,f];simp only [Option.map_some,Option.getD_some];rw [zJ,zB xz]
   rfl
 by_cases h:qd6 t b=key
 ·rw [l.2 h,zS (c.2 h)]
 ·rw [zM (fun e=>h (c.1 e)),Bool.eq_false_iff];exact fun e=>h (l.1 e)
def qd9 (lo hi:Int)(i:Nat):Bool:=decide (lo<=(i:Int))&&decide ((i:Int)<hi)
theorem q0a {n:Nat}{ts:List (List Int)}{b key:List Int}{lo hi:Int}(g:n<=16)(e: ∀t∈ts,t.length=n)(c:qdf n b=true)(f:key.length=b.length):qdy n ts b key lo hi=(idx ts b (qay key)).filter (qd9 lo hi):=by
 unfold qdy idx;rw [zI (by rw [c,zS f];rfl),filter_filter];refine filter_congr fun i d=>?_;rw [yh]at d;unfold qwq qd9;rw [qz9 g (e _ (by rw [zJ,zB d];exact xD d)) c f]
theorem q0b {n:Nat}{ts:List (List Int)}{b key:List Int}{lo hi:Int}(h:(qdf n b&&decide (key.length=b.length))=false):qdy n ts b key lo hi= []:=by
 unfold qdy;rw [zF (by rw [h];simp)]
theorem q2k (ts b:List (List Int))(l k:List Int){j i:Nat}(h:(idx ts l k)[j]?=some i):(idx (ts++b) l k)[j]?=some i:=by
 induction b generalizing ts with
 |nil=>simpa using h
 |cons u b ih=>
  rw [←singleton_append,←yq];refine ih (ts++ [u]) ?_;rw [qkj,yQ (zA.1 h).1];exact h
theorem q5n {ts:List (List Int)}{l k:List Int}{j i:Nat}(h:(idx ts l k)[j]?=some i):i<ts.length:=by
 have:=zH h;unfold idx at this;rw [yU,yh]at this;exact this.1
theorem qxn (ts:List (List Int))(l k:List Int):(idx ts l k).Pairwise (· < ·):=List.Pairwise.filter _ pairwise_lt_range
def qd8 (lo hi:Int)(pl:List Nat)(j:Nat):Nat:=((pl.take j).filter (qd9 lo hi)).length
theorem qo9 (lo hi:Int)(b:List Nat){j i:Nat}(d:b[j]?=some i):b.filter (qd9 lo hi)=(b.take j).filter (qd9 lo hi)++((if qd9 lo hi i=true then [i] else [])++(b.drop (j+1)).filter (qd9 lo hi)):=by
 have c:=(zA.1 d).1;have e:=(zA.1 d).2
 conv=>lhs;rw [←yu j b,zr c,e]
 rw [yS,ye];split<;>simp
theorem q2l {lo hi:Int}{b:List Nat}{j i:Nat}(c:b[j]?=some i)(h:qd9 lo hi i=true):(b.filter (qd9 lo hi))[qd8 lo hi b j]?=some i/\qd8 lo hi b (j+1)=qd8 lo hi b j+1:=by
 constructor
 ·rw [qo9 lo hi b c,zI h];unfold qd8;rw [yG (zG _),xX]
  rfl
 ·unfold qd8;rw [zh,c,yS];simp [h]
theorem q4l {lo hi:Int}{b:List Nat}{j i:Nat}(c:b[j]?=some i)(h:qd9 lo hi i=false):qd8 lo hi b (j+1)=qd8 lo hi b j:=by
 unfold qd8;rw [zh,c,yS];simp [h]
theorem q2m {lo hi:Int}{b:List Nat}(p:b.Pairwise (· < ·)){j i:Nat}(c:b[j]?=some i)(h:hi<=(i:Int)):qd8 lo hi b j=(b.filter (qd9 lo hi)).length:=by
 have d:=(zA.1 c).1;have m:=(zA.1 c).2;have k:qd9 lo hi i=false:=by unfold qd9;rw [zM (by omega: ¬(i:Int)<hi),yN]
 rw [qo9 lo hi b c,k];have l:(b.drop (j+1)).filter (qd9 lo hi)= []:=by
  refine filter_eq_nil_iff.2 fun x r=>?_;obtain⟨q,e⟩:=zw.1 r;rw [getElem?_drop]at e;have f:=(zA.1 e).1;have g:=(zA.1 e).2;have:=(pairwise_iff_getElem.1 p) j (j+1+q) d f xz;rw [m,g]at this;unfold qd9;rw [zM (by omega: ¬(x:Int)<hi),yN];simp
 rw [l];unfold qd8;simp
theorem q2n (lo hi:Int)(b:List Nat):qd8 lo hi b b.length=(b.filter (qd9 lo hi)).length:=by unfold qd8;rw [zi]
theorem q4m {F:Fence}{n:Nat}{P:Program}{w w':World}{ops:Array Oper}{rest:List Oper}{o:Oper}{a:Act}{Q:Exit->Act->World->Prop}{v u v':Value}
  (e:Region.wanted o (yielded ops a.tmps)=true) (s x:Operand) (t:TypeId) (b:o.op=Op.call {callee:=Callee.builtin Builtin.append,args:= #[s,x],argTypes:= #[t,t]}) (hs:a.eval s=v) (hx:a.eval x=u)
  (hrun:(Builtin.append_ #[t,t] o.type #[v,u]).run P w=.ok v' w') (hK:wpListIn F n P ops Q rest (a.put o.dst v') w'):wpListIn F n P ops Q (o::rest) a w:=by
 unfold wpListIn;rw [zI e];unfold Oper.wpIn;refine⟨?_,?_⟩
 ·simp [Oper.about,b,resolve,Target.leads,Sem.run_pure]
 ·rw [Oper.semAt_plain F _ _ (by rw [b];intro c d;cases d)];simp [execOp,b,resolve,invoke,builtin,hs,hx,hrun,Result.andThen];exact hK
theorem qxo {n:Nat}{P:Program}{w:World}{ops:Array Oper}{rest:List Oper}{o:Oper}{a:Act}{Q:Exit->Act->World->Prop}
  (b:Region.wanted o (yielded ops a.tmps)=false) (h:wpListIn Fence.wide n P ops Q rest (a.put o.dst undef) w):wpListIn Fence.wide n P ops Q (o::rest) a w:=by
 unfold wpListIn;rw [zF (by rw [b];simp)];exact⟨fun _ _=>wE,h⟩
structure PlacesAt (s:qd1)(n:Nat)(cols key:List Int)(lo hi:Int)(pl:List Nat)(v:Value):Prop where
 told:qdy n s.ts cols key lo hi=pl.filter (qd9 lo hi)
 sort:pl.Pairwise (· < ·)
 few:pl.length<=s.ts.length
 good: ∀(j i:Nat),pl[j]?=some i->qdf n cols=true/\i<s.ts.length/\(idx s.ts cols (qay key))[j]?=some i/\ ∃b c p,v=.slice (some ⟨b,0,none⟩) pl.length c/\s.tag b=some (.ent (qap cols) (qay key) p)/\pl.length<=p
theorem PlacesAt.read {B n P KM:Nat}{y s:qd1}{w:World}{d key:List Int}{lo hi:Int}{R:List Nat}{v:Value}{m:Nat}(h:PlacesAt y n d key lo hi R v)(U:RelBd y m s)(hinv:RelInv B n P KM s w){j i:Nat}(X:R[j]?=some i):
  ∃b c t,v=.slice (some ⟨b,0,none⟩) R.length c/\w.cell? ⟨b,j,none⟩=some (.int .i64 (i:Int))/\y.ts[i]?=some t/\s.ts[i]?=some t:=by
 obtain⟨r,l,k,b,c,p,hv,u,hp⟩:=h.good j i X;obtain⟨us,x⟩:=U.more;have ag:=(zA.1 X).1;obtain⟨t,ht⟩: ∃t,y.ts[i]?=some t:=⟨_,zB l⟩;refine⟨b,c,t,hv,?_,ht,by rw [x,yQ l];exact ht⟩;have f: ∃q,s.tag b=some (.ent (qap d) (qay key) q)/\p<=q:=by
  rcases U.le b _ u with g |⟨c1,k1,p1,q1,e1,g,z⟩
  ·exact⟨p,g,zG _⟩
  ·cases e1;exact⟨q1,g,z⟩
 obtain⟨q,Y,ai⟩:=f;obtain⟨L,hL⟩:=hinv.own.ents b (qap d) (by rw [Y];rfl);obtain⟨l',vl,M,mm,e⟩:=hinv.own.looks _ _ hL;have hl:l'=d:=qqx e.row r hinv.own.n16 e.mask;subst hl;obtain⟨i',g,z⟩:=e.blocks b _ q Y j xz;have h3:=q2k y.ts us l' (qay key) k;rw [x,h3]at g;cases g;exact z
theorem qrf (B n P KM n0 n1 bR bL bK bT bF:Nat)(vl vk:Value)(lo hi:Int)(p key:List Int)(ct:okT key)(cn:p.length<=1073741824)(cr:key.length<=1073741824):
  qkr prog 178 #[.pointer (some ⟨bR,0,none⟩),.pointer (some ⟨bL,0,none⟩),.pointer (some ⟨bK,0,none⟩),.pointer (some ⟨bT,0,none⟩),.pointer (some ⟨bF,0,none⟩)] (qem B n P KM) (fun s=>(qdy n s.ts p key lo hi).length)
  (fun s0 k s m X args=> ∃i t,(qdy n s0.ts p key lo hi)[k]?=some i/\s0.ts[i]?=some t/\q51 i t m X args) (MatchV n0 n1 bR bL bK bT bF B vl vk lo hi p key) (fun b=>n0<=b/\b<n1):=by
 intro l J Jx W s0 hl hinv hV hU hJ bt aj h0;refine qbl Tryz.func178 rfl ?_;simp only [Tryz.ntmps178,size_toArray,length_cons,length_nil,Nat.reduceAdd,Nat.reduceSub,Array.replicate_succ,Array.replicate_zero,push_toArray,append_toArray,nil_append,cons_append];have cR:=hV.r.cell;have cL:=hV.l.cell;have cK:=hV.k.cell;have lR:=hV.r.lt;have lL:=hV.l.lt;have lK:=hV.k.lt;have bH:qo8 s0.tag vk:=fun a n' c' e=>hU _ ⟨(zE hV.ok _ (by rw [e];rfl)).1,hV.bk _ (by rw [e];rfl)⟩;have aW:=hinv.few;have bG:=qz8 hinv.own xz W.heap.size vl vk p key (qd5 hV.ol cn) (qd5 hV.ok cr) (zG _) ct bH;clear bH;obtain⟨a1,c1,rfl⟩:=qi hV.ol;obtain⟨a2,c2,rfl⟩:=qi hV.ok;refine hd8 ?_ hinv hV hU hJ bt aj h0 bG;clear hinv hV hU hJ bt aj h0 bG;intro cf ce cd cc cC ao ca bi;gi_wp2;refine⟨wE,rfl,(zU.2 bi.o).mono ?_⟩;rintro e W1 ⟨v,b2,cz,rfl,k1,aL,aY,ax,aC,hF,aZ⟩;obtain⟨s1,aB⟩: ∃s1:qd1,s1=⟨b2,s0.ts,s0.vD,cz⟩:=⟨_,rfl⟩;have z:RelInv B n P KM s1 W1:=by rw [aB];exact⟨aL,aW⟩
 have aw:RelIt B n P KM s0 W s1 W1:=by rw [aB] at z⊢;exact⟨k1,rfl,aY,ax,aC,z⟩
 have bq:J 0 s1 W1:=cc.o 0 s0 W s1 W1 ca.o aw;have bw:=ce.o.keep k1 (fun b h1 h2=>cd.o b ⟨h1,h2⟩);have R:s1.ts=s0.ts:=by rw [aB]
 have cx:=k1.size;obtain⟨pl,av,cv,hv,aN⟩: ∃(pl:List Nat) (av:Option Addr) (cv:Nat),v=.slice av pl.length cv/\PlacesAt s1 n p key lo hi pl v:=by
  cases hg:(qdf n p&&decide (key.length=p.length)) with
  |false=>
   refine⟨[],none,0,aZ hg,⟨by rw [q0b hg];rfl,List.Pairwise.nil,ya _,fun j i hj=>by simp at hj⟩⟩
  |true=>
   simp only [zV,zT]at hg;obtain⟨⟨ho,hb⟩,L,hL⟩:=hF hg.1 hg.2;obtain⟨av,cv,rfl⟩:=qi ho;refine⟨idx s0.ts p (qay key),av,cv,rfl,⟨?_,qxn _ _ _,by rw [R];exact qvx _ _ _,fun j i hj=>⟨hg.1,by rw [R];exact q5n hj,by rw [R];exact hj,?_⟩⟩⟩
   ·rw [R];exact q0a aL.n16 aL.len hg.1 hg.2
   ·rcases ho.2 with ⟨e1,e2⟩ |⟨g,cap,cur,e1,e2,e3,e4,e5,_⟩
    ·have:=(zA.1 hj).1;omega
    ·injection e1 with q1 q2 q3
     subst q1;exact⟨g,cv,_,rfl,by rw [aB];exact hb g rfl,zG _⟩
 subst hv;have bu:(qdy n s0.ts p key lo hi).length=(pl.filter (qd9 lo hi)).length:=by rw [←R,aN.told]
 have cN:pl.length<=67108864:=zW aN.few z.few;clear aB aL aY ax aC hF aZ k1 cR cL cK lR lL lK aW;refine hd7 ?_ z aw bq bw R aN bu;clear z aw bq bw R aN bu;intro aH cg bc bh ap an am;gi_wp2;gi_loopw [20] (fun i wr=> ∃(j:Nat) (s:qd1),i=.int .i64 (j:Int)/\j<=pl.length/\J (qd8 lo hi pl j) s wr/\RelInv B n P KM s wr/\MatchV n0 n1 bR bL bK bT bF B (.slice a1 p.length c1) (.slice a2 key.length c2) lo hi p key wr/\RelBd s1 W.heap.size s/\W.heap.size<=wr.heap.size) (fun i _=>pl.length-(intOf i).toNat)
 case atStart=>exact⟨0,s1,rfl,ya _,by unfold qd8;exact bc.o,aH.o,bh.o,RelBd.refl _ _,cx⟩
 case round=>
  obtain⟨j,s,rfl,hj,ad,c,q,U,bb⟩:=hrel;by_cases cs:j<pl.length
  ·obtain⟨i,ae⟩: ∃i,pl[j]?=some i:=⟨_,zB cs⟩;obtain⟨b,cb,t,cw,a9,aO,aD⟩:=an.o.read U c ae;injection cw with hav hnn hcc
   clear hnn hcc;subst hav;have c4:b<wr.heap.size:=zQ _ _ a9;have cM:(j:Int)<pl.length:=xz
   have bI:(0:Int)<=j:=xz
   have c8:(j:Int)+1<=67108864:=xz
   have cT:=q.t.cell;have lT:=q.t.lt;by_cases cq:hi<=(i:Int)
   ·have aV:=q2m (lo:=lo) (an.o.sort) ae cq;have aq:J (pl.filter (qd9 lo hi)).length s wr:=by rw [←aV];exact ad
    clear aV ad aO aD ae;refine hd4 ?_ aq c q U;clear aq c q U;intro al d y ab;gi_wp2;refine zz (yr rfl _ _ _) rfl ?_;exact⟨⟨_,rfl⟩,bb,s,d.o,y.o,.inl (by rw [am.o];exact al.o)⟩
   ·have cF:=q.f.cell;have lF:=q.f.lt;by_cases ba:lo<=(i:Int)
    ·have bV:=q2l ae (lo:=lo) (hi:=hi) (by unfold qd9;rw [zS ba,zS xz];rfl);obtain⟨az,ay⟩:=bV;have bM:qd8 lo hi pl j<(qdy n s0.ts p key lo hi).length:=by rw [am.o];exact(zA.1 az).1
     have aA:(qdy n s0.ts p key lo hi)[qd8 lo hi pl j]?=some i:=by rw [←ap.o,an.o.told];exact az
     have a0:s0.ts[i]?=some t:=by rw [←ap.o];exact aO
     have co:=c.few;have c7:i<s.ts.length:=(zA.1 aD).1;have c6:(i:Int)<=67108864:=xz
     have c5:(0:Int)<=i:=xz
     have c3:=qe c.own.box;obtain⟨W2,bz⟩:=ex (wr.alloc (.cells #[] 3));have k1:wD wr W2:=by rw [←bz];exact kAl
     have bP:W2.ownsRow wr.heap.size 3 1 (.slice (some ⟨wr.heap.size,0,none⟩) 0 0) 0 []:=by rw [←bz];exact xe wr #[] 0 (zG _) (by simp [maxLen]) rfl
     have af:=c.keep k1.mt;have ck:=(q.keep k1 (fun _ _ _=>wE)).r.cell;have dh:bR<W2.heap.size:=zQ _ _ ck;have a3:=qqv af.own xz i t aD;clear ae aO aD az;refine qho ?_ ad c q U k1 bP af a3 bM aA a0 ay;clear ad c q U k1 bP af a3 bM aA a0 ay;intro bf d y ab bm bj b6 a6 aS aJ a5 aI;gi_wp2;refine⟨wE,rfl,(zU.2 a6.o).mono ?_⟩;rintro e W3 ⟨vt,rfl,k3,z3,bU,cu⟩;have bQ:=qf bj.o k3 (fun _ _=>wE);have aE:=qdo bU (m:=W2.heap.size) k3.mt (zG _);obtain⟨bn,bo,rfl,bN,cJ,bD⟩:=id aE;have ar:=qfo (sz:=1) ic (fun _=>rfl) xz (E:=qe8) (fun b o x h j u hj=>by
      have bI:j=0:=by have:=(zA.1 hj).1;simp [ic] at this;exact this
      subst bI;simp [ic]at hj;subst hj;exact h) aE rfl
     have bW:wr.heap.size<=W3.heap.size:=by have:=bm.o.size;omega
     obtain⟨va,W4,bS,aM,cp,b1⟩:=qi0 (P:=prog) ql8 125 bQ bn t.length bo (t.flatMap ic) (qa1 _ 1 (fun _=>rfl) _) ar.1 ar.2 (qi2 _ (by simp [ic,Value.oneCell']) _) xz bW;rw [ql7,nil_append,zD]at aM;have ak:wD wr W4:=(bm.o.mt.trans (k3.mt.trans (b1.mono (C':=fun b=>b<wr.heap.size) fun b _ h e=>by have:=(zE aM b e).1;omega))).mono (fun b hb _=>hb);have ag:=d.o.keep ak.mt;have a8:=y.o.keep ak (fun _ _ _=>wE);obtain⟨fn,tmps,assign,body,hy,hR⟩:=ao.o (qd8 lo hi pl j) s wr W4 #[.int .i64 (i:Int),va] aS.o bf.o (qxm d.o ak) ag a8 bb ⟨i,t,aJ.o,a5.o,va,rfl,aM,bN⟩;have bv:=zg hR;clear hR bU aE bD ar bQ cp b1 cu aM;have dd:=zg k3;have b9:=zg ag;have cI:=zg a8;have cy:W.heap.size<=W4.heap.size:=by have:=ak.size;omega
     have cO:=zg ak;clear k3 ag a8 ak;refine hd1 ?_ bS;clear bS;intro bl
     gi_wp2_with (gi_at_builtin;refine q4m (v:=.slice (some ⟨wr.heap.size,0,none⟩) 0 0) (u:=.slice bn t.length bo) (v':=va) (w':=W4) (by rfl) (.tmp 33) (.tmp 36) 125 rfl rfl rfl bl.o ?_)
     refine⟨rfl,bv.out.mono ?_⟩;rintro e Y ⟨s',au,bx,aU,dc,(⟨rfl,a7⟩ |⟨rfl,a7⟩)⟩
     all_goals
      have aT:RelBd s1 W.heap.size s':=ab.o.trans aU cy;clear aU bv hy;refine hd4 ?_ au bx a7 aT;clear au bx a7 aT;intro ah aR aQ a4;gi_wp2
     ·go_roundw
      case rel=>exact⟨j+1,s',by go_num,xz,by rw [aI.o];exact aQ.o,ah.o,aR.o,a4.o,xz⟩
      case measure=>simp [intOf];omega
     ·refine zz (yr rfl _ _ _) rfl ?_;exact⟨⟨_,rfl⟩,xz,s',ah.o,aR.o,.inr ⟨_,aS.o,aQ.o⟩⟩
    ·have bO:=q4l ae (lo:=lo) (hi:=hi) (by unfold qd9;rw [zM ba];rfl);have br:J (qd8 lo hi pl (j+1)) s wr:=by rw [bO];exact ad
     have c9: ¬((i:Int)≥lo):=ba;clear bO ad ae aO aD;refine hd4 ?_ br c q U;clear br c q U;intro bg d y ab;gi_wp2;refine⟨wE,?_⟩;rename_i aK;refine aK _ _ ?_;clear aK
     try go_frame
     refine qxo (by rfl) ?_
     try go_frame
     refine qxo (by rfl) ?_
     try go_frame
     refine qxo (by rfl) ?_
     try go_frame
     gi_wp2;go_roundw
     case rel=>exact⟨j+1,s,by go_num,xz,bg.o,d.o,y.o,ab.o,xz⟩
     case measure=>simp [intOf];omega
  ·have bJ:j=pl.length:=by omega
   have aq:J (pl.filter (qd9 lo hi)).length s wr:=by rw [←q2n lo hi pl,←bJ];exact ad
   clear ad bJ;refine hd4 ?_ aq c q U;clear aq c q U;intro al d y ab;gi_wp2
   go_end0
   exact⟨⟨_,rfl⟩,bb,s,d.o,y.o,.inl (by rw [am.o];exact al.o)⟩
structure RelSame (s0:qd1)(w:World)(s:qd1)(X:World):Prop where
 keep:Keep (fun b=>s0.tag b=none/\b<w.heap.size) w X
 same:s.ts=s0.ts
 le:TagLe s0.tag s.tag
 new:TagNew s0.tag s.tag w
 sub: ∀p,p∈s0.lm->p∈s.lm
theorem RelSame.refl (s:qd1)(w:World):RelSame s w s w:=⟨Keep.refl _ _,rfl,TagLe.refl _,TagNew.refl _ _,fun _ h=>h⟩
theorem RelSame.it {B n P K:Nat}{c s e:qd1}{w X Y:World}(h:RelSame c w s X)(g:RelIt B n P K s X e Y):RelSame c w e Y:=by
 have i: ∀b,c.tag b=none->b<w.heap.size->s.tag b=none:=fun b f k=>by
  cases hT:s.tag b with
  |none=>rfl
  |some T=>
   rcases h.new b T hT with ⟨T',h3⟩ |h3
   ·rw [f]at h3;cases h3
   ·omega
 exact⟨h.keep.trans (g.keep.mono fun b _ d=>i b d.1 d.2),g.same.trans h.same,h.le.trans g.le,h.new.trans g.new h.keep.size,fun p j=>g.sub p (h.sub p j)⟩
theorem RelSame.keepOn {c s:qd1}{w X Y:World}{C:Nat->Prop}(h:RelSame c w s X)(hK:Keep C X Y)(e: ∀b,b<w.heap.size->c.tag b=none->C b):RelSame c w s Y:=
 ⟨h.keep.trans (hK.mono fun b _ d=>e b d.2 d.1),h.same,h.le,h.new,h.sub⟩
theorem RelSame.trans {c s e:qd1}{w X Y:World}(h:RelSame c w s X)(g:RelSame s X e Y):RelSame c w e Y:=by
 have j: ∀b,c.tag b=none->b<w.heap.size->s.tag b=none:=fun b f l=>by
  cases hT:s.tag b with
  |none=>rfl
  |some T=>
   rcases h.new b T hT with ⟨T',h3⟩ |h3
   ·rw [f]at h3;cases h3
   ·omega
 exact⟨h.keep.trans (g.keep.mono fun b i d=>⟨j b d.1 d.2,i⟩),g.same.trans h.same,h.le.trans g.le,h.new.trans g.new h.keep.size,fun p k=>g.sub p (h.sub p k)⟩
theorem qu4 {n:Nat}{ts:List (List Int)}{t:List Int}(h: ∀t∈ts,qc1 n t=true)(b:qc1 n t=false):qeg ts t=none:=by
 unfold qeg;refine ym.2 fun i _ hi=>?_;have:=h t (zH (yD hi));rw [b]at this;cases this
theorem qtf {tag:qbu}{w:World}{B n:Nat}{ts:List (List Int)}{vD:Value}{P K:Nat}{lm:List (List Bool×Nat)}(h:qb5 tag w B n ts vD P K lm)(m:Nat)(v:Value)(t:List Int)(hs:qan m w v t)(hm:m<=w.heap.size)(av:okT t):
  Calls prog 140 #[.pointer (some ⟨B,0,none⟩),v] w fun e w'=>e=.returned (qkb (qeg ts t))/\Keep (fun k=>k<w.heap.size) w w':=by
 obtain⟨a,c,rfl,au,aH,ar⟩:=id hs;have hB:=qe h.box;have aE:=h.n16;refine hd4 ?_ h hs ar av;clear h hs ar av;intro Xh am aB ak
 go_enter Tryz.func140,Tryz.ntmps140
 go_wp2_with fail;refine(qks Xh.o.box).mono ?_;rintro e w1 ⟨rfl,ab⟩;have ab:=ab.symm;subst ab;go_wp2_with fail;refine(qqf Xh.o.box m _ t am.o hm).mono ?_;rintro e W1 ⟨rfl,d⟩;cases j:qc1 n t with
 |false=>
  have u:qeg ts t=none:=qu4 Xh.o.right j;clear j;refine hd2 ?_ d u;clear d u;intro i z;go_wp2_with fail
  go_ret2
  exact⟨by rw [z.o];rfl,i.o.mt⟩
 |true=>
  have aw:=qk9 j;obtain⟨Wd,r⟩:=ex (W1.drew)
  replace d:wD w Wd:=by rw [←r];exact d.trans kDr
  have Y:=qdo am.o (m:=m) d.mt (zG _);have aa:t.length<=16:=xz
  have x:(qay t).length=16:=qg6 xz;have y: ∃q,keyOf prog 214 (qgu (qay t))=some q:=qo6 x (qm0 ak.o);have z1:=d.size;have p:=qb (Xh.o.keep d (fun _ _ _ _=>wE)).box 3 _ rfl;simp only [zD]at p;have aq:B<Wd.heap.size:=xz
  clear x;have ax:=ql9 m _ t Wd Y xz aa;refine hd6 ?_ d Y y j aw ax;clear d Y y j aw ax;intro i aD R aC an ao;have g:=zg p;clear p;have p:W1.cell? ⟨B,3,none⟩=some (.map (some P)):=by rw [←r] at g;exact g.o
  have aF:B<W1.heap.size:=by rw [←r] at aq;exact aq
  subst r;go_wp2_with fail;refine qba rfl (fun W=>W.cell? ⟨B,3,none⟩=some (.map (some P))) [11] ?_;clear p;refine qab [0,1,2,3,4] ?_
  iterate 5
   refine tkA rfl g.o ?_
   try simp only [qac]
  refine qk ?_;refine ho 5 rfl fun K af=>?_;go_wp2_with fail;refine ao.o.mono ?_;rintro e W2 ⟨rfl,l⟩
  replace l:Keep (fun b=>b<w.heap.size) w W2:=i.o.mt.trans (l.mono fun b _ h=>xz)
  have hd:=Xh.o.keep l (fun b T hb au=>au);have U:=qdn (P:=prog) Tryz.underlying206 qki.law qi3 qtb hd.pmap (qay t) R.o true;have s:((qdt ts).map (·.1)).Nodup:=by
   obtain⟨_,_,_,_,s,_⟩:=hd.pmap;exact s
  rw [qo7 hd.len an.o s]at U;have p:=qb hd.box 3 _ rfl;simp only [zD]at p;have f:=zg p;have aG:B<W2.heap.size:=qe hd.box;clear s hd p;refine hd1 ?_ l;clear l;intro ap;cases X:qeg ts t
  all_goals
   rw [X]at U;simp only [yg]at U;refine hd1 ?_ X;clear X;intro al;go_wp2_with fail;refine af.o _ _ (fun _=>f.o) ?_;refine ho 6 rfl fun K ag=>?_;go_wp2_with fail;refine ag.o _ _ (fun _=>f.o) ?_;refine ho 7 rfl fun K ah=>?_;go_wp2_with fail;refine ah.o _ _ (fun _=>f.o) ?_;refine qab [8,9] ?_
   iterate 2
    refine tkA rfl f.o ?_
    try simp only [qac]
   refine qk ?_;refine ho 10 rfl fun K ai=>?_;go_wp2_with fail;refine ai.o _ _ (fun _=>f.o) ?_;refine ho 11 rfl fun K aj=>?_;go_wp2_with fail;refine aj.o _ _ (fun h=>by simp at h) ?_;refine qbq wA ?_;go_wp2_with fail
   go_ret2
   exact⟨by rw [al.o];rfl,ap.o⟩
end Go.Proofs.R4
namespace Go.Proofs.P16
open Go.RowKit Go.Ink
attribute [local go_sem] Oper.semAt_some
def qh8 (c:Int):Bool:=decide (48<=c)&&decide (c<=57)
def qfv (c:Int):Bool:=decide (97<=c)&&decide (c<=122)
def qe2 (c:Int):Bool:=decide (65<=c)&&decide (c<=90)
def qbx (c:Int):Bool:=qfv c ||qe2 c ||qh8 c ||decide (c=95)
theorem qu5 (c:Int)(w:World):Calls prog 173 #[.int .u8 c] w fun e w'=>e=.returned (.bool (qbx c))/\w'=w:=by
 go_enter Tryz.func173,Tryz.ntmps173
 go_wp2
 all_goals go_ret
 all_goals (refine⟨yM (fun b=>Ending.returned (Value.bool b)) ?_,rfl⟩;rw [yt];simp only [qbx,qfv,qe2,qh8,y8,zV,zT,xB];(try simp only [true_iff,false_iff,iff_true,iff_false,zy]);omega)
def qb9 (s:ByteArray):List Int:=s.data.toList.map fun c=>(c.toNat:Int)
theorem qii (s:ByteArray):(qb9 s).length=s.size:=by rw [qb9,zL,Array.length_toList];rfl
theorem qfg (s:ByteArray){k:Nat}(h:k<s.size):(qb9 s)[k]?=some ((s[k].toNat:Nat):Int):=by
 have b:k<s.data.toList.length:=by rw [Array.length_toList];exact h
 simp only [qb9,zP,zB b,Option.map_some]
 rfl
theorem qhc {α:Type}(p:α->Bool)(l:List α){k:Nat}{c:α}(h:l[k]?=some c):(l.take (k+1)).all p=((l.take k).all p&&p c):=by
 rw [zh,h,all_append];simp
theorem qiz {α:Type}(p:α->Bool)(l:List α){k:Nat}{c:α}(h:l[k]?=some c)(b:p c=false):l.all p=false:=by
 cases d:l.all p with
 |false=>rfl
 |true=>rw [yL.1 d c (zH h)] at b;cases b
def qbi (s:ByteArray):Bool:=(qb9 s).all qbx&&(decide (1<=s.size)&&decide (s.size<=64))
end Go.Proofs.P16
