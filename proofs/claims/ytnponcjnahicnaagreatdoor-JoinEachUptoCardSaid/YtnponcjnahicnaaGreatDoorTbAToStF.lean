/- Parts of the proof. -/
import Derived.Test.YtnponcjnahicnaaGreatDoorJnBToJnE
import Derived.Conc.MuLone
set_option linter.unusedSimpArgs false
set_option linter.unusedVariables false
set_option maxRecDepth 100000
set_option maxHeartbeats 2000000
open Go.Proofs.Tryz(prog)
open List(all_eq_false eq_nil_iff_forall_not_mem find?_some foldl_cons getElem?_zipIdx getElem_idxOf idxOf_append length_singleton map_singleton replicate_succ replicate_zero set_append_right toArray_replicate toList_toArray zipIdx_append zipIdx_map_fst)
namespace Go.Proofs
open Go.RowKit Go.Ink
attribute [local go_sem] Oper.semAt_some
abbrev pV (b:Nat):Value:=.pointer (some ⟨b,0,none⟩)
abbrev qv8 (i:Nat):Value:=.int .i64 (i:Int)
abbrev qrd (w:World)(b:Nat)(m:List (ByteArray×Nat)):Prop:=MapIn prog 9 Value.string qv8 w b m
theorem qps: ∀w:World,(zeroValue 3).run prog w=.ok (.int .i64 0) w:=fun w=>wB
theorem qln:WideMaps.KeyLaw prog 9:=Go.WideMaps.string_law Tryz.underlying9
theorem qlo: ∀a b:ByteArray,Value.string a=Value.string b->a=b:=fun a b h=>by cases h;rfl
theorem qlp {s:ByteArray}(h:s.size<=1073741824): ∃l,keyOf prog 9 (.string s)=some l:=⟨_,Go.WideMaps.keyOf_string_mk Tryz.underlying9 (by simp only [maxLen];omega)⟩
theorem qke (xs:List ByteArray):xs.zipIdx.map (·.1)=xs:=by rw [zipIdx_map_fst]
theorem qpt {xs:List ByteArray}(c:xs.Nodup)(s:ByteArray):qdd xs.zipIdx s=if s∈xs then some (xs.idxOf s) else none:=by
 by_cases h:s∈xs
 ·rw [zI h];have hi:xs.idxOf s<xs.length:=y9 h;have b:xs.zipIdx[xs.idxOf s]?=some (s,xs.idxOf s):=by
   rw [getElem?_zipIdx,zB hi,getElem_idxOf hi];simp
  exact qo9 (p:=(s,xs.idxOf s)) (by rw [qke];exact c) b
 ·rw [zF h];exact qly (by rw [qke];exact h)
theorem qyw {xs:List ByteArray}{s:ByteArray}(h:s∉xs):setK xs.zipIdx s xs.length=(xs++ [s]).zipIdx:=by
 unfold setK;rw [qke,zF h,zipIdx_append];simp
structure TabAt (w:World)(T MX:Nat)(vx:Value)(xs:List ByteArray):Prop where
 tab:w.heap[T]?=some (.cells #[vx,.map (some MX)] 201 (0,0))
 own:w.ownsRow 0 9 1 vx xs.length (xs.map .string)
 nums:qrd w MX xs.zipIdx
theorem TabAt.keep {w w':World}{T MX:Nat}{vx:Value}{xs:List ByteArray}{C:Nat->Prop}(h:TabAt w T MX vx xs)(hK:Keep C w w')(c:C T)(d:C MX)(e: ∀b,vx.ownBlock=some b->C b):TabAt w' T MX vx xs:=
 ⟨hK.heap h.tab c,qf h.own hK e,h.nums.keep hK d⟩
theorem TabAt.nodup {w:World}{T MX:Nat}{vx:Value}{xs:List ByteArray}(h:TabAt w T MX vx xs):xs.Nodup:=by
 obtain⟨_,_,_,_,b,_⟩:=h.nums;rw [qke]at b;exact b
theorem qfp {w:World}{T MX:Nat}{vx:Value}{xs:List ByteArray}(h:TabAt w T MX vx xs):Calls prog 132 #[pV T] w fun e w'=>e=.returned (.bool true)/\w'=w:=by
 have b:=qb h.tab 1 _ rfl;have d:=qe h.tab;simp only [zD]at b;clear h;have c: ∀w',(binOp .neq 130 (.map (some MX)) (.map none)).run prog w'=.ok (.bool true) w':=fun w'=>run_neq_map_nil w' _ _ _ (some MX) Tryz.underlying130
 go_enter Tryz.func132,Tryz.ntmps132
 go_wp2;go_ret;exact⟨rfl,rfl⟩
theorem q03 {w:World}{T MX:Nat}{vx:Value}{xs:List ByteArray}(h:TabAt w T MX vx xs):Calls prog 228 #[pV T] w fun e w'=>e=.returned (.int .i64 (xs.length:Int))/\w'=w:=by
 have g:=qb h.tab 0 _ rfl;have l:=qe h.tab;simp only [zD]at g;obtain⟨a,c,rfl⟩:=qi h.own;refine hd1 ?_ h;clear h;intro d
 go_enter Tryz.func228,Tryz.ntmps228
 go_wp2_with fail;refine(qfp d.o).mono ?_;rintro e m ⟨rfl,b⟩;have b:=b.symm;subst b;go_wp2_with fail;go_ret;exact⟨rfl,rfl⟩
theorem qxx {w:World}{T MX:Nat}{vx:Value}{xs:List ByteArray}(h:TabAt w T MX vx xs)(s:ByteArray)(m:s.size<=1073741824):
  Calls prog 177 #[pV T,.string s] w fun e w'=>e=.returned (.tuple #[.int .i64 (if s∈xs then ((xs.idxOf s:Nat):Int) else 0),.bool (decide (s∈xs))])/\w'=w:=by
 have l:=qb h.tab 1 _ rfl;have q:=qe h.tab;simp only [zD]at l;have c:=qd7 (P:=prog) Tryz.underlying130 qln qlo qps h.nums s (qlp m) true;rw [qpt h.nodup s]at c;refine hd1 ?_ h;clear h;intro g;by_cases d:s∈xs
 ·rw [zI d]at c;simp only [yg]at c;rw [zI d,zS d];clear d
  go_enter Tryz.func177,Tryz.ntmps177
  go_wp2_with fail;refine(qfp g.o).mono ?_;rintro e p ⟨rfl,b⟩;have b:=b.symm;subst b;go_wp2_with fail
  go_ret2
  exact⟨rfl,rfl⟩
 ·rw [zF d]at c;simp only [yg]at c;rw [zF d,zM d];clear d
  go_enter Tryz.func177,Tryz.ntmps177
  go_wp2_with fail;refine(qfp g.o).mono ?_;rintro e p ⟨rfl,b⟩;have b:=b.symm;subst b;go_wp2_with fail
  go_ret2
  exact⟨rfl,rfl⟩
theorem qxy {w:World}{T MX:Nat}{vx:Value}{xs:List ByteArray}(h:TabAt w T MX vx xs)(n:Nat)(s:ByteArray)(q:xs[n]?=some s)(Y:xs.length<=1073741824):
  Calls prog 181 #[pV T,.int .i64 (n:Int)] w fun e w'=>e=.returned (.tuple #[.string s,.bool true])/\w'=w:=by
 have t:=qb h.tab 0 _ rfl;have U:=qe h.tab;simp only [zD]at t;have p:=q03 h;have v:=(zA.1 q).1;have b:=h.own;obtain⟨a,c,rfl⟩:=qi h.own;obtain⟨g,rfl⟩: ∃g,a=some ⟨g,0,none⟩:=by
  rcases b.2 with ⟨e1,e2⟩ |⟨g,cap,cur,e1,_⟩
  ·exfalso;have:=b.1;rw [e2] at this;simp at this;omega
  ·injection e1 with q1;exact⟨g,q1⟩
 have hx:=qbd b n (.string s) (by rw [zP,q];rfl);have m:=qes b;have u:=m.2.2.1;have x: ¬((n:Int)<0):=wA
 have y: ¬((xs.length:Int)<=n):=wA
 have z:(n:Int)<xs.length:=wA
 have R:(0:Int)<=n:=wA
 clear q b h;refine hd1 ?_ p;clear p;intro l
 go_enter Tryz.func181,Tryz.ntmps181
 go_wp2_with fail;refine l.o.mono ?_;rintro e w9 ⟨rfl,d⟩;have d:=d.symm;subst d;go_wp2_with fail
 go_ret2
 exact⟨rfl,rfl⟩
theorem qef:qb2 prog 60 9 1 16:=qcl (z:=.string ⟨#[]⟩) wB wB rfl wD wD
theorem qv9 {xs:List ByteArray}{s:ByteArray}(h:s∈xs)(t:ByteArray):(qo xs t).idxOf s=xs.idxOf s:=by
 unfold qo;split
 ·rfl
 ·rw [idxOf_append,zI h]
theorem qwa {s:ByteArray}: ∀{ts xs:List ByteArray},s∈xs->(ts.foldl qo xs).idxOf s=xs.idxOf s:=by
 intro ts
 induction ts with
 |nil=>intro xs _;rfl
 |cons t ts ih=>
  intro xs h;rw [foldl_cons,ih (by unfold qo;split;exact h;exact xd _ h),qv9 h]
def qaa (xs:List ByteArray)(t:List ByteArray):List Int:=t.map fun s=>((xs.idxOf s:Nat):Int)
theorem q4k {t ts xs:List ByteArray}(h: ∀s,s∈t->s∈xs):qaa (ts.foldl qo xs) t=qaa xs t:=xA fun s b=>by rw [qwa (h s b)]
theorem q04 {w:World}{T MX:Nat}{vx:Value}{xs:List ByteArray}(h:TabAt w T MX vx xs)(s:ByteArray)(hs:s.size<=1073741824)(hl:xs.length<=1073741824):
  Calls prog 133 #[pV T,.string s] w fun e w'=> ∃vx',e=.returned (.tuple #[.int .i64 (((qo xs s).idxOf s:Nat):Int),.int .i64 0])/\TabAt w' T MX vx' (qo xs s)/\
   Keep (fun b=>b≠T/\b≠MX/\vx.ownBlock≠some b) w w'/\(∀b,vx'.ownBlock=some b->vx.ownBlock=some b∨w.heap.size<=b):=by
 have c0:=qb h.tab 0 _ rfl;have c1:=qb h.tab 1 _ rfl;have hB:=qe h.tab;simp only [zD]at c0 c1;have x:=qd7 (P:=prog) Tryz.underlying130 qln qlo qps h.nums s (qlp hs) true;rw [qpt h.nodup s]at x;by_cases hm:s∈xs
 ·rw [zI hm]at x;simp only [yg]at x;have hx:qo xs s=xs:=zI hm;rw [hx];clear hm hx c0;refine hd1 ?_ h;clear h;intro Xh
  go_enter Tryz.func133,Tryz.ntmps133
  go_wp2_with fail;refine(qfp Xh.o).mono ?_;rintro e w9 ⟨rfl,p⟩;have p:=p.symm;subst p;go_wp2_with fail
  go_ret2
  exact⟨_,rfl,Xh.o,Keep.refl _ _,fun b d=>.inl d⟩
 ·rw [zF hm]at x;simp only [yg]at x;have hx:qo xs s=xs++ [s]:=zF hm;have am:(xs++ [s]).idxOf s=xs.length:=by rw [idxOf_append,zF hm];simp
  rw [hx,am];obtain⟨W5,ax,R,Y,ay⟩:=qiu (P:=prog) Tryz.underlying130 qln qlo h.nums s (qlp hs) xs.length;rw [qyw hm]at R;unfold qv8 at ax;have af:T≠MX:=fun e=>by
   obtain⟨es,c,q,_⟩:=h.nums;rw [←e,h.tab]at q;cases q
  have ag: ∀b,vx.ownBlock=some b->b≠T:=fun b d e=>by
   rcases h.own.2 with ⟨e1,_⟩ |⟨g,cap,cur,e1,_,e3,_⟩
   ·rw [e1]at d;cases d
   ·rw [e1]at d;cases d;subst e;rw [h.tab]at e3;injection e3 with e3
    injection e3 with _ e3
    exact absurd e3 wD
  have U: ∀b,vx.ownBlock=some b->b≠MX:=fun b d e=>by
   obtain⟨es,c,q,_⟩:=h.nums;rcases h.own.2 with ⟨e1,_⟩ |⟨g,cap,cur,e1,_,e3,_⟩
   ·rw [e1]at d;cases d
   ·rw [e1]at d;cases d;subst e;rw [q]at e3;cases e3
  have ad:=qf h.own Y U;have l:=Y.heap h.tab af;obtain⟨v',W6,hr,ao,k6,g,cap,hv,z,aj⟩:=qc3 (P:=prog) qef 60 ad [.string s] rfl (by simp [Value.oneCell']) wA (ya _);obtain⟨a,c,rfl⟩:=qi h.own;subst hv;have m:=k6.heap l (fun e=>ag T (by rw [←e]) rfl);have ak:g≠T:=fun e=>by
   rcases z with q |q
   ·exact ag g q e
   ·have:=qe l;omega
  have av:g≠MX:=fun e=>by
   rcases z with q |q
   ·exact U g q e
   ·have:=R.lt;omega
  have an:=R.keep k6 (fun e=>U MX (by rw [←e]) rfl);have d0:=qb l 0 _ rfl;have d6:=qb m 0 _ rfl;have f6:=qg m 0;have aH:=qe l;have aI:=qe m;simp only [zD]at d0 d6;have aa:TabAt (W6.setCell ⟨T,0,none⟩ (.slice (some ⟨g,0,none⟩) (xs.length+1) cap)) T MX (.slice (some ⟨g,0,none⟩) (xs.length+1) cap) (xs++ [s]):=by
   have hk:Keep (fun b=>b≠T) W6 (W6.setCell ⟨T,0,none⟩ (.slice (some ⟨g,0,none⟩) (xs.length+1) cap)):=kSc;refine⟨?_,?_,an.keep hk (fun e=>af e.symm)⟩
   ·exact qaj 0 _ m
   ·rw [zR,length_singleton,zn];exact qf ao hk (fun b d=>by simp only [Value.ownBlock] at d;cases d;exact ak)
  have t:Keep (fun b=>b≠T/\b≠MX/\(Value.slice a xs.length c).ownBlock≠some b) w (W6.setCell ⟨T,0,none⟩ (.slice (some ⟨g,0,none⟩) (xs.length+1) cap)):=by
   refine((Y.mono fun b _ h=>h.2.1).trans (k6.mono fun b _ h=>fun e=>h.2.2 e.symm)).trans (Keep.setCell _ _ _ (fun h=>h.1 rfl))
  have al: ∀b,(Value.slice (some ⟨g,0,none⟩) (xs.length+1) cap).ownBlock=some b->(Value.slice a xs.length c).ownBlock=some b∨w.heap.size<=b:=fun b d=>by
   simp only [Value.ownBlock]at d;cases d;rcases z with q |q
   ·exact .inl q
   ·exact .inr wA
  rw [ay]at hr;clear hm hx am R Y af ag U ad l ao k6 z ak av an m;refine hd6 ?_ h aa t al hr aj;clear h aa t al hr aj;intro Xh ae y ai au az
  go_enter Tryz.func133,Tryz.ntmps133
  go_wp2_with fail;refine(qfp Xh.o).mono ?_;rintro e w9 ⟨rfl,p⟩;have p:=p.symm;subst p;go_wp2_with (at_builtin;refine qbo (v:=.slice a xs.length c) (u:=.slice (some ⟨w.heap.size,0,none⟩) 1 1) (v':=.slice (some ⟨g,0,none⟩) (xs.length+1) cap) (w':=W6) rfl (.tmp 38) (.tmp 40) 60 rfl rfl rfl au.o ?_)
  go_ret2
  exact⟨_,rfl,ae.o,y.o,ai.o⟩
theorem qs3 {w:World}{g base:Nat}{e:TypeId}{b:List Value}(h:w.heap[g]?=some (.cells b.toArray e (0,0)))(c:base<=g)(d:b.length<=maxLen):w.ownsRow base e 1 (.slice (some ⟨g,0,none⟩) b.length b.length) b.length b:=
 ⟨wC,.inr ⟨g,b.length,b.toArray,rfl,c,h,zG _,d,wC,wC⟩⟩
theorem qs4 (n:Nat):madeCells #[.int .i64 0] n=Array.replicate n (Value.int .i64 0):=by
 apply Array.ext
 ·simp [madeCells]
 ·intro i b c;simp [madeCells,Nat.mod_one]
theorem qs5 (n:Nat):madeCells #[.string ⟨#[]⟩] n=Array.replicate n (Value.string ⟨#[]⟩):=by
 apply Array.ext
 ·simp [madeCells]
 ·intro i b c;simp [madeCells,Nat.mod_one]
theorem qwb:(prog.info? 3).map (fun i=>(i.zero,i.size,i.bytes))=some (some (.int .i64 0),1,8):=wB
theorem qwc:(prog.info? 9).map (fun i=>(i.zero,i.size,i.bytes))=some (some (.string ⟨#[]⟩),1,16):=wB
theorem qwd (n:Nat)(h:n<=1073741824)(u:World):(Instr.makeSlice 125 (.int .i64 (n:Int)) (.int .i64 (n:Int))).run prog u=
  .ok (.slice (some ⟨u.heap.size,0,none⟩) n n) (u.alloc (.cells (Array.replicate n (Value.int .i64 0)) 3)):=by
 obtain⟨i0,hi,b,c,d⟩:=info_parts qwb;have h:=run_make (P:=prog) u 125 3 i0 (.int .i64 0) Tryz.underlying125 hi b .i64 .i64 (n:Int) (n:Int) wA (Int.le_refl _) (by rw [d];omega) wA
 simpa [c,Value.cells,qs4]using h
theorem qkf (n:Nat)(h:n<=1073741824)(u:World):(Instr.makeSlice 60 (.int .i64 (n:Int)) (.int .i64 (n:Int))).run prog u=
  .ok (.slice (some ⟨u.heap.size,0,none⟩) n n) (u.alloc (.cells (Array.replicate n (Value.string ⟨#[]⟩)) 9)):=by
 obtain⟨i0,hi,b,c,d⟩:=info_parts qwc;have h:=run_make (P:=prog) u 60 9 i0 (.string ⟨#[]⟩) Tryz.underlying60 hi b .i64 .i64 (n:Int) (n:Int) wA (Int.le_refl _) (by rw [d];omega) wA
 simpa [c,Value.cells,qs5]using h
theorem qyx (l:List Value)(k:Nat)(v z:Value)(h:l.length=k)(m:Nat):(l++List.replicate (m+1) z).set k v=(l++ [v])++List.replicate m z:=by
 rw [set_append_right _ _ wA,h,xY,replicate_succ];simp
theorem q4l (xs ss:List ByteArray){k:Nat}{s:ByteArray}(h:ss[k]?=some s):(ss.take (k+1)).foldl qo xs=qo ((ss.take k).foldl qo xs) s:=by
 rw [zh,h,yl]
 rfl
theorem q65 {s:ByteArray}{ts xs:List ByteArray}(h:s∈ts):s∈ts.foldl qo xs:=qev.2 (.inr h)
theorem q4m (xs ss:List ByteArray){k:Nat}{s:ByteArray}(h:ss[k]?=some s):qaa ((ss.take (k+1)).foldl qo xs) (ss.take (k+1))=qaa ((ss.take k).foldl qo xs) (ss.take k)++ [((((ss.take (k+1)).foldl qo xs).idxOf s:Nat):Int)]:=by
 have e:ss.take (k+1)=ss.take k++ [s]:=by rw [zh,h];rfl
 unfold qaa;rw [e,zn,map_singleton]
 congr 1
 refine xA fun t b=>?_;rw [yl];exact yN _ (qwa (ts:= [s]) (q65 b))
theorem qti {w:World}{T MX:Nat}{vx:Value}{xs:List ByteArray}(h:TabAt w T MX vx xs)(m:Nat)(v:Value)(ss:List ByteArray)(aG:qaf m w v ss)(hm:m<=w.heap.size)(aF: ∀s,s∈ss->s.size<=1073741824)(hl:xs.length+ss.length<=1073741824)
  (R: ∀a n c,v=.slice (some a) n c->a.block≠T/\a.block≠MX/\vx.ownBlock≠some a.block):
  Calls prog 92 #[pV T,v] w fun e w'=> ∃vo vx',e=.returned (.tuple #[vo,.int .i64 0])/\TabAt w' T MX vx' (ss.foldl qo xs)/\
   w'.ownsRow w.heap.size 3 1 vo ss.length ((qaa (ss.foldl qo xs) ss).map (.int .i64))/\Keep (fun b=>b≠T/\b≠MX/\vx.ownBlock≠some b) w w'/\
   (∀b,vx'.ownBlock=some b->vx.ownBlock=some b∨w.heap.size<=b)/\(∀b,vo.ownBlock=some b->vx'.ownBlock≠some b):=by
 obtain⟨a,c,rfl,aV,ba,aB⟩:=id aG;have bf:=qe h.tab;have bd:=h.nums.lt;obtain⟨B,hB⟩:=ex (w.heap.size);obtain⟨W0,z⟩:=ex (w.alloc (.cells (Array.replicate ss.length (Value.int .i64 0)) 3));have k0:wE w W0:=by rw [←z];exact kAl
 have z0:W0.heap.size=w.heap.size+1:=by rw [←z];simp
 have q0:W0.heap[w.heap.size]?=some (.cells (List.replicate ss.length (Value.int .i64 0)).toArray 3 (0,0)):=by rw [←z,toArray_replicate];exact qh _ _
 have h0:=h.keep k0 trivial trivial (fun _ _=>wF);have aW:=fun u=>qwd ss.length aV u;have U:=qfp h;have ad: ∀b,vx.ownBlock=some b->b<w.heap.size:=fun b q=>(zE h.own b q).2;rw [hB]at q0 z0 ad;clear aG;refine qib ?_ aB aF R k0 q0 h0 z hB h U ad;clear aB aF R k0 q0 h0 z hB h U ad;intro ar av af aQ aS aO aq d Xh ag l
 go_enter Tryz.func92,Tryz.ntmps92
 go_wp2_with fail;refine ag.o.mono ?_;rintro e w9 ⟨rfl,ao⟩;have ao:=ao.symm;subst ao;go_wp2_with fail;rw [aq.o,d.o];clear aW
 go_loopw [17] (fun i' wr=> ∃(k:Nat) (vx':Value),k<=ss.length/\i'=.int .i64 (k:Int)/\TabAt wr T MX vx' ((ss.take k).foldl qo xs)/\wr.heap[B]?=some (.cells (((qaa ((ss.take k).foldl qo xs) (ss.take k)).map (Value.int .i64))++List.replicate (ss.length-k) (Value.int .i64 0)).toArray 3 (0,0))/\
  Keep (fun b=>b<B/\b≠T/\b≠MX/\vx.ownBlock≠some b) w wr/\(∀b,vx'.ownBlock=some b->vx.ownBlock=some b∨B<b)) (fun i _=>ss.length-(intOf i).toNat)
 case atStart=>exact⟨0,vx,wA,rfl,aO.o,by simpa [qaa] using aS.o,aQ.o.mt,fun b q=>.inl q⟩
 case round=>
  obtain⟨k,vx',hk,rfl,hT,p,hK,ae⟩:=hrel;have bg:=hK.size;have a6:=qe p;by_cases aC:k<ss.length
  ·have a3:(k:Int)<ss.length:=by omega
   have bc:(0:Int)<=k:=wA
   obtain⟨s,hs⟩: ∃s,ss[k]?=some s:=⟨_,zB aC⟩;obtain⟨b,o,rfl,a7,hc⟩:=ar.o k s hs;have ah:=af.o _ _ _ rfl;unfold qgq at hc;simp only [yB]at hc;have bb:=hK.cell hc ⟨by have:=d.o;simp only;omega,ah.1,ah.2.1,ah.2.2⟩;have a8:b<wr.heap.size:=by have:=d.o;omega
   have aJ:=(qfo (ss.take k) xs).2;rw [yC,xQ hk]at aJ;have aa:=q04 hT s (av.o s (zH hs)) wA;rw [←q4l xs ss hs]at aa;have aD:=q4m xs ss hs;have Y:(qaa ((ss.take k).foldl qo xs) (ss.take k)).length=k:=by unfold qaa;rw [zL,yC,xQ hk]
   have aA:T≠B:=by have:=qe Xh.o.tab;have:=d.o;omega
   have ay:MX≠B:=by have:=Xh.o.nums.lt;have:=d.o;omega
   have aI:vx'.ownBlock≠some B:=fun e=>by
    rcases ae B e with h1 |h1
    ·have:=l.o B h1;omega
    ·omega
   clear hc hs ah aJ hT;refine hd9 ?_ aa p hK ae aD Y aA ay aI;clear aa p hK ae aD Y aA ay aI;intro am t al g au x aj ai ax;go_wp2_with fail;refine am.o.mono ?_;rintro e W2 ⟨aK,rfl,az,k2,aH⟩;have y:=k2.heap t.o ⟨aj.o.symm,ai.o.symm,ax.o⟩;have a5:=qg y k;have a1:=qe y;have ab:=qaj k (.int .i64 (((List.foldl qo xs (ss.take (k+1))).idxOf s:Nat):Int)) y;rw [yK,show ss.length-k=ss.length-(k+1)+1 from wA,qyx _ k _ _ (by rw [zL];exact x.o)]at ab;have a9:W2.cell? ⟨B,k,none⟩=some (.int .i64 0):=by
    have:=qb y k (.int .i64 0) (by
     simp only [toList_toArray];rw [yH (by rw [zL,x.o];exact zG _),zL,x.o,xY,xU,zI wA])
    simpa using this
   have bh:=k2.size;clear y;refine hd4 ?_ az k2 aH ab;clear az k2 aH ab;intro ap aR aw an;go_wp2_with fail;go_roundw
   case rel=>
    have kB:Keep (fun b=>b≠B) W2 (W2.setCell ⟨B,k,none⟩ (.int .i64 (((List.foldl qo xs (ss.take (k+1))).idxOf s:Nat):Int))):=kSc;have ak: ∀b,aK.ownBlock=some b->vx.ownBlock=some b∨B<b:=fun b q=>by
     rcases aw.o b q with h1 |h1
     ·exact g.o b h1
     ·exact .inr wA
    refine⟨k+1,aK,wA,by go_num,ap.o.keep kB aj.o ai.o (fun b q e=>?_),?_,?_,ak⟩
    ·subst e;rcases ak _ q with h1 |h1
     ·have:=l.o _ h1;omega
     ·omega
    ·rw [au.o,zn];exact an.o
    ·refine(al.o.trans (aR.o.mono fun b q h=>⟨h.2.1,h.2.2.1,fun e=>?_⟩)).trans (kB.mono fun b _ h=>wA);rcases g.o b e with h1 |h1
     ·exact h.2.2.2 h1
     ·omega
   case measure=>simp [intOf];omega
  ·obtain rfl:k=ss.length:=by omega
   rw [zi]at hT p;rw [xY,replicate_zero,yP]at p;clear aC;refine hd4 ?_ hT p hK ae;clear hT p hK ae;intro aP t al g;go_wp2_with fail
   go_ret2
   have Y:((qaa (ss.foldl qo xs) ss).map (Value.int .i64)).length=ss.length:=by unfold qaa;rw [zL,zL]
   have ho:=qs3 t.o (base:=B) (zG _) (by rw [Y];simp only [maxLen];omega);rw [Y]at ho;refine⟨_,vx',rfl,aP.o,ho.mono (by have:=d.o;omega),al.o.mono fun b q h=>⟨by have:=d.o;omega,h⟩,fun b q=>(g.o b q).imp id (fun h=>by have:=d.o;omega),fun b q e=>?_⟩;have aU:B=b:=by simpa [Value.ownBlock] using q
   subst aU;rcases g.o _ e with h1 |h1
   ·have:=l.o _ h1;omega
   ·omega
theorem qwe {w:World}{T MX:Nat}{vx:Value}{xs:List ByteArray}(h:TabAt w T MX vx xs)(m:Nat)(v:Value)(t:List ByteArray)(ah: ∀s,s∈t->s∈xs)(am:qay m w v (qaa xs t))(hm:m<=w.heap.size)(hl:xs.length<=1073741824):
  Calls prog 142 #[pV T,v] w fun e w'=> ∃vo,e=.returned (.tuple #[vo,.int .i64 0])/\w'.ownsRow w.heap.size 9 1 vo t.length (t.map .string)/\wE w w':=by
 obtain⟨a,c,rfl,ai,ax,ag⟩:=id am;have al:(qaa xs t).length=t.length:=by unfold qaa;rw [zL]
 rw [al]at ai ax⊢;have aM:=qe h.tab;obtain⟨B,hB⟩:=ex (w.heap.size);obtain⟨W0,p⟩:=ex (w.alloc (.cells (Array.replicate t.length (Value.string ⟨#[]⟩)) 9));have k0:wE w W0:=by rw [←p];exact kAl
 have z0:W0.heap.size=w.heap.size+1:=by rw [←p];simp
 have q0:W0.heap[w.heap.size]?=some (.cells (List.replicate t.length (Value.string ⟨#[]⟩)).toArray 9 (0,0)):=by rw [←p,toArray_replicate];exact qh _ _
 have ay:=fun u=>qkf t.length ai u;have q:=qfp h;rw [hB]at q0 z0;clear am al;refine hd8 ?_ ag ah k0 q0 p hB h q;clear ag ah k0 q0 p hB h q;intro ab ad au av aa g Xh y
 go_enter Tryz.func142,Tryz.ntmps142
 go_wp2_with fail;refine y.o.mono ?_;rintro e w9 ⟨rfl,l⟩;have l:=l.symm;subst l;go_wp2_with fail;rw [aa.o,g.o];clear ay
 go_loopw [19] (fun i' wr=> ∃(k:Nat),k<=t.length/\i'=.int .i64 (k:Int)/\wr.heap[B]?=some (.cells (((t.take k).map Value.string)++List.replicate (t.length-k) (Value.string ⟨#[]⟩)).toArray 9 (0,0))/\
  Keep (fun b=>b<B) w wr) (fun i _=>t.length-(intOf i).toNat)
 case atStart=>exact⟨0,wA,rfl,by simpa using av.o,au.o.mt⟩
 case round=>
  obtain⟨k,hk,rfl,d,hK⟩:=hrel;have aN:=hK.size;have aE:=qe d;by_cases aj:k<t.length
  ·have aB:(k:Int)<t.length:=by omega
   have aK:(0:Int)<=k:=wA
   obtain⟨s,hs⟩: ∃s,t[k]?=some s:=⟨_,zB aj⟩;obtain⟨b,o,rfl,aF,hc⟩:=ab.o k (((xs.idxOf s:Nat):Int)) (by unfold qaa;rw [zP,hs];rfl);unfold qf6 at hc;simp only [yB]at hc;have aI:=hK.cell hc (by have:=g.o;simp only;omega);have aG:b<wr.heap.size:=by have:=g.o;omega
   have ak:=ad.o s (zH hs);have hT:TabAt wr T MX vx xs:=Xh.o.keep hK (by have:=g.o;omega) (by have:=Xh.o.nums.lt;have:=g.o;omega) (fun b hb=>by have:=(zE Xh.o.own b hb).2;have:=g.o;omega);have ao:=qxy hT (xs.idxOf s) s (by rw [zB (y9 ak),getElem_idxOf]) hl;have z:(t.take k).length=k:=by rw [yC,xQ hk]
   have an:t.take (k+1)=t.take k++ [s]:=by rw [zh,hs];rfl
   have aD:=qg d k;have x:=qaj k (.string s) d;rw [yK,show t.length-k=t.length-(k+1)+1 from wA,qyx _ k _ _ (by rw [zL];exact z)]at x;have aH:wr.cell? ⟨B,k,none⟩=some (.string ⟨#[]⟩):=by
    have:=qb d k (.string ⟨#[]⟩) (by
     simp only [toList_toArray];rw [yH (by rw [zL,z];exact zG _),zL,z,xY,xU,zI wA])
    simpa using this
   clear hc hs hT ak z;refine hd5 ?_ ao d hK an x;clear ao d hK an x;intro af R U ae Y;go_wp2_with fail;refine af.o.mono ?_;rintro e w9 ⟨rfl,l⟩;have l:=l.symm;subst l;go_wp2_with fail;go_roundw
   case rel=>
    refine⟨k+1,wA,by go_num,?_,U.o.trans (kSc)⟩;rw [ae.o,zn];exact Y.o
   case measure=>simp [intOf];omega
  ·obtain rfl:k=t.length:=by omega
   rw [zi,xY,replicate_zero,yP]at d;clear aj;refine hd2 ?_ d hK;clear d hK;intro R U;go_wp2_with fail
   go_ret2
   have ho:=qs3 R.o (base:=B) (zG _) (by rw [zL];simp only [maxLen];omega);rw [zL]at ho;exact⟨_,rfl,ho.mono (by have:=g.o;omega),U.o.mono fun b hb _=>by have:=g.o;omega⟩
theorem q05 (w:World):Calls prog 79 #[] w fun e w'=> ∃T MX,e=.returned (pV T)/\TabAt w' T MX (.slice none 0 0) []/\w.heap.size<=T/\w.heap.size<=MX/\T≠MX/\wE w w':=by
 have b:= @run_makeMap prog
 go_enter Tryz.func79,Tryz.ntmps79
 go_wp2;go_ret;refine⟨w.heap.size+1,w.heap.size,rfl,⟨?_,zj _ _ _ _,?_⟩,wA,wA,wA,kAl.trans kAl⟩
 ·have h:=qh (w.alloc (.map #[] 0)) (.cells #[.slice none 0 0,.map (some w.heap.size)] 201)
  simpa using h
 ·exact(qh4 w).keep (Keep.alloc (fun _=>True) _ _) trivial
end Go.Proofs
namespace Go.Proofs
open Go.RowKit Go.Ink R4
attribute [local go_sem] Oper.semAt_some
inductive q06 where
 |box |tab |texts |nums |rels
 |rel (R:Nat) (T:Tag)
abbrev qde:=Nat->Option (Nat×q06)
def qa5 (tag:qde)(S R:Nat):qb9:=fun b=>match tag b with
 |some (S',.rel R' T)=>if S'=S/\R'=R then some T else none
 |_=>none
theorem qai {tag:qde}{S R b:Nat}{T:Tag}:qa5 tag S R b=some T↔tag b=some (S,.rel R T):=by
 unfold qa5;constructor
 ·intro h;split at h
  ·rename_i S' R' T' ht;split at h
   ·rename_i hc;obtain⟨rfl,rfl⟩:=hc;cases h;exact ht
   ·cases h
  ·cases h
 ·intro h;rw [h];simp
def qeg (k:ByteArray×Nat):Value:=.agg #[.string k.1,.int .i64 (k.2:Int)]
abbrev qio (w:World)(b:Nat)(m:List ((ByteArray×Nat)×Nat)):Prop:=MapIn prog 153 qeg qk w b m
def qe3 (T M n:Nat):List Value:= [.int .i32 0,.int .u32 0,.bool true,qk T,.map (some M),.int .i64 (n:Int)]
structure StParts (tag:qde)(w:World)(S:Nat)(c:List qj)(T M MX:Nat)(vx:Value)(xs:List ByteArray)(rl:List ((ByteArray×Nat)×Nat)):Prop where
 tagS:tag S=some (S,.box)
 box:w.heap[S]?=some (.cells (qe3 T M c.length).toArray 116 (0,0))
 tagT:tag T=some (S,.tab)
 tab:w.heap[T]?=some (.cells #[vx,.map (some MX)] 201 (0,0))
 own:w.ownsRow 0 9 1 vx xs.length (xs.map .string)
 tagx: ∀b,vx.ownBlock=some b->tag b=some (S,.texts)
 tagN:tag MX=some (S,.nums)
 nums:qrd w MX xs.zipIdx
 tagM:tag M=some (S,.rels)
 rels:qio w M rl
 rel: ∀k R,(k,R)∈rl-> ∃vD P K lm,qci (qa5 tag S R) w R k.2 ((qv c k.1 k.2).map (qaa xs)) vD P K lm
 inj:(rl.map (·.2)).Nodup
 all: ∀f,f∈c-> ∃R,((f.pred,f.tuple.length),R)∈rl
 texts: ∀f s,f∈c->s∈f.tuple->s∈xs
 nodup:c.Nodup
 few:c.length<=67108864
 xfew:xs.length<=16*c.length
def StoreAt (tag:qde)(w:World)(S:Nat)(c:List qj):Prop:= ∃T M MX vx xs rl,StParts tag w S c T M MX vx xs rl
theorem StParts.keep {tag tag':qde}{w w':World}{S:Nat}{c:List qj}{T M MX:Nat}{vx:Value}{xs:List ByteArray}{m:List ((ByteArray×Nat)×Nat)}{C:Nat->Prop}(h:StParts tag w S c T M MX vx xs m)(hK:Keep C w w')
  (g: ∀b U,tag b=some (S,U)->C b) (d: ∀b U,tag' b=some (S,U)↔tag b=some (S,U)):StParts tag' w' S c T M MX vx xs m:=by
 have t: ∀R,qa5 tag' S R=qa5 tag S R:=fun R=>xz fun b=>by
  cases e:qa5 tag S R b with
  |some U=>exact qai.2 ((d b _).2 (qai.1 e))
  |none=>
   cases p:qa5 tag' S R b with
   |none=>rfl
   |some U=>
    have:=qai.2 ((d b _).1 (qai.1 p));rw [e]at this;cases this
 refine⟨(d _ _).2 h.tagS,hK.heap h.box (g _ _ h.tagS),(d _ _).2 h.tagT,hK.heap h.tab (g _ _ h.tagT),qf h.own hK (fun b l=>g b _ (h.tagx b l)),fun b l=>(d _ _).2 (h.tagx b l),(d _ _).2 h.tagN,h.nums.keep hK (g _ _ h.tagN),(d _ _).2 h.tagM,h.rels.keep hK (g _ _ h.tagM),fun k R s=>?_,h.inj,h.all,h.texts,h.nodup,h.few,h.xfew⟩;obtain⟨vD,P,K,lm,q⟩:=h.rel k R s;rw [t];exact⟨vD,P,K,lm,q.keep hK (fun b U l _=>g b _ (qai.1 l))⟩
theorem StoreAt.keep {tag tag':qde}{w w':World}{S:Nat}{c:List qj}{C:Nat->Prop}(h:StoreAt tag w S c)(hK:Keep C w w')(d: ∀b U,tag b=some (S,U)->C b)(e: ∀b U,tag' b=some (S,U)↔tag b=some (S,U)):StoreAt tag' w' S c:=by
 obtain⟨T,M,MX,vx,xs,g,h⟩:=h;exact⟨T,M,MX,vx,xs,g,h.keep hK d e⟩
structure Gh where
 st:Nat->Option (List qj)
 tag:qde
 held:Nat->Option Obj
def Gh.free (g:Gh)(b:Nat):Prop:=g.tag b=none/\g.held b=none
structure GInv (g:Gh)(w:World):Prop where
 store: ∀S c,g.st S=some c->StoreAt g.tag w S c
 own: ∀b S T,g.tag b=some (S,T)-> ∃c,g.st S=some c
 lt: ∀b T,g.tag b=some T->b<w.heap.size
 hold: ∀b o,g.held b=some o->w.heap[b]?=some o
 apart: ∀b o,g.held b=some o->g.tag b=none
 reln: ∀b S R U,g.tag b=some (S,.rel R U)->R<w.heap.size
structure GBd (g:Gh)(n:Nat)(g':Gh):Prop where
 more: ∀S c,g.st S=some c-> ∃d,g'.st S=some (c++d)
 new: ∀b,b<n->g.free b->g'.free b
 held: ∀b,b<n->g'.held b=g.held b
structure GStep (n0:Nat)(g:Gh)(X:World)(g':Gh)(Y:World):Prop where
 keep:Keep g.free X Y
 more: ∀S c,g.st S=some c-> ∃d,g'.st S=some (c++d)
 new: ∀b,b<X.heap.size->g.free b->g'.free b
 held: ∀b,b<n0->g'.held b=g.held b
 inv:GInv g' Y
theorem GBd.refl (g:Gh)(n:Nat):GBd g n g:=⟨fun S c h=>⟨[],by rw [h,yP]⟩,fun _ _ h=>h,fun _ _=>rfl⟩
theorem GBd.mono {g c:Gh}{n n0:Nat}(h:GBd g n c)(e:n0<=n):GBd g n0 c:=⟨h.more,fun b d=>h.new b wA,fun b d=>h.held b wA⟩
theorem GInv.keep {g:Gh}{X Y:World}(h:GInv g X)(hK:Keep (fun b=> ¬g.free b) X Y):GInv g Y:=by
 refine⟨fun S c l=>(h.store S c l).keep hK (fun b U d e=>by rw [e.1] at d;cases d) (fun _ _=>Iff.rfl),h.own,fun b T d=>zk (h.lt b T d) hK.size,fun b o d=>hK.heap (h.hold b o d) (fun e=>by rw [e.2] at d;cases d),h.apart,fun b S R U d=>zk (h.reln b S R U d) hK.size⟩
theorem GStep.refl {n0:Nat}{g:Gh}{X:World}(h:GInv g X):GStep n0 g X g X:=⟨Keep.refl _ _,(GBd.refl g 0).more,fun _ _ h=>h,fun _ _=>rfl,h⟩
theorem GStep.trans {n0:Nat}{g q p:Gh}{X Y Z:World}(h:GStep n0 g X q Y)(k:GStep n0 q Y p Z):GStep n0 g X p Z:=by
 have z:=h.keep.size;have s:Keep (fun b=>g.free b/\b<X.heap.size) X Y:=h.keep.mono fun b _ l=>l.1;have t:Keep (fun b=>g.free b/\b<X.heap.size) Y Z:=k.keep.mono fun b _ l=>h.new b l.2 l.1;refine⟨(s.trans t).mono fun b m l=>⟨l,m⟩,fun S c u=>?_,fun b m l=>k.new b wA (h.new b m l),fun b m=>(k.held b m).trans (h.held b m),k.inv⟩;obtain⟨d,hd⟩:=h.more S c u;obtain⟨e,v⟩:=k.more S _ hd;exact⟨d++e,by rw [v,yr]⟩
theorem GStep.own {n0:Nat}{g:Gh}{X Y:World}(h:GInv g X)(hK:wE X Y):GStep n0 g X g Y:=⟨hK.mt,(GBd.refl g 0).more,fun _ _ h=>h,fun _ _=>rfl,h.keep hK.mt⟩
def Gh.hold (g:Gh)(n:Nat)(Y:World):Gh:={g with held:=fun b=>if n<=b/\b<Y.heap.size/\g.tag b=none/\g.held b=none then Y.heap[b]? else g.held b}
theorem GInv.holds {g:Gh}{Y:World}(h:GInv g Y)(n:Nat):GInv (g.hold n Y) Y:=by
 refine⟨h.store,h.own,h.lt,fun b o c=>?_,fun b o c=>?_,h.reln⟩
 ·simp only [Gh.hold]at c;split at c
  ·exact c
  ·exact h.hold b o c
 ·simp only [Gh.hold]at c;split at c
  ·rename_i hc;exact hc.2.2.1
  ·exact h.apart b o c
theorem GStep.hold {n0:Nat}{g d:Gh}{X Y:World}(h:GStep n0 g X d Y)(l:n0<=X.heap.size):GStep n0 g X (d.hold X.heap.size Y) Y:=by
 refine⟨h.keep,h.more,fun b c e=>?_,fun b c=>?_,h.inv.holds _⟩
 ·have:=h.new b c e;refine⟨this.1,?_⟩;simp only [Gh.hold];rw [zF wA];exact this.2
 ·simp only [Gh.hold];rw [zF wA];exact h.held b c
def Gh.put (g:Gh)(k:Nat)(o:Obj):Gh:={g with held:=fun b=>if b=k then some o else g.held b}
theorem GStep.put {n0:Nat}{g:Gh}{X Y:World}(h:GInv g X){k:Nat}{o o':Obj}(m:g.held k=some o)(t:n0<=k)(hK:Keep (fun b=>b≠k) X Y)(ho:Y.heap[k]?=some o'):GStep n0 g X (g.put k o') Y:=by
 have p:=h.apart k o m;have q: ∀b U,g.tag b=some U->b≠k:=fun b U d e=>by subst e;rw [p] at d;cases d
 refine⟨hK.mono fun b _ l e=>(by subst e;rw [l.2] at m;cases m),(GBd.refl g 0).more,fun b d l=>⟨l.1,?_⟩,fun b d=>?_,?_⟩
 ·simp only [Gh.put];rw [zF (fun e=>by subst e;rw [l.2]at m;cases m)];exact l.2
 ·simp only [Gh.put];rw [zF wA]
 ·refine⟨fun S c s=>(h.store S c s).keep hK (fun b U d=>q b _ d) (fun _ _=>Iff.rfl),h.own,fun b T d=>zk (h.lt b T d) hK.size,fun b u d=>?_,fun b u d=>?_,fun b S R U d=>zk (h.reln b S R U d) hK.size⟩
  ·simp only [Gh.put]at d;split at d
   ·rename_i e;subst e;cases d;exact ho
   ·rename_i e;exact hK.heap (h.hold b u d) e
  ·simp only [Gh.put]at d;split at d
   ·rename_i e;subst e;exact p
   ·exact h.apart b u d
def qlq (n0:Nat):qgk Gh where
 inv:=GInv
 free:=Gh.free
 istep g X g' Y:=GStep n0 g X g' Y/\g'.st=g.st
 bstep:=GBd
 ifree h:=h.1.keep
 inew h:=h.1.new
 bnew h:=h.new
 bmono hn h:=h.mono hn
 invk h hK:=h.keep hK
def qb3 (tag:qde)(S R:Nat)(rt:qb9):qde:=fun b=>match rt b with
 |some T=>some (S,.rel R T)
 |none=>tag b
theorem qre {tag:qde}{S R:Nat}{c:qb9}(d:TagLe (qa5 tag S R) c):qa5 (qb3 tag S R c) S R=c:=xz fun b=>by
 cases e:c b with
 |some T=>exact qai.2 (by unfold qb3;rw [e])
 |none=>
  cases g:qa5 (qb3 tag S R c) S R b with
  |none=>rfl
  |some T=>
   have h:=qai.1 g;unfold qb3 at h;rw [e]at h;rcases d b T (qai.2 h) with h1 |⟨_,_,_,_,_,h1,_⟩
   ·rw [e]at h1;cases h1
   ·rw [e]at h1;cases h1
theorem qfy {tag:qde}{S R:Nat}{g:qb9}{X:World}(d: ∀b T,tag b=some T->b<X.heap.size)(c:TagNew (qa5 tag S R) g X){b:Nat}{U:Nat×q06}(l: ∀T,U≠(S,.rel R T)):qb3 tag S R g b=some U↔tag b=some U:=by
 unfold qb3;cases e:g b with
 |none=>exact Iff.rfl
 |some T=>
  constructor
  ·intro h;cases h;exact absurd rfl (l T)
  ·intro h;exfalso;rcases c b T e with ⟨T',h1⟩ |h1
   ·have:=qai.1 h1;rw [h]at this;cases this;exact l T' rfl
   ·have:=d b _ h;omega
theorem qtj {tag:qde}{S R d S':Nat}{m:qb9}{X:World}(g: ∀b T,tag b=some T->b<X.heap.size)(c:TagNew (qa5 tag S R) m X)(h:S'≠S∨d≠R):qa5 (qb3 tag S R m) S' d=qa5 tag S' d:=xz fun b=>by
 have l: ∀T p,((S',q06.rel d T):Nat×q06)≠(S,.rel R p):=fun T p e=>by cases e;rcases h with h |h<;>exact h rfl
 cases e:qa5 tag S' d b with
 |some U=>exact qai.2 ((qfy g c (l U)).2 (qai.1 e))
 |none=>
  cases q:qa5 (qb3 tag S R m) S' d b with
  |none=>rfl
  |some U=>
   have:=qai.2 ((qfy g c (l U)).1 (qai.1 q));rw [e]at this;cases this
theorem StParts.rel_at {tag:qde}{w:World}{S:Nat}{c:List qj}{T M MX:Nat}{vx:Value}{xs:List ByteArray}{b:List ((ByteArray×Nat)×Nat)}(h:StParts tag w S c T M MX vx xs b){k:ByteArray×Nat}{R:Nat}(e:(k,R)∈b):tag R=some (S,.rel R .box):=by
 obtain⟨vD,P,K,lm,d⟩:=h.rel k R e;exact qai.1 d.tagB
theorem StParts.rel_step {tag:qde}{X Y:World}{S:Nat}{c:List qj}{T M MX:Nat}{vx:Value}{xs:List ByteArray}{u:List ((ByteArray×Nat)×Nat)}(h:StParts tag X S c T M MX vx xs u)(q: ∀b U,tag b=some U->b<X.heap.size)
  {k:ByteArray×Nat} {R:Nat} (hk:(k,R)∈u) {t:qb9} (aa:TagLe (qa5 tag S R) t) (g:TagNew (qa5 tag S R) t X) (hK:Keep (fun b=>qa5 tag S R b=none) X Y)
  {vD:Value} {P K:Nat} {lm:List (List Bool×Nat)} (hR:qci t Y R k.2 ((qv c k.1 k.2).map (qaa xs)) vD P K lm):StParts (qb3 tag S R t) Y S c T M MX vx xs u:=by
 have m: ∀b V,tag b=some V->(∀U,V≠(S,.rel R U))->qa5 tag S R b=none:=fun b V d x=>by
  cases e:qa5 tag S R b with
  |none=>rfl
  |some U=>exact absurd (yI (d.symm.trans (qai.1 e))) (x U)
 have s: ∀b V,tag b=some V->(∀U,V≠(S,.rel R U))->qb3 tag S R t b=some V:=fun b V d x=>(qfy q g x).2 d;refine⟨s _ _ h.tagS (fun U e=>by cases e),hK.heap h.box (m _ _ h.tagS (fun U e=>by cases e)),s _ _ h.tagT (fun U e=>by cases e),hK.heap h.tab (m _ _ h.tagT (fun U e=>by cases e)),qf h.own hK (fun b d=>m _ _ (h.tagx b d) (fun U e=>by cases e)),
  fun b d=>s _ _ (h.tagx b d) (fun U e=>by cases e),s _ _ h.tagN (fun U e=>by cases e),h.nums.keep hK (m _ _ h.tagN (fun U e=>by cases e)),s _ _ h.tagM (fun U e=>by cases e),h.rels.keep hK (m _ _ h.tagM (fun U e=>by cases e)),fun k' R' p=>?_,h.inj,h.all,h.texts,h.nodup,h.few,h.xfew⟩
 by_cases e:R'=R
 ·subst e;have:k'=k:=by
   obtain⟨i,hi⟩:=zy.1 p;obtain⟨j,z⟩:=zy.1 hk;have y:i=j:=by
    refine(xw (l:=u.map (·.2)) ?_ h.inj).1 ?_
    ·rw [zL];exact(zA.1 hi).1
    ·rw [zP,zP,hi,z];rfl
   subst y;rw [hi]at z;cases z
   rfl
  subst this;rw [qre aa];exact⟨vD,P,K,lm,hR⟩
 ·obtain⟨ad,P',K',ab,v⟩:=h.rel k' R' p;rw [qtj q g (.inr e)];exact⟨ad,P',K',ab,v.keep hK (fun b U d _=>m b _ (qai.1 d) (fun U' e'=>by cases e';exact e rfl))⟩
theorem q4n {n0:Nat}{g:Gh}{X Y:World}{S:Nat}{c:List qj}{T M MX:Nat}{vx:Value}{xs:List ByteArray}{rl:List ((ByteArray×Nat)×Nat)}(m:GInv g X)(hS:g.st S=some c)(h:StParts g.tag X S c T M MX vx xs rl)
  {k:ByteArray×Nat} {R:Nat} (hk:(k,R)∈rl) {s:qb9} (z:TagLe (qa5 g.tag S R) s) (p:TagNew (qa5 g.tag S R) s X) (v: ∀b U,s b=some U->b<Y.heap.size) (hK:Keep (fun b=>qa5 g.tag S R b=none) X Y)
  {vD:Value} {P K:Nat} {lm:List (List Bool×Nat)} (hR:qci s Y R k.2 ((qv c k.1 k.2).map (qaa xs)) vD P K lm):GStep n0 g X {g with tag:=qb3 g.tag S R s} Y:=by
 have l: ∀b,g.tag b=none->qa5 g.tag S R b=none:=fun b d=>by
  cases e:qa5 g.tag S R b with
  |none=>rfl
  |some U=>have:=qai.1 e;rw [d] at this;cases this
 have q: ∀b,b<X.heap.size->g.tag b=none->qb3 g.tag S R s b=none:=fun b d ht=>by
  unfold qb3;cases e:s b with
  |none=>exact ht
  |some U=>
   rcases p b U e with ⟨U',h1⟩ |h1
   ·rw [l b ht]at h1;cases h1
   ·omega
 have t:=h.rel_step m.lt hk z p hK hR;refine⟨hK.mono fun b _ x=>l b x.1,(GBd.refl g 0).more,fun b d x=>⟨q b d x.1,x.2⟩,fun _ _=>rfl,?_⟩;refine⟨fun S' c' u=>?_,fun b S' U d=>?_,fun b U d=>?_,fun b o d=>hK.heap (m.hold b o d) (l b (m.apart b o d)),fun b o d=>q b (qe (m.hold b o d)) (m.apart b o d),fun b S' R' U d=>?_⟩
 ·by_cases e:S'=S
  ·subst e;have:c'=c:=by rw [hS] at u;cases u;rfl
   subst this;exact⟨T,M,MX,vx,xs,rl,t⟩
  ·refine(m.store S' c' u).keep hK (fun b U d=>?_) (fun b U=>qfy m.lt p (fun V y=>by cases y;exact e rfl));cases y:qa5 g.tag S R b with
   |none=>rfl
   |some V=>
    have:=qai.1 y;rw [d]at this;cases this;exact absurd rfl e
 ·simp only at d;unfold qb3 at d;cases e:s b with
  |none=>rw [e] at d;exact m.own b S' U d
  |some V=>rw [e] at d;cases d;exact⟨c,hS⟩
 ·simp only at d;unfold qb3 at d;cases e:s b with
  |none=>rw [e] at d;exact zk (m.lt b U d) hK.size
  |some V=>exact v b V e
 ·simp only at d;unfold qb3 at d;cases e:s b with
  |none=>rw [e] at d;exact zk (m.reln b S' R' U d) hK.size
  |some V=>rw [e] at d;cases d;exact zk (m.lt _ _ (h.rel_at hk)) hK.size
end Go.Proofs
namespace Go.Proofs
open Go.RowKit Go.Ink R4
theorem StParts.table {tag:qde}{w:World}{S:Nat}{c:List qj}{T M MX:Nat}{vx:Value}{xs:List ByteArray}{b:List ((ByteArray×Nat)×Nat)}(h:StParts tag w S c T M MX vx xs b):TabAt w T MX vx xs:=⟨h.tab,h.own,h.nums⟩
abbrev q9v:Go.Conc.Locks.MuLink:={lock:=72,unlock:=73,ilock:=126,iunlock:=127,lockSlow:=168,unlockSlow:=171,disable:=164,enable:=166,acquire:=167,relMerge:=169,cas32:=165,add32:=170,tMutex:=110,tIMutex:=108,tPMutex:=198,tPIMutex:=257,tPI32:=259,tUP:=261,tNoCopy:=105,tU32:=106}
theorem qhu:Go.Conc.Locks.MuLib prog q9v:=
 ⟨Tryz.func72,Tryz.func73,Tryz.func126,Tryz.func127,Tryz.func164,Tryz.func166,Tryz.func167,Tryz.func169,Tryz.func165,Tryz.func170,Tryz.underlying108,Tryz.runUnderlying108,Tryz.sizeOf108,Tryz.isAgg108,Tryz.zeroValue108,Tryz.underlying110,Tryz.runUnderlying110,Tryz.sizeOf110,Tryz.isAgg110,Tryz.zeroValue110,Tryz.underlying198,Tryz.runUnderlying198,Tryz.sizeOf198,Tryz.isAgg198,Tryz.zeroValue198,Tryz.underlying257,Tryz.runUnderlying257,Tryz.sizeOf257,Tryz.isAgg257,Tryz.zeroValue257,Tryz.underlying259,Tryz.runUnderlying259,Tryz.sizeOf259,Tryz.isAgg259,Tryz.zeroValue259,Tryz.underlying261,Tryz.runUnderlying261,Tryz.sizeOf261,Tryz.isAgg261,Tryz.zeroValue261,Tryz.underlying105,Tryz.runUnderlying105,Tryz.sizeOf105,Tryz.isAgg105,Tryz.zeroValue105,Tryz.underlying21,Tryz.runUnderlying21,Tryz.sizeOf21,Tryz.isAgg21,Tryz.zeroValue21,wB⟩
theorem qmh (w:World)(B o:Nat)(v:Value)(k:Nat):(w.setCell ⟨B,o,none⟩ v).heap[k]?=if k=B then (w.heap[k]?).map (fun x=>match x with |.cells c e f=>.cells (c.setIfInBounds o v) e f |x=>x) else w.heap[k]?:=by
 by_cases h:k=B
 ·subst h;rw [zI rfl];simp only [World.setCell,Option.isSome_none,zz,yy];rw [Array.getElem?_modify,zI rfl];cases w.heap[k]? with
  |none=>rfl
  |some x=>cases x<;>rfl
 ·rw [zF h];exact Below.heap_setCell _ _ _ _ h
theorem Keep.set_both {C:Nat->Prop}{w w':World}(h:Keep C w w')(B o:Nat)(v:Value):Keep C (w.setCell ⟨B,o,none⟩ v) (w'.setCell ⟨B,o,none⟩ v):=
 ⟨h.os,h.tape,h.output,by simpa using h.size,fun k c b=>by
  rw [qmh,qmh,h.block k (by simpa using c) b]⟩
theorem q8y {w:World}{B t:Nat}{c:List Value}{u v:Value}{b:Nat×Nat}(h:w.heap[B]?=some (.cells (u::c).toArray t b)):((w.setCell ⟨B,0,none⟩ v).setCell ⟨B,0,none⟩ u)=w:=by
 have g:=qe h;have: ∀k,((w.setCell ⟨B,0,none⟩ v).setCell ⟨B,0,none⟩ u).heap[k]?=w.heap[k]?:=fun k=>by
  rw [qmh,qmh];by_cases e:k=B
  ·subst e;rw [zI rfl,zI rfl,h];rfl
  ·rw [zF e,zF e]
 have d:((w.setCell ⟨B,0,none⟩ v).setCell ⟨B,0,none⟩ u).heap=w.heap:=Array.ext_getElem? this;show {w with heap:=((w.setCell ⟨B,0,none⟩ v).setCell ⟨B,0,none⟩ u).heap}=w;rw [d]
end Go.Proofs
namespace Go.Proofs
open Go.RowKit Go.Ink R4
attribute [local go_sem] Oper.semAt_some
theorem qjd: ∀a b:ByteArray×Nat,qeg a=qeg b->a=b:=fun a b h=>by
 unfold qeg at h;obtain⟨c,a2⟩:=a;obtain⟨d,e⟩:=b;simp only [Value.agg.injEq,Array.mk.injEq,List.cons.injEq,Value.string.injEq,Value.int.injEq,true_and,and_true,Int.natCast_inj]at h;obtain⟨rfl,rfl⟩:=h
 rfl
theorem qkg:WideMaps.KeyLaw prog 153:=deep_law (m:=4) wA wB wB (by simp only [Tryz.underlying153])
theorem qkh {k:ByteArray×Nat}(u:k.1.size<=1073741824)(v:k.2<=1073741824): ∃l,keyOf prog 153 (qeg k)=some l:=by
 obtain⟨m,s⟩:=qma;have b:prog.keyType 153=true:=wB
 have e:prog.cellsOf 153=2:=wB
 have g:prog.cellsOf 9=1:=wB
 have h:prog.cellsOf 3=1:=wB
 have p: ∀d,prog.keyLits (d+1) 9 [.string k.1]=some [.string k.1.data.toList]:=fun d=>by
  unfold Program.keyLits;simp only [Tryz.underlying9];rw [zI (by simp only [maxLen];omega)]
 have q: ∀d,prog.keyLits (d+1) 3 [.int .i64 (k.2:Int)]=some [.int .i64 (k.2:Int)]:=fun d=>by
  unfold Program.keyLits;simp only [Tryz.underlying3];have c:okI (k.2:Int):=by unfold okI;omega
  have t:(Lit.int .i64 (k.2:Int)).wf=true:=by
   simp only [Lit.wf,zV,zT];exact c
  simp only [t,and_self,yg]
 unfold keyOf qeg;simp only [Tryz.underlying153];rw [zI (by simp [b,Value.formed,Tryz.underlying153,e,Value.cells,Value.oneCell']),s];rw [Program.keyLits.eq_def];simp only [Tryz.underlying153,e];simp [Value.cells,g,h,p,q]
end Go.Proofs
namespace Go.Proofs
open Go.RowKit Go.Ink R4 Go.MuLone
attribute [local go_sem] Oper.semAt_some
theorem qje {C:Nat->Prop}{w W:World}{S t:Nat}{c:List Value}{b:Nat×Nat}(h:w.heap[S]?=some (.cells (.int .i32 0::c).toArray t b))(hK:Keep C (w.setCell ⟨S,0,none⟩ (.int .i32 1)) W):Keep C w (W.setCell ⟨S,0,none⟩ (.int .i32 0)):=by
 have:=Keep.set_both hK S 0 (.int .i32 0);rw [q8y h]at this;exact this
theorem qfq {κ ν:Type}[DecidableEq κ]{m:List (κ×ν)}{k:κ}{v:ν}(h:qdd m k=some v):(k,v)∈m:=by
 unfold qdd at h;rw [xO]at h;obtain⟨p,d,rfl⟩:=h;have c:p.1=k:=by simpa using find?_some d
 have e:=xb d;obtain⟨a,b⟩:=p;simp only at c;subst c;exact e
theorem qs6 {κ ν:Type}[DecidableEq κ]{m:List (κ×ν)}{k:κ}(h:qdd m k=none): ∀v,(k,v)∉m:=fun v b=>by
 unfold qdd at h;rw [Option.map_eq_none_iff,yn]at h;exact h (k,v) b (zS rfl)
theorem qmi: ∀w:World,(zeroValue 154).run prog w=.ok (.pointer none) w:=fun w=>wB
theorem qmj {tag:qde}{w:World}{S:Nat}{c:List qj}{T M MX:Nat}{vx:Value}{xs:List ByteArray}{d:List ((ByteArray×Nat)×Nat)}(h:StParts tag w S c T M MX vx xs d){p:ByteArray}{n:Nat}(l:qdd d (p,n)=none):qv c p n= []:=by
 refine eq_nil_iff_forall_not_mem.2 fun t m=>?_;obtain⟨e,g⟩:=qcr.1 m;obtain⟨R,b⟩:=h.all _ e;simp only [g]at b;exact qs6 l R b
theorem qip {w:World}{S T M n:Nat}(h:w.heap[S]?=some (.cells (qe3 T M n).toArray 116 (0,0))):Calls prog 71 #[qk S] w fun e w'=>e=.returned (.bool false)/\w'=w:=by
 have b:=qb h 2 _ rfl;have c:=qe h;simp only [zD]at b;clear h
 go_enter Tryz.func71,Tryz.ntmps71
 go_wp2;go_ret;exact⟨rfl,rfl⟩
theorem qrf (w:World):Calls prog 71 #[.pointer none] w fun e w'=>e=.returned (.bool true)/\w'=w:=by
 go_enter Tryz.func71,Tryz.ntmps71
 go_wp2;go_ret;exact⟨rfl,rfl⟩
theorem q07 (k:ByteArray×Nat)(w:World):Calls prog 97 #[.pointer none,qeg k] w fun e w'=>e=.returned (.int .i64 0)/\wE w w':=by
 unfold qeg
 go_enter_defers Tryz.func97,Tryz.ntmps97
 go_wp2_with fail;refine(qrf _).mono ?_;rintro e c ⟨rfl,b⟩;have b:=b.symm;subst b;go_wp2_with fail;exact⟨_,xm rfl _ _ _,rfl,kAl⟩
theorem q08 {tag:qde}{w:World}{S:Nat}{c:List qj}(h:StoreAt tag w S c)(p:ByteArray)(n:Nat)(hp:p.size<=1073741824)(hn:n<=1073741824):
  Calls prog 97 #[qk S,qeg (p,n)] w fun e w'=>e=.returned (.int .i64 ((qv c p n).length:Int))/\wE w w':=by
 obtain⟨T,M,MX,vx,xs,rl,hP⟩:=h;obtain⟨W0,x⟩:=ex (w.alloc (.cells #[.string p,.int .i64 (n:Int)] 153));have k0:wE w W0:=by rw [←x];exact kAl
 have z0:W0.heap.size=w.heap.size+1:=by rw [←x];simp
 have q0:W0.heap[w.heap.size]?=some (.cells #[.string p,.int .i64 (n:Int)] 153 (0,0)):=by rw [←x];exact qh _ _
 have d:=hP.keep (tag':=tag) k0 (fun _ _ _=>wF) (fun _ _=>Iff.rfl);have a0:=qb d.box 0 _ rfl;have f0:=qg d.box 0;have aB:=qe d.box;have aC:=qe hP.box;obtain⟨W1,z⟩:=ex (W0.setCell ⟨S,0,none⟩ (.int .i32 1));have k1:Keep (fun b=>b≠S) W0 W1:=by rw [←z];exact kSc
 have l:=qaj 0 (.int .i32 1) d.box;rw [z]at l;have a3:=qb l 4 _ rfl;have a1:=qb l 0 _ rfl;have f1:=qg l 0;have aA:=qe l;have q1:=k1.heap q0 wA;have b0:=qb q1 0 _ rfl;have b1:=qb q1 1 _ rfl;have aF:=qe q1;have aa:M≠S:=fun e=>by have:=d.tagM;rw [e,d.tagS] at this;cases this
 have hrel:=d.rels.keep k1 aa;have ad:=fun m=>qd7 (P:=prog) Tryz.underlying112 qkg qjd qmi (hrel.keep (Keep.drewN' (fun _=>True) W1 m) wF) (p,n) (qkh hp hn) false;have u:=qip d.box;have y: ∀m,wE w ((W1.drewN m).setCell ⟨S,0,none⟩ (.int .i32 0)):=fun m=>k0.trans (qje d.box (by rw [z];exact Keep.drewN' _ _ _));have q:=lock_free qhu ⟨S,0,none⟩ W0 (by simpa using a0) f0;rw [z]at q;simp only [zD]at a0 a1 a3 b0 b1;unfold qeg at ad⊢;cases hl:qdd rl (p,n) with
 |none=>
  simp only [hl,zz,yy]at ad;have hk:=qmj hP hl;rw [hk];clear hl hrel aa l z q0 q1 k1 hP k0;refine hd6 ?_ d u q x hk y;clear d u q x hk y;intro ae t s U aw v
  go_enter_defers Tryz.func97,Tryz.ntmps97
  go_wp2_with fail;rw [U.o];refine t.o.mono ?_;rintro e w9 ⟨rfl,g⟩;have g:=g.symm;subst g;go_wp2_with fail;refine s.o.mono ?_;rintro e w9 ⟨rfl,g⟩;have g:=g.symm;subst g;go_wp2_with fail
  go_quiet (first |(go_at_call 98;exact Calls.quiet_of_same (qzv _)))
  go_wp2_with fail;refine leaves_cons (f:=73) (args:= #[.pointer (some ⟨S,0,none⟩)]) wC (by simp [go_sem]) ?_;refine(unlock_deferred qhu ⟨S,0,none⟩ .returning _ (by simpa using a1) (by simpa using f1)).mono ?_;rintro e u' aq ⟨rfl,rfl,rfl⟩;exact⟨_,xm rfl _ _ _,rfl,v.o _⟩
 |some R=>
  simp only [hl,zz,yy]at ad;obtain⟨vD,P,K,lm,hR⟩:=d.rel _ _ (qfq hl);have ah:R≠S:=fun e=>by have:=d.rel_at (qfq hl);rw [e,d.tagS] at this;cases this
  have ai:=k1.heap hR.box ah;have Y:((qv c p n).map (qaa xs)).length=(qv c p n).length:=zL _;have aj: ∀m,Calls prog 98 #[.pointer (some ⟨R,0,none⟩)] (W1.drewN m) fun e w'=>e=.returned (.int .i64 ((qv c p n).length:Int))/\w'=W1.drewN m:=fun m=>by
   have:=qzw ((Keep.drewN' (fun _=>True) W1 m).heap ai wF);rw [Y]at this;exact this
  clear hl hrel aa l z q0 q1 k1 hP k0 hR ah ai Y;refine hd6 ?_ d u q x y aj;clear d u q x y aj;intro ae t s U v af
  go_enter_defers Tryz.func97,Tryz.ntmps97
  go_wp2_with fail;rw [U.o];refine t.o.mono ?_;rintro e w9 ⟨rfl,g⟩;have g:=g.symm;subst g;go_wp2_with fail;refine s.o.mono ?_;rintro e w9 ⟨rfl,g⟩;have g:=g.symm;subst g;go_wp2_with fail
  go_quiet (first |(go_at_call 98;exact Calls.quiet_of_same (af.o _)))
  go_wp2_with fail;refine leaves_cons (f:=73) (args:= #[.pointer (some ⟨S,0,none⟩)]) wC (by simp [go_sem]) ?_;refine(unlock_deferred qhu ⟨S,0,none⟩ .returning _ (by simpa using a1) (by simpa using f1)).mono ?_;rintro e u' aq ⟨rfl,rfl,rfl⟩;exact⟨_,xm rfl _ _ _,rfl,v.o _⟩
theorem qlr:qb2 prog 125 3 1 8:=qcl (z:=.int .i64 0) wB wB rfl wD wD
theorem qtk (n:Nat)(h:n<=1073741824)(u:World):(Instr.makeSlice 125 (.int .i64 0) (.int .i64 (n:Int))).run prog u=
  .ok (.slice (some ⟨u.heap.size,0,none⟩) 0 n) (u.alloc (.cells (Array.replicate n (Value.int .i64 0)) 3)):=by
 obtain⟨i0,hi,b,c,d⟩:=info_parts qwb;have h:=run_make (P:=prog) u 125 3 i0 (.int .i64 0) Tryz.underlying125 hi b .i64 .i64 (0:Int) (n:Int) wA wA (by rw [d];omega) wA
 simpa [c,Value.cells,qs4]using h
theorem q4o {xs t:List ByteArray}{k:Nat}{s:ByteArray}(h:t[k]?=some s):qaa xs (t.take (k+1))=qaa xs (t.take k)++ [((xs.idxOf s:Nat):Int)]:=by
 unfold qaa;rw [zh,h,zn]
 rfl
theorem qek (xs t:List ByteArray):(qaa xs t).length=t.length:=zL _
theorem qmv {w:World}{S T MX:Nat}{vx:Value}{xs:List ByteArray}(hc:w.cell? ⟨S,3,none⟩=some (qk T))(h:TabAt w T MX vx xs)(m:Nat)(v:Value)(t:List ByteArray)(ht:qaf m w v t)(hm:m<=w.heap.size)(ay: ∀s,s∈t->s.size<=1073741824):
  Calls prog 139 #[qk S,v] w fun e w'=> ∃vo,e=.returned (.tuple #[vo,.bool (t.all fun s=>decide (s∈xs))])/\
   ((t.all fun s=>decide (s∈xs))=true->w'.ownsRow w.heap.size 3 1 vo t.length ((qaa xs t).map (.int .i64)))/\((t.all fun s=>decide (s∈xs))=false->vo=.slice none 0 0)/\wE w w':=by
 obtain⟨a,c,rfl,aJ,a0,aq⟩:=id ht;have aH:=zQ _ _ hc;simp only at aH;obtain⟨B,hB⟩:=ex (w.heap.size);obtain⟨W0,U⟩:=ex (w.alloc (.cells (Array.replicate t.length (Value.int .i64 0)) 3));have k0:wE w W0:=by rw [←U];exact kAl
 have z0:W0.heap.size=w.heap.size+1:=by rw [←U];simp
 have q0:W0.ownsRow w.heap.size 3 1 (.slice (some ⟨w.heap.size,0,none⟩) 0 t.length) 0 []:=by
  rw [←U];exact xe w _ t.length (zG _) (by simp only [maxLen];omega) wC
 have aK:=fun u=>qtk t.length aJ u;rw [hB]at q0 z0;clear ht;refine hd8 ?_ aq k0 q0 U hB h ay hc;clear aq k0 q0 U hB h ay hc;intro ak aE aF aj d Xh ao aC
 go_enter Tryz.func139,Tryz.ntmps139
 go_wp2_with fail;rw [aj.o,d.o];clear aK
 go_loopw [6,16] (fun x6 i' wr=> ∃k:Nat,k<=t.length/\i'=.int .i64 (k:Int)/\(∀s,s∈t.take k->s∈xs)/\wr.ownsRow B 3 1 x6 k ((qaa xs (t.take k)).map (.int .i64))/\Keep (fun b=>b<B) w wr) (fun _ i _=>t.length-(intOf i).toNat)
 case atStart=>exact⟨0,wA,rfl,wC,aF.o,aE.o.mt⟩
 case round=>
  obtain⟨k,hk,rfl,q,ho,hK⟩:=hrel;have a3:=hK.size;have aZ:wr.cell? ⟨S,3,none⟩=some (qk T):=hK.cell aC.o (by have:=d.o;simp only;omega);have aW:S<wr.heap.size:=by have:=d.o;omega
  by_cases av:k<t.length
  ·have aR:(k:Int)<t.length:=by omega
   have a2:(0:Int)<=k:=wA
   obtain⟨s,hs⟩: ∃s,t[k]?=some s:=⟨_,zB av⟩;obtain⟨b,o,rfl,aX,Y⟩:=ak.o k s hs;unfold qgq at Y;simp only [yB]at Y;have a1:=hK.cell Y (by have:=d.o;simp only;omega);have aY:b<wr.heap.size:=by have:=d.o;omega
   have hT:TabAt wr T MX vx xs:=Xh.o.keep hK (by have:=qe Xh.o.tab;have:=d.o;omega) (by have:=Xh.o.nums.lt;have:=d.o;omega) (fun b hb=>by have:=(zE Xh.o.own b hb).2;have:=d.o;omega);have z:=qxx hT s (ao.o s (zH hs));have aw:=q4o (xs:=xs) hs;have ah:t.take (k+1)=t.take k++ [s]:=by rw [zh,hs];rfl
   obtain⟨a6,c6,rfl⟩:=qi ho;by_cases hm:s∈xs
   ·rw [zI hm,zS hm]at z;obtain⟨v',W6,hr,ax,k6,g,cap,hv,au,ar⟩:=qc3 (P:=prog) qlr 125 ho [.int .i64 ((xs.idxOf s:Nat):Int)] rfl (by simp [Value.oneCell']) wA (by have:=d.o;omega);subst hv;have ae: ∀x,x∈t.take (k+1)->x∈xs:=fun x hx=>by
     rw [ah,zr,zm]at hx;rcases hx with hx |rfl
     ·exact q x hx
     ·exact hm
    have ap:Keep (fun b=>b<B) w W6:=hK.trans (k6.mono fun b _ (hb:b<B) e=>by have:=(zE ho b e.symm).1;omega);clear Y hs hm ah hT k6;refine qib ?_ z ho hK ae ap hr ax aw ar au q;clear z ho hK ae ap hr ax aw ar au q;intro R ag aa af ai aD an am aN aO al;go_wp2_with (first |(at_builtin;refine qbo (v:=.slice a6 k c6) (u:=.slice (some ⟨wr.heap.size,0,none⟩) 1 1) (v':=.slice (some ⟨g,0,none⟩) (k+1) cap) (w':=W6) rfl (.tmp 32) (.tmp 34) 125 rfl rfl rfl aD.o ?_) |(go_at_call 177;refine R.o.mono ?_;rintro e w9 ⟨rfl,y⟩;have y:=y.symm;subst y));go_roundw
    case rel=>
     refine⟨k+1,wA,by go_num,af.o,?_,ai.o⟩;rw [am.o,zn];exact an.o
    case measure=>simp [intOf];omega
   ·rw [zF hm,zM hm]at z;have p:(t.all fun s=>decide (s∈xs))=false:=by
     rw [all_eq_false];exact⟨s,zH hs,by simpa using hm⟩
    clear Y hs hm ah hT;refine hd5 ?_ z ho hK q p;clear z ho hK q p;intro R ag aa al l;go_wp2_with fail;refine R.o.mono ?_;rintro e w9 ⟨rfl,y⟩;have y:=y.symm;subst y;go_wp2_with fail
    go_ret2
    exact⟨_,by rw [l.o];rfl,fun h=>by rw [l.o] at h;(cases h),fun _=>rfl,aa.o.mono fun b hb _=>by have:=d.o;omega⟩
  ·obtain rfl:k=t.length:=by omega
   rw [zi]at q ho;have p:(t.all fun s=>decide (s∈xs))=true:=yM.2 fun s hs=>zS (q s hs);obtain⟨a6,c6,rfl⟩:=qi ho;clear av q;refine hd3 ?_ ho hK p;clear ho hK p;intro ag aa l;go_wp2_with fail
   go_ret2
   exact⟨_,by rw [l.o];rfl,fun _=>ag.o.mono (by have:=d.o;omega),fun h=>by rw [l.o] at h;(cases h),aa.o.mono fun b hb _=>by have:=d.o;omega⟩
end Go.Proofs
