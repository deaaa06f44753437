/- Parts of the proof. -/
import Derived.Test.YtnponcjnahicnaaGreatDoorPnKToFlt
set_option linter.unusedSimpArgs false
set_option linter.unusedVariables false
set_option maxRecDepth 100000
set_option maxHeartbeats 1000000
open Go.Proofs.Tryz(prog)
open List(find?_cons foldlM_cons foldlM_nil getElem?_cons_succ)
namespace Go.Flt
open Ieee
def V (a:Nat):Nat:=mg a*2^sh a
theorem q5v {a:Nat}(h:0<a):0<V a:=Nat.mul_pos (by have:=qkh h;omega) (qe1 _)
theorem q40:V 0=0:=wC
theorem q3l {a b:Nat}(c:a<9218868437227405312)(d:b<9218868437227405312)(h:V a<=V b):a<=b:=by
 have:=qih (m1:=mg a) (m2:=mg b) (p1:= -1074+(sh a:Int)) (p2:= -1074+(sh b:Int)) (K:= -1074) xz xz (by
  rw [show(-1074+(sh a:Int)- -1074).toNat=sh a from xz,show(-1074+(sh b:Int)- -1074).toNat=sh b from xz];exact h)
 rwa [qmi c,qmi d] at this
theorem q1m {a b:Nat}(c:b<9218868437227405312)(h:a<b):V a<V b:=by
 rcases yX (V a) (V b) with hl |hg
 ·exact hl
 ·have:=q3l c xz hg;omega
theorem q1n {a b:Nat}(c:b<9218868437227405312)(h:a<=b):V a<=V b:=by
 rcases yX a b with hl |hg
 ·exact Nat.le_of_lt (q1m c hl)
 ·obtain rfl:a=b:=by omega
  exact zG _
theorem q3m (x y:Nat)(a b:Nat)(c:a<b->x<y)(d:b<a->y<x)(e:a=b->x=y):compare (x:Int) (y:Int)=compare a b:=by
 simp only [compare,compareOfLessAndEq];rcases Nat.lt_trichotomy a b with h |h |h
 ·rw [zI h,zI (by have:=c h;omega)]
 ·have:=e h;rw [zF (show ¬(x:Int)<y from xz),zI (show(x:Int)=y from xz),zF (show ¬a<b from xz),zI h]
 ·have:=d h;rw [zF (show ¬(x:Int)<y from xz),zF (show ¬(x:Int)=y from xz),zF (show ¬a<b from xz),zF (show ¬a=b from xz)]
theorem q27 (m i k:Nat):m*2^(i-k)*2^k=m*2^(i-k+k):=by rw [yc,←yo]
theorem qr6 {a b:Nat}(c:a<9218868437227405312)(d:b<9218868437227405312):D.order a b=some (compare a b):=by
 unfold Format.order;rw [qiw c,qiw d];unfold Datum.order signed;simp only [zy,yx,Nat.shiftLeft_eq];obtain⟨k,g⟩: ∃k,k=min (sh a) (sh b):=⟨_,rfl⟩;have e:(-1074+(sh a:Int)-min (-1074+(sh a:Int)) (-1074+(sh b:Int))).toNat=sh a-k:=xz
 have f:(-1074+(sh b:Int)-min (-1074+(sh a:Int)) (-1074+(sh b:Int))).toNat=sh b-k:=xz
 rw [e,f];have va:V a=mg a*2^(sh a-k)*2^k:=by rw [q27];unfold V;rw [show sh a-k+k=sh a from xz]
 have vb:V b=mg b*2^(sh b-k)*2^k:=by rw [q27];unfold V;rw [show sh b-k+k=sh b from xz]
 have p:=qe1 k;refine yM some (q3m _ _ _ _ (fun h=>?_) (fun h=>?_) (fun h=>?_))
 ·have:=q1m d h;rw [va,vb]at this;exact Nat.lt_of_mul_lt_mul_right this
 ·have:=q1m c h;rw [va,vb]at this;exact Nat.lt_of_mul_lt_mul_right this
 ·subst h;rfl
def qe9 (a b:Nat):Nat:=(D.mul a b).getD 0
def qhn (a b:Nat):Nat:=(D.div a b).getD 0
def qfy (n:Int):Nat:=FloatKind.f64.nearest n
theorem qr7 {a b:Nat}(c:a<9218868437227405312)(d:b<9218868437227405312):D.mul a b=some (qhb (mg a*mg b) (-1074+sh a+(-1074+sh b))):=by
 unfold Format.mul;rw [qiw c,qiw d]
 rfl
theorem q41 {a b:Nat}(c:a<9218868437227405312)(d:b<9218868437227405312):D.mul a b=some (qe9 a b):=by
 unfold qe9;rw [qr7 c d]
 rfl
theorem qlz {a b:Nat}(c:a<9218868437227405312)(d:b<9218868437227405312):qe9 a b=qhb (mg a*mg b) (-1074+sh a+(-1074+sh b)):=by
 unfold qe9;rw [qr7 c d]
 rfl
theorem q1o {a b:Nat}(c:a<9218868437227405312)(d:b<9218868437227405312):qe9 a b<=9218868437227405312:=by rw [qlz c d];exact q2a _ _
theorem qqc {a a' b:Nat}(c:a'<9218868437227405312)(d:b<9218868437227405312)(h:a<=a'):qe9 a b<=qe9 a' b:=by
 rw [qlz xz d,qlz c d];refine qih (K:= -1074+(-1074+(sh b:Int))) xz xz ?_;rw [show(-1074+(sh a:Int)+(-1074+(sh b:Int))-(-1074+(-1074+(sh b:Int)))).toNat=sh a from xz,show(-1074+(sh a':Int)+(-1074+(sh b:Int))-(-1074+(-1074+(sh b:Int)))).toNat=sh a' from xz];rw [Nat.mul_right_comm,Nat.mul_right_comm (mg a')];exact yV _ (q1n c h)
theorem qok {n:Int}(h:0<=n):qfy n=qhb n.toNat 0:=by
 unfold qfy FloatKind.nearest FloatKind.encode FloatKind.format qhb Format.write;rw [zM (show ¬n<0 from xz),show n.natAbs=n.toNat from xz]
theorem ql0 {n:Int}(h:0<=n)(b:n<=2147483647):qfy n<9218868437227405312:=by
 rw [qok h];refine Nat.lt_of_le_of_lt (qih (m2:=2147483647) (p2:=0) (K:=0) xz xz ?_) (show qhb 2147483647 0<_ from wC);simp;omega
theorem qqd {n:Int}(h:1<=n):4607182418800017408<=qfy n:=by
 rw [qok xz];refine zW (show 4607182418800017408<=qhb 1 0 from wC) (qih (m1:=1) (p1:=0) (K:=0) xz xz ?_);simp;omega
theorem qr8 {a b:Nat}(d:a<9218868437227405312)(e:b<9218868437227405312)(c:0<b):D.div a b=some (qhb (2*(mg a*2^(54+(mg b).log2-(mg a).log2)/mg b)+(mg a*2^(54+(mg b).log2-(mg a).log2)%mg b !=0).toNat) (-1074+(sh a:Int)-(-1074+(sh b:Int))-((54+(mg b).log2-(mg a).log2:Nat):Int)-1)):=by
 unfold Format.div;rw [qiw d,qiw e];unfold Datum.quotient;simp only [qkh c,yx,Nat.shiftLeft_eq]
 rfl
theorem q42 {a b:Nat}(d:a<9218868437227405312)(e:b<9218868437227405312)(c:0<b):D.div a b=some (qhn a b):=by
 unfold qhn;rw [qr8 d e c]
 rfl
theorem qqe {a b:Nat}(d:a<9218868437227405312)(e:b<9218868437227405312)(c:0<b):qhn a b=qhb (2*(mg a*2^(54+(mg b).log2-(mg a).log2)/mg b)+(mg a*2^(54+(mg b).log2-(mg a).log2)%mg b !=0).toNat) (-1074+(sh a:Int)-(-1074+(sh b:Int))-((54+(mg b).log2-(mg a).log2:Nat):Int)-1):=by
 unfold qhn;rw [qr8 d e c]
 rfl
theorem q43 {N n T:Nat}(b:0<n)(h:2*N<=n*T):2*(N/n)+(N%n !=0).toNat<=T:=by
 have e:=Nat.div_add_mod N n;by_cases c:N%n=0
 ·rw [c]at e⊢;have:n*(2*(N/n))<=n*T:=by rw [Nat.mul_left_comm];omega
  have:=Nat.le_of_mul_le_mul_left this b
  simpa using this
 ·have:n*(2*(N/n))<n*T:=by rw [Nat.mul_left_comm];omega
  have:=Nat.lt_of_mul_lt_mul_left this;have d:(N%n !=0).toNat<=1:=by cases (N%n !=0)<;>simp
  omega
theorem qvj {a b c:Nat}(r:a<9218868437227405312)(s:b<9218868437227405312)(v:c<9218868437227405312)(l:0<b)(u:Nat)(R:u=1074)(h:V a*2^u<=V b*V c):qhn a b<=c:=by
 by_cases m:a=0
 ·subst m;rw [qqe r s l];have:mg 0=0:=by decide
  rw [this];simp only [Nat.zero_mul,Nat.zero_div,Nat.zero_mod,Nat.mul_zero,bne_self_eq_false,Bool.toNat_false,Nat.add_zero,qmh];exact ya _
 have q:=qkh (a:=a) xz;have i:=qkh l;have p:0<c:=by
  rcases Nat.eq_zero_or_pos c with g |g
  ·exfalso;rw [g,q40,Nat.mul_zero]at h;have:=Nat.mul_pos (q5v (a:=a) xz) (qe1 u);omega
  ·exact g
 have j:=qkh p;have g:mg a*2^(sh a+u)<=(mg b*mg c)*2^(sh b+sh c):=by
  unfold V at h;have e:mg b*mg c*2^(sh b+sh c)=mg b*2^sh b*(mg c*2^sh c):=by
   rw [yo,yc,yc,Nat.mul_left_comm (mg c)]
  rw [e,yo,←yc];exact h
 have y:(mg a).log2+(sh a+u)<=(mg b).log2+(mg c).log2+1+(sh b+sh c):=by
  have z:=qzt q (Nat.mul_ne_zero i j) g;have:(mg b*mg c).log2<(mg b).log2+1+((mg c).log2+1):=by
   refine(Nat.log2_lt (Nat.mul_ne_zero i j)).2 ?_;rw [yo];exact Nat.mul_lt_mul_of_lt_of_le (qo0 _) (Nat.le_of_lt (qo0 _)) (qe1 _)
  omega
 have U:=qs4 (a:=a);have X:=qs4 (a:=c);rw [qqe r s l];obtain⟨more,f⟩: ∃k,54+(mg b).log2-(mg a).log2=k:=⟨_,rfl⟩;rw [f];have x: -1074+(sh a:Int)-(-1074+(sh b:Int))-(more:Int)-1<= -1074+(sh c:Int):=xz
 have:=qih (m1:=2*(mg a*2^more/mg b)+(mg a*2^more%mg b !=0).toNat) (m2:=mg c) (p1:= -1074+(sh a:Int)-(-1074+(sh b:Int))-(more:Int)-1) (p2:= -1074+(sh c:Int)) (Int.le_refl _) x (by
  rw [Int.sub_self,Int.toNat_zero,Nat.pow_zero,yA];refine q43 xz ?_;have:=qn1 (c:=more+1) (d:=(-1074+(sh c:Int)-(-1074+(sh a:Int)-(-1074+(sh b:Int))-(more:Int)-1)).toNat) g xz;have t:2*(mg a*2^more)=mg a*2^(more+1):=by rw [Nat.pow_succ,xK (2^more) 2,Nat.mul_left_comm]
  rw [t,←yc];exact this)
 rwa [qmi v] at this
theorem q5w (u:Nat)(d:u=1074):V 4607182418800017408=2^u:=by
 have b:mg 4607182418800017408=2^52:=wC
 have c:sh 4607182418800017408=1022:=wC
 unfold V;rw [b,←yo,show 52+sh 4607182418800017408=u from xz]
theorem ql1 {a b:Nat}(c:a<9218868437227405312)(d:b<9218868437227405312)(f:4607182418800017408<=b):qhn a b<=a:=by
 obtain⟨u,e⟩: ∃u:Nat,u=1074:=⟨_,rfl⟩;refine qvj c d c xz u e ?_;have:=q1n d f;rw [q5w u e]at this;rw [xK];exact yV _ this
def cap (a:Nat):Nat:=if a<=9094988921128908188 then a else 9094988921128908188
theorem qyq {a:Nat}(h:a<=9218868437227405312):D.order a 9094988921128908188=some (compare a 9094988921128908188):=by
 rcases yX a 9218868437227405312 with hl |hg
 ·exact qr6 hl wC
 ·obtain rfl:a=9218868437227405312:=by omega
  decide
theorem qyr (a:Nat):cap a<=9094988921128908188:=by unfold cap;split<;>omega
def qol (a:Nat):Nat:=qhn (qe9 a 4621256167635550208) 4621819117588971520
theorem qr9 {a:Nat}(h:a<=9094988921128908188):qe9 a 4621256167635550208<9218868437227405312:=
 Nat.lt_of_le_of_lt (qqc (a':=9094988921128908188) wC wC h) (by decide+kernel)
theorem qys {a:Nat}(h:a<=9094988921128908188):qol a<=9094988921128908188:=by
 obtain⟨u,j⟩: ∃u:Nat,u=1074:=⟨_,rfl⟩;refine qvj (qr9 h) wC wC wC u j ?_;have i:=q1n (b:=qe9 9094988921128908188 4621256167635550208) (by decide+kernel) (qqc (a':=9094988921128908188) (b:=4621256167635550208) wC wC h);refine zW (yV _ i) ?_;have e:mg (qe9 9094988921128908188 4621256167635550208)=7565482232153168:=by decide+kernel
 have k:sh (qe9 9094988921128908188 4621256167635550208)=2021:=by decide+kernel
 have f:mg 4621819117588971520=5629499534213120:=wC
 have l:sh 4621819117588971520=1025:=wC
 have g:mg 9094988921128908188=6724873095247260:=wC
 have m:sh 9094988921128908188=2018:=wC
 have:=qn1 (m1:=7565482232153168) (m2:=5629499534213120*6724873095247260) (a:=52) (b:=0) (c:=sh (qe9 9094988921128908188 4621256167635550208)+u) (d:=sh 4621819117588971520+sh 9094988921128908188) (by decide+kernel) xz;unfold V;rw [e,f,g];rw [yo,←yc,yo,yc 5629499534213120,Nat.mul_left_comm 6724873095247260,←yc 5629499534213120]at this;exact this
theorem q3n {a:Nat}(h:a<=9094988921128908188):qhn a 4611686018427387904<=a:=ql1 xz wC wC
end Go.Flt
namespace Go.Proofs.P16
open Go.RowKit Go.Ink Go.Flt
attribute [local go_sem] Oper.semAt_some
def qfz (sizes:List qaj)(pred:ByteArray):qaj:=(sizes.find? fun s=>decide (s.pred=pred)).getD ⟨⟨#[]⟩,0,[]⟩
def qfa (z:qaj)(n:Nat)(c:Int):Nat:=if c<z.dist.length/\0<z.dist.getD c.toNat 0 then qhn n (qfy (z.dist.getD c.toNat 0)) else n
def qcq (ahead:Nat)(L:LitD)(bound:List Int)(sizes:List qaj):Nat:=
 if L.kind=2 then qhn ahead 4611686018427387904 else if L.kind=3 then qol ahead
 else bound.foldl (qfa (qfz sizes L.atom.pred)) (cap (qe9 ahead (qfy (qfz sizes L.atom.pred).rows)))
def qwj (z:qaj):Prop:=0<=z.rows/\z.rows<=2147483647/\ ∀c,c∈z.dist->0<=c/\c<=2147483647
theorem qwk {l:List qaj}(h:qbo l=true): ∀z,z∈l->qwj z:=by
 intro z f;unfold qbo at h;rw [xI,xY]at h;have:=h z f;unfold qhu at this;rw [xt,xE,xY]at this;obtain⟨b,d⟩:=this;unfold qha at b;rw [xE,yP,yP]at b;refine⟨xz,xz,fun c e=>?_⟩;have:=d c e;unfold qha at this;rw [xt,xE,yP,yP]at this;omega
theorem qsa {l:List qaj}(h:qbo l=true)(b:ByteArray):qwj (qfz l b):=by
 unfold qfz;cases c:l.find? fun s=>decide (s.pred=b) with
 |none=>exact⟨wC,wC,wB⟩
 |some z=>exact qwk h z (xa c)
theorem q3o {z:qaj}(g:qwj z){n:Nat}(e:n<=9094988921128908188)(c:Int):qfa z n c<=9094988921128908188:=by
 unfold qfa;split
 ·rename_i h;obtain⟨i,b⟩:=h;have f:z.dist.getD c.toNat 0∈z.dist:=by
   by_cases d:c.toNat<z.dist.length
   ·rw [zJ,zB d];exact xD d
   ·rw [zJ,xA xz]at b;simp at b
  have j:=g.2.2 _ f;exact zW (ql1 xz (ql0 xz xz) (qqd xz)) e
 ·exact e
theorem qnp {z:qaj}(d:qwj z)(l:List Int){n:Nat}(b:n<=9094988921128908188):l.foldl (qfa z) n<=9094988921128908188:=by
 induction l generalizing n with
 |nil=>exact b
 |cons c r ih=>exact ih (q3o d b c)
theorem ql2 {a:Nat}(c:a<=9094988921128908188)(L:LitD)(b:List Int){l:List qaj}(d:qbo l=true):qcq a L b l<=9094988921128908188:=by
 unfold qcq;split
 ·exact zW (q3n c) c
 ·split
  ·exact qys c
  ·exact qnp (qsa d _) _ (qyr _)
theorem qom (z:qaj)(n:Nat)(l:List Int){k:Nat}{c:Int}(h:l[k]?=some c):(l.take (k+1)).foldl (qfa z) n=qfa z ((l.take k).foldl (qfa z) n) c:=by
 rw [zh,h,yk]
 rfl
theorem qm7 (ts:Array TypeId)(t:TypeId){x:Nat}(b:x<=9218868437227405312)(w:World):(Builtin.min_ ts t #[.float .f64 x,.float .f64 9094988921128908188]).run prog w=.ok (.float .f64 (cap x)) w:=by
 have ho:FloatKind.f64.format.order x 9094988921128908188=some (compare x 9094988921128908188):=qyq b;have e:compare x 9094988921128908188=if x<9094988921128908188 then .lt else if x=9094988921128908188 then .eq else .gt:=rfl
 simp only [Builtin.min_,Builtin.min2,foldlM_cons,foldlM_nil,ho,e];unfold cap;rcases Nat.lt_trichotomy x 9094988921128908188 with h |h |h
 ·rw [zI h,zI (show x<=9094988921128908188 from xz)];simp [yp,Sem.run_pure,Result.andThen]
 ·rw [zF (show ¬x<9094988921128908188 from xz),zI h,zI (show x<=9094988921128908188 from xz)];subst h;simp [yp,Sem.run_pure,Result.andThen]
 ·rw [zF (show ¬x<9094988921128908188 from xz),zF (show ¬x=9094988921128908188 from xz),zF (show ¬x<=9094988921128908188 from xz)];simp [yp,Sem.run_pure,Result.andThen]
theorem q1p (n:Int)(w:World):(convert 3 293 (.int .i64 n)).run prog w=.ok (.float .f64 (qfy n)) w:=run_convert_int_float (P:=prog) w 3 293 .i64 .f64 n wA wA
theorem qsb {a b:Nat}(c:a<9218868437227405312)(d:b<9218868437227405312)(w:World):(binOp .mul 293 (.float .f64 a) (.float .f64 b)).run prog w=.ok (.float .f64 (qe9 a b)) w:=run_float_arith w .mul _ .f64 a b _ (q41 c d)
theorem qnq {a b:Nat}(d:a<9218868437227405312)(e:b<9218868437227405312)(c:0<b)(w:World):(binOp .quo 293 (.float .f64 a) (.float .f64 b)).run prog w=.ok (.float .f64 (qhn a b)) w:=run_float_arith w .quo _ .f64 a b _ (q42 d e c)
theorem quh (b a:Nat)(c:a<=9094988921128908188)(w:World)(h:w.cell? ⟨b,0,none⟩=some (.float .f64 a)):Calls prog 245 #[.pointer (some ⟨b,0,none⟩)] w fun e w'=>e=.returned (.float .f64 (qhn a 4611686018427387904))/\w'=w:=by
 have f:=fun w=>qnq (a:=a) (b:=4611686018427387904) xz wC wC w;have d:=zQ w _ h;clear c
 go_enter Tryz.func245,Tryz.ntmps245
 go_wp2_with fail;go_ret;exact⟨rfl,rfl⟩
theorem qui (b a:Nat)(c:a<=9094988921128908188)(w:World)(h:w.cell? ⟨b,0,none⟩=some (.float .f64 a)):Calls prog 246 #[.pointer (some ⟨b,0,none⟩)] w fun e w'=>e=.returned (.float .f64 (qol a))/\w'=w:=by
 have g:=fun w=>qsb (a:=a) (b:=4621256167635550208) xz wC w;have f:=fun w=>qnq (a:=qe9 a 4621256167635550208) (b:=4621819117588971520) (qr9 c) wC wC w;have d:=zQ w _ h;clear c
 go_enter Tryz.func246,Tryz.ntmps246
 go_wp2_with fail;go_ret;exact⟨rfl,rfl⟩
theorem qsc (b:Nat)(s:qaj)(l:Value)(d:ByteArray)(n:Nat)(w:World)(m:qan n w l s.dist)(h:w.cell? ⟨b,1,none⟩=some (.string d)):Calls prog 244 #[qk2 s l,.pointer (some ⟨b,0,none⟩)] w fun e w'=>e=.returned (.bool (decide (s.pred=d)))/\Keep (fun b=>b<w.heap.size) w w':=by
 obtain⟨p,rows,k⟩:=s;obtain⟨a,c,rfl,-,-,-⟩:=m;unfold qk2;simp only;have q:=zQ w _ h;by_cases i:p=d
 ·have j:decide (p=d)=true:=zS i;have g:=qhs i;clear i;refine hd1 ?_ j;clear j;intro f
  go_enter Tryz.func244,Tryz.ntmps244
  go_wp2_with fail;go_ret;exact⟨by rw [f.o];first |rfl |simp [g],kAl⟩
 ·have j:decide (p=d)=false:=zM i;have g:=qfr i;clear i;refine hd1 ?_ j;clear j;intro f
  go_enter Tryz.func244,Tryz.ntmps244
  go_wp2_with fail;go_ret;exact⟨by rw [f.o];first |rfl |simp [g],kAl⟩
theorem qyt {l:List qaj}{b:ByteArray}(h:qbv (fun s:qaj=>decide (s.pred=b)) l<0):qfz l b=⟨⟨#[]⟩,0,[]⟩:=by
 have c:=qe5 (fun s:qaj=>decide (s.pred=b)) l;rw [zM xz]at c;unfold qfz;rw [ym.2 (fun s d=>by have:=xY.1 c.symm s d;exact this)]
 rfl
theorem qyu {l:List qaj}{b:ByteArray}(h: ¬qbv (fun s:qaj=>decide (s.pred=b)) l<0): ∃k:Nat,qbv (fun s:qaj=>decide (s.pred=b)) l=(k:Int)/\k<l.length/\l[k]?=some (qfz l b):=by
 induction l with
 |nil=>simp [qbv] at h
 |cons s r ih=>
  have e:qbv (fun s:qaj=>decide (s.pred=b)) (s::r)=if decide (s.pred=b)=true then 0 else (if qbv (fun s:qaj=>decide (s.pred=b)) r<0 then-1 else qbv (fun s:qaj=>decide (s.pred=b)) r+1):=rfl
  rw [e]at h⊢;by_cases c:decide (s.pred=b)=true
  ·rw [zI c];refine⟨0,rfl,wB,?_⟩;unfold qfz;rw [find?_cons,c]
   rfl
  ·rw [zF c]at h⊢;by_cases d:qbv (fun s:qaj=>decide (s.pred=b)) r<0
   ·rw [zI d]at h;omega
   ·rw [zF d];obtain⟨k,f,i,g⟩:=ih d;refine⟨k+1,by rw [f];rfl,by simp;omega,?_⟩;rw [getElem?_cons_succ,g];unfold qfz;rw [xt]at c;rw [find?_cons,c]
theorem quj (n b7 b5 b4 b6:Nat)(a:Nat)(ha:a<=9094988921128908188)(sizes:List qaj)(sv:Value)(l:ByteArray)(bound:List Int)(bv:Value)(hu:qbo sizes=true)(az: ∀c,c∈bound->0<=c)(w:World)
  (hs:SizesIn n w sv sizes) (hb:qan n w bv bound) (hn:n<=w.heap.size)
  (c7:w.cell? ⟨b7,0,none⟩=some sv) (c5:w.cell? ⟨b5,1,none⟩=some (.string l)) (c4:w.cell? ⟨b4,0,none⟩=some (.float .f64 a)) (c6:w.cell? ⟨b6,1,none⟩=some bv):
  Calls prog 242 #[.pointer (some ⟨b7,0,none⟩),.pointer (some ⟨b5,0,none⟩),.pointer (some ⟨b4,0,none⟩),.pointer (some ⟨b6,0,none⟩)] w
   fun e w'=>e=.returned (.float .f64 (bound.foldl (qfa (qfz sizes l)) (cap (qe9 a (qfy (qfz sizes l).rows)))))/\Keep (fun b=>b<w.heap.size) w w':=by
 have l7:=zQ w _ c7;have l5:=zQ w _ c5;have l4:=zQ w _ c4;have l6:=zQ w _ c6;simp only at l7 l5 l4 l6;obtain⟨W0,ag⟩:=ex (w.alloc (.cells #[.string ⟨#[]⟩,.int .i64 0,.slice none 0 0] 244));have k0:wD w W0:=by rw [←ag];exact kAl
 have z0:W0.heap.size=w.heap.size+1:=by rw [←ag];simp
 have aF:=qmf (gf:=244) (bs:= #[]) (lb:= #[.pointer (some ⟨b5,0,none⟩)]) (qc0 Tryz.func244 wA rfl) (fun s:qaj=>decide (s.pred=l)) n sv sizes W0 (hs.keep k0.mt) xz
  (fun x _ W2 hK b1 ba=>qsc b5 x b1 l n W2 ba (hK.cell (k0.cell c5 wE) (show b5<W0.heap.size from xz)))
 have hz:=qsa hu l;have r:= @qyt sizes l;have t:= @qyu sizes l;obtain⟨z,ap⟩:=ex (qfz sizes l);rw [ap]at hz r t;rw [ap];obtain⟨ix,ai⟩: ∃i,qbv (fun s:qaj=>decide (s.pred=l)) sizes=i:=⟨_,rfl⟩;rw [ai]at aF r t;have a5:=fun x (hx:x<=9218868437227405312) w=>qm7 #[293,293] 293 hx w;have bJ:=fun n w=>q1p n w;have hr:=ql0 hz.1 hz.2.1;have a8:=fun w=>qsb (a:=a) (b:=qfy z.rows) xz hr w;have hm:=q1o (a:=a) (b:=qfy z.rows) xz hr;have a6:=fun w=>qm7 #[293,293] 293 hm w;obtain⟨a7,cq,rfl,cF,cz,a0⟩:=id hs;obtain⟨ab,cr,rfl,cG,cA,a1⟩:=id hb;have bx:=qh w (.cells #[.string ⟨#[]⟩,.int .i64 0,.slice none 0 0] 244);rw [ag]at bx;obtain⟨X,hX⟩:=ex (w.heap.size);rw [hX]at bx z0 l7 l5 l4 l6 hn;clear hs hb;have cQ:b7<w.heap.size:=xz
 have cO:b5<w.heap.size:=xz
 have cN:b4<w.heap.size:=xz
 have cP:b6<w.heap.size:=xz
 refine qsd ?_ aF r t a0 a1 ap ai hz az ag bx k0 hX;clear aF r t a0 a1 ap ai hz az ag bx k0 hX;intro aR am an aQ av cd bo aC ae aP bn aS aa
 go_enter Tryz.func242,Tryz.ntmps242
 go_wp2_with fail;rw [aP.o,aa.o];refine aR.o.mono ?_;rintro e W1 ⟨rfl,k1⟩;have cK:=k1.size;have bR:wD w W0:=aS.o;have p:=k1.heap bn.o xz;have kk:Keep (fun b=>b<X) w W1:=aS.o.mt.trans (k1.mono fun b hb h=>xz);have f7:=kk.cell c7 l7;have f4:=kk.cell c4 l4;have f6:=kk.cell c6 l6;have x0:=qb p 0 _ rfl;have x1:=qb p 1 _ rfl;have x2:=qb p 2 _ rfl;have y0:=qg p 0;have y1:=qg p 1;have y2:=qg p 2;simp only [zD]at x0 x1 x2;have aV:X<W1.heap.size:=xz
 have ay:b7<W1.heap.size:=xz
 have aw:b4<W1.heap.size:=xz
 have ax:b6<W1.heap.size:=xz
 clear c7 c5 c4 c6 k1 bR;obtain⟨s0,Y⟩:=ex (cap (qe9 a (qfy z.rows)));have aA:s0<=9094988921128908188:=by rw [←Y];exact qyr _
 simp only [Y]at a6⊢;have bz: ∀(W:World),True:=fun _=>trivial;clear bz a5;by_cases a9:ix<0
 ·have aq:=am.o a9;have bK: ¬ix≥0:=by omega
  have aj:z.rows=0:=by rw [aq]
  have U:z.dist= []:=by rw [aq]
  rw [aj]at a8 a6;have aU:W1.heap[X]?=some (.cells #[.string z.pred,.int .i64 z.rows,.slice none z.dist.length 0] 244 (0,0)):=by rw [p,aq];rfl
  have ah: ∀(k:Nat) (x:Int),z.dist[k]?=some x-> ∃b off,(none:Option Addr)=some ⟨b,off,none⟩/\b<n/\qe8 w b (off+k*1) x:=fun k x h=>by rw [U] at h;simp at h
  clear aq;refine hd7 ?_ p aU kk aj U ah Y;clear p aU kk aj U ah Y;intro au aO aD bp bg ad af;go_wp2_with fail;refine qj9 (fun W=>Keep (fun b=>b<X) w W/\W.heap[X]?=some (.cells #[.string z.pred,.int .i64 z.rows,.slice none z.dist.length 0] 244 (0,0))) ⟨aD.o,aO.o⟩ ?_;clear x0 x1 x2 y0 y1 y2 f7 f4 f6 aV ay aw ax;rintro W2 ⟨kk2,y⟩;have bO:X<W2.heap.size:=qe y;have ak:w.heap.size=X:=aa.o;have x2:=qb y 2 _ rfl;simp only [zD]at x2;clear ak y;refine hd1 ?_ kk2;clear kk2;intro q
  go_loopw [7,28] (fun x7 i' wr=> ∃k:Nat,k<=bound.length/\i'=.int .i64 (k:Int)/\x7=.float .f64 ((bound.take k).foldl (qfa z) s0)/\wr=W2) (fun _ i _=>bound.length-(intOf i).toNat)
  case atStart=>exact⟨0,xz,rfl,rfl,rfl⟩
  case round=>
   obtain⟨k,hk,rfl,rfl,hw⟩:=hrel;have hw:=hw.symm;subst hw;by_cases aH:k<bound.length
   ·have a4:(k:Int)<bound.length:=by omega
    have bM:(0:Int)<=k:=xz
    obtain⟨c,hc⟩: ∃x,bound[k]?=some x:=⟨_,zB aH⟩;obtain⟨b9,o9,rfl,bH,q0⟩:=av.o k c hc;unfold qe8 at q0;simp only [yA]at q0;have f0:=q.o.cell q0 (show b9<X from xz);have aY:b9<W2.heap.size:=xz
    have f:=qom z s0 bound hc;have bI:=ae.o c (zH hc);have aG:=qnp aC.o (bound.take k) aA;obtain⟨v,hv⟩:=ex ((bound.take k).foldl (qfa z) s0);rw [hv]at aG f⊢;clear q0 hc hv;by_cases R:c<z.dist.length
    ·obtain⟨d,hd⟩: ∃d,z.dist[c.toNat]?=some d:=⟨_,zB xz⟩;obtain⟨aE,bW,aJ,aW,r0⟩:=ad.o c.toNat d hd;cases aJ
    ·have u:qfa z v c=v:=by
      unfold qfa;exact zF (fun h=>R h.1)
     rw [u]at f;clear u;refine hd1 ?_ f;clear f;intro m;go_wp2_with fail;go_roundw
     case rel=>exact⟨k+1,xz,by go_num,by rw [m.o],by trivial⟩
     case measure=>simp [intOf];omega
   ·obtain rfl:k=bound.length:=by omega
    rw [zi];go_wp2_with fail;go_ret;have ak:w.heap.size=X:=aa.o;exact⟨by rw [af.o];rfl,q.o.mono fun b _ h=>xz⟩
 ·obtain⟨j,bL,cC,a3⟩:=an.o xz;subst bL;have bK:(j:Int)≥0:=by omega
  have cD:(j:Int)<sizes.length:=xz
  obtain⟨b8,o8,rfl,cy,zv,R,bP⟩:=aQ.o j z a3;obtain⟨zd,zc,rfl,cM,cL,ah⟩:=bP;have g: ∀i v,[Value.string z.pred,.int .i64 z.rows,.slice zd z.dist.length zc][i]?=some v->W1.cell? ⟨b8,o8+j*3+i,none⟩=some v:=fun i v h=>kk.cell (R i v h) (show b8<X from xz);have d0:=g 0 _ rfl;have d1:=g 1 _ rfl;have d2:=g 2 _ rfl;simp only [Nat.add_zero]at d0;have aX:b8<W1.heap.size:=xz
  clear g R a3;refine hd4 ?_ p kk ah Y;clear p kk ah Y;intro au aD ad af;go_wp2_with fail;refine qj9 (fun W=>Keep (fun b=>b<X) w W/\W.heap[X]?=some (.cells #[.string z.pred,.int .i64 z.rows,.slice zd z.dist.length zc] 244 (0,0))) ⟨aD.o.trans (((kSc).trans (kSc)).trans (kSc)),by
   have h1:=qz 0 (.string z.pred) au.o;have h2:=qz 1 (.int .i64 z.rows) h1;have h3:=qz 2 (.slice zd z.dist.length zc) h2;exact h3⟩ ?_
  clear x0 x1 x2 y0 y1 y2 f7 f4 f6 aV ay aw ax d0 d1 d2 aX;rintro W2 ⟨kk2,y⟩;have bO:X<W2.heap.size:=qe y;have ak:w.heap.size=X:=aa.o;have x2:=qb y 2 _ rfl;simp only [zD]at x2;clear ak y;refine hd1 ?_ kk2;clear kk2;intro q
  go_loopw [7,28] (fun x7 i' wr=> ∃k:Nat,k<=bound.length/\i'=.int .i64 (k:Int)/\x7=.float .f64 ((bound.take k).foldl (qfa z) s0)/\wr=W2) (fun _ i _=>bound.length-(intOf i).toNat)
  case atStart=>exact⟨0,xz,rfl,rfl,rfl⟩
  case round=>
   obtain⟨k,hk,rfl,rfl,hw⟩:=hrel;have hw:=hw.symm;subst hw;by_cases aH:k<bound.length
   ·have a4:(k:Int)<bound.length:=by omega
    have bM:(0:Int)<=k:=xz
    obtain⟨c,hc⟩: ∃x,bound[k]?=some x:=⟨_,zB aH⟩;obtain⟨b9,o9,rfl,bH,q0⟩:=av.o k c hc;unfold qe8 at q0;simp only [yA]at q0;have f0:=q.o.cell q0 (show b9<X from xz);have aY:b9<W2.heap.size:=xz
    have f:=qom z s0 bound hc;have bI:=ae.o c (zH hc);have aG:=qnp aC.o (bound.take k) aA;obtain⟨v,hv⟩:=ex ((bound.take k).foldl (qfa z) s0);rw [hv]at aG f⊢;clear q0 hc hv;by_cases R:c<z.dist.length
    ·obtain⟨d,hd⟩: ∃d,z.dist[c.toNat]?=some d:=⟨_,zB xz⟩;obtain⟨aE,bW,aJ,aW,r0⟩:=ad.o c.toNat d hd;subst aJ;unfold qe8 at r0;simp only [yA]at r0;have f1:=q.o.cell r0 (show aE<X from xz);have bG:aE<W2.heap.size:=by omega
     have a2:z.dist.getD c.toNat 0=d:=by rw [zJ,hd];rfl
     have cB:=aC.o.2.2 d (zH hd);have u:qfa z v c=if 0<d then qhn v (qfy d) else v:=by
      unfold qfa;rw [a2];by_cases h:0<d
      ·rw [zI ⟨R,h⟩,zI h]
      ·rw [zF (fun x=>h x.2),zF h]
     rw [u]at f;clear hd a2 r0 u;by_cases aZ:0<d
     ·rw [zI aZ]at f;have cj:=fun w=>qnq (a:=v) (b:=qfy d) xz (ql0 xz xz) (by have:=qqd (n:=d) xz;omega) w;refine hd1 ?_ f;clear f;intro m;go_wp2_with fail;go_roundw
      case rel=>exact⟨k+1,xz,by go_num,by rw [m.o],by trivial⟩
      case measure=>simp [intOf];omega
     ·rw [zF aZ]at f;refine hd1 ?_ f;clear f;intro m;go_wp2_with fail;go_roundw
      case rel=>exact⟨k+1,xz,by go_num,by rw [m.o],by trivial⟩
      case measure=>simp [intOf];omega
    ·have u:qfa z v c=v:=by
      unfold qfa;exact zF (fun h=>R h.1)
     rw [u]at f;clear u;refine hd1 ?_ f;clear f;intro m;go_wp2_with fail;go_roundw
     case rel=>exact⟨k+1,xz,by go_num,by rw [m.o],by trivial⟩
     case measure=>simp [intOf];omega
   ·obtain rfl:k=bound.length:=by omega
    rw [zi];go_wp2_with fail;go_ret;have ak:w.heap.size=X:=aa.o;exact⟨by rw [af.o];rfl,q.o.mono fun b _ h=>xz⟩
theorem q44 (c f g:Fn)(b d e:Array Value)(w:World):(Instr.index 319 (.agg #[.func c #[] b,.func f #[] d,.func g #[] e]) (.int .i64 0)).run prog w=.ok (.func c #[] b) w:=wA
theorem q45 (f c g:Fn)(d b e:Array Value)(w:World):(Instr.index 319 (.agg #[.func f #[] d,.func c #[] b,.func g #[] e]) (.int .i64 1)).run prog w=.ok (.func c #[] b) w:=wA
theorem q46 (f g c:Fn)(d e b:Array Value)(w:World):(Instr.index 319 (.agg #[.func f #[] d,.func g #[] e,.func c #[] b]) (.int .i64 2)).run prog w=.ok (.func c #[] b) w:=wA
theorem qon (n:Nat)(a:Nat)(ha:a<=9094988921128908188)(L:LitD)(U:Value)(s:qc5)(k nv:Value)(sizes:List qaj)(y:Value)(hu:qbo sizes=true)(g: ∀c,c∈s.bound->0<=c)(hk:L.kind=1∨L.kind=2∨L.kind=3)(w:World)
  (al: ∃x m c,U=.slice x m c) (aj: ∃x m c,nv=.slice x m c) (hs:SizesIn n w y sizes) (z:qan n w k s.bound) (hn:n<=w.heap.size):
  Calls prog 210 #[.float .f64 a,qd0 L U,qjv s k nv,y] w fun e w'=>e=.returned (.float .f64 (qcq a L s.bound sizes))/\Keep (fun b=>b<w.heap.size) w w':=by
 obtain⟨W0,d⟩:=ex ((((w.alloc (.cells #[.float .f64 a] 293)).alloc (.cells #[.int .i64 L.kind,.string L.atom.pred,U,.bool L.left.var,.string L.left.text,.bool L.right.var,.string L.right.text] 79)).alloc (.cells #[.int .i64 s.lit,k,nv] 251)).alloc (.cells #[y] 242));have R:wD w W0:=by rw [←d];exact((kAl.trans kAl).trans kAl).trans kAl
 have z0:W0.heap.size=w.heap.size+1+1+1+1:=by rw [←d];simp
 have g1:W0.heap[w.heap.size]?=some (.cells #[.float .f64 a] 293 (0,0)):=by rw [←d];simp only [qah,zO];rw [zF xz,zF xz,zF xz,zI trivial]
 have g2:W0.heap[w.heap.size+1]?=some (.cells #[.int .i64 L.kind,.string L.atom.pred,U,.bool L.left.var,.string L.left.text,.bool L.right.var,.string L.right.text] 79 (0,0)):=by rw [←d];simp only [qah,zO];simp
 have g3:W0.heap[w.heap.size+1+1]?=some (.cells #[.int .i64 s.lit,k,nv] 251 (0,0)):=by rw [←d];simp only [qah,zO];simp
 have g4:W0.heap[w.heap.size+1+1+1]?=some (.cells #[y] 242 (0,0)):=by rw [←d];simp only [qah,zO];simp
 have r:=qb g1 0 _ rfl;have c5:=qb g2 1 _ rfl;have c6:=qb g3 1 _ rfl;have c7:=qb g4 0 _ rfl;simp only [zD]at r c5 c6 c7;have h1:=quj n (w.heap.size+1+1+1) (w.heap.size+1) w.heap.size (w.heap.size+1+1) a ha sizes y L.atom.pred s.bound k hu g W0 (hs.keep R.mt) (qig z R.mt) xz c7 c5 r c6;have h2:=quh w.heap.size a ha W0 r;have h3:=qui w.heap.size a ha W0 r;have e1:L.kind=1->qcq a L s.bound sizes=s.bound.foldl (qfa (qfz sizes L.atom.pred)) (cap (qe9 a (qfy (qfz sizes L.atom.pred).rows))):=fun h=>by unfold qcq;rw [zF xz,zF xz]
 have e2:L.kind=2->qcq a L s.bound sizes=qhn a 4611686018427387904:=fun h=>by unfold qcq;rw [zI h]
 have e3:L.kind=3->qcq a L s.bound sizes=qol a:=fun h=>by unfold qcq;rw [zF xz,zI h]
 obtain⟨aB,aF,rfl,-,-,-⟩:=id hs;obtain⟨ay,aC,rfl,-,-,-⟩:=id z;obtain⟨aA,aK,aE,rfl⟩:=al;obtain⟨az,aJ,aD,rfl⟩:=aj;obtain⟨kd,⟨pr,args⟩,⟨lv,lt⟩,⟨rv,rt⟩⟩:=L;obtain⟨si,sb,sn⟩:=s;unfold qd0 qjv;simp only at*;clear hs z g1 g2 g3 g4 r c5 c6 c7 g;refine hd8 ?_ h1 h2 h3 e1 e2 e3 R d;clear h1 h2 h3 e1 e2 e3 R d;intro ab ad ae X Y aa i f;have t0:=fun t u v l p q w=>q44 t u v l p q w;have t1:=fun t u v l p q w=>q45 t u v l p q w;have t2:=fun t u v l p q w=>q46 t u v l p q w;rcases hk with rfl |rfl |rfl
 ·go_enter Tryz.func210,Tryz.ntmps210
  go_wp2_with fail;rw [f.o];refine ab.o.mono ?_;rintro e W1 ⟨rfl,k1⟩;go_wp2_with fail;go_ret;exact⟨by rw [X.o (by trivial)];rfl,i.o.mt.trans (k1.mono fun b z _=>xz)⟩
 ·go_enter Tryz.func210,Tryz.ntmps210
  go_wp2_with fail;rw [f.o];refine ad.o.mono ?_;rintro e W1 ⟨rfl,j⟩;subst j;go_wp2_with fail;go_ret;exact⟨by rw [Y.o (by trivial)];rfl,i.o.mt⟩
 ·go_enter Tryz.func210,Tryz.ntmps210
  go_wp2_with fail;rw [f.o];refine ae.o.mono ?_;rintro e W1 ⟨rfl,j⟩;subst j;go_wp2_with fail;go_ret;exact⟨by rw [aa.o (by trivial)];rfl,i.o.mt⟩
end Go.Proofs.P16
