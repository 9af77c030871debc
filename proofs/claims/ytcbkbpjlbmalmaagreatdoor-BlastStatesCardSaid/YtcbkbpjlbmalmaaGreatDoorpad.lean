/-
  The Y layer, part w2: maps that are handed on ('mref'): they are objects of the heap. (Merged by program out of 10 texts.)
-/
import Derived.Test.YtcbkbpjlbmalmaaGreatDoorpac
namespace Go.Y
open Go Go.RowKit Go.X
section
section
variable {Y:Sys}
def QP(P:Program)(t:TypeId):Option (TypeId×TypeId):=match P.underlying t with
 |some (.map k e)=>some (k,e)
 |_=>none
variable {t:TypeId}
theorem Zv{P:Program}{p:TypeId×TypeId}(h:QP P t=some p):P.underlying t=some (.map p.1 p.2):=by
 unfold QP at h;split at h
 .rename_i h1;cases h;exact h1
 .cases h
theorem Zu{kt et:TypeId}{k e:Ty}(h:QP Y.P t=some (kt,et))(hk:Y.km kt k=true):@Adb Y.P t kt et (den Y.D k) (den Y.D e) (RT Y.toUS k) (RT Y.toUS e) (Hw Y k):=@Adb.mk Y.P t kt et (den Y.D k) (den Y.D e) (RT Y.toUS k) (RT Y.toUS e) (Hw Y k) (Zv h) (Y.Am3 kt k hk)
def Apg(t:TypeId)(T:Ty):Option (den Y.D T):=match zro Y.P t with
 |some z=>T5 T z
 |none=>none
theorem Afn{T:Ty}{x:den Y.D T}(h:Apg t T=some x)(I:BY)(w:World):∃z,(zeroValue t).run Y.P w=.ok z w/\rp Y.toUS T I w z x:=by
 unfold Apg at h;split at h
 .rename_i z hz;refine⟨z,?_,Pz h⟩;unfold zro at hz;cases hi:Y.P.info? t with
  |none=>simp [hi]at hz
  |some i=>
   simp only[hi,Option.bind_some]at hz;simp [zeroValue,typeInfo,hi,hz]
 .cases h
def luX(c:Cf Y)(t:TypeId)(x y:Operand)(ok:Bool)(K:AV Y->Cf Y->Prop):Prop:=match QP Y.P t,Ey c x,Ey c y with
 |some (kt,et),some (.own i),some b=>match HG c.sg i with
  |some (.mp k e m)=>match U0 k b,Apg (Y:=Y) et e with
   |some kd,some zd=>Fu (Y.km kt k) (match ok with
    |false=>K (.dat e ((@Ae _ _ (Hw Y k) m kd).getD zd)) c
    |true=>K (.own c.nx) {c with sg:=(c.nx,.tp [.dat e ((@Ae _ _ (Hw Y k) m kd).getD zd),.prp ((@Ae _ _ (Hw Y k) m kd).isSome=true) inferInstance])::c.sg,nx:=c.nx+1})
   |_,_=>False
  |_=>False
 |_,_,_=>False
variable {g0 g:B3} {T AH A:Bh} {c:Cf Y} {f:Fr} {x y:Operand} {K:AV Y->Cf Y->Prop}
theorem Avz(h:RG g0 T c f g AH A){ok:Bool}(hx:luX c t x y ok K):Pb g0 T f g.w (.lookup t x y ok) K g:=by
 intro N ops R Kw os dst ty pos af next;unfold luX at hx;split at hx
 .rename_i kt et i b hm ha hb;split at hx
  .rename_i k e m hs;split at hx
   .rename_i kd zd hk hz;obtain⟨hkm,hx⟩:=AM hx;have hT:=Zu (e:=e) hm hkm;obtain⟨A1,A2,ho,hin,hst,_⟩:=h.DO hs;obtain⟨z,hz1,hz2⟩:=Afn hz g.I g.w;have hv:=(h.ev ha).2;letI:AT (den Y.D k):=RT Y.toUS k
    letI:AT (den Y.D e):=RT Y.toUS e
    letI:DecidableEq (den Y.D k):=Hw Y k
    split at hx
    .exact Vu hT ho hst hv rfl (Dk hk (h.ev hb)) hz1 hz2 λu hu=>next u (.dat e ((Ae m kd).getD zd)) c g AH A (Le.refl _) h hu hx
    .refine Vt hT ho hst hv rfl (Dk hk (h.ev hb)) hz1 hz2 λu hu=>?_;generalize hvt:Value.tuple #[u,.bool (Ae m kd).isSome]=vt;have hle:Le g (g.new g.w vt):=Le.new (Ext.refl _ _);refine next vt (.own c.nx) _ (g.new g.w vt) AH A hle (h.new (A1:=[]) (s:=.tp [.dat e ((Ae m kd).getD zd),.prp ((Ae m kd).isSome=true) inferInstance]) (Ext.refl _ _) ⟨rfl,[u,.bool (Ae m kd).isSome],(g.B7 _ _).trans hvt.symm,.cons (show rp Y.toUS e _ _ u _ from EX hle.ext hu) (.cons ?_ .nil)⟩ (by simpa using h.st)) ?_ hx
     .show Value.bool _=Value.bool _;cases hms:(Ae m kd).isSome<;>simp
     .rw[<-h.n];exact⟨Nat.lt_succ_self _,(g.B7 _ _).symm⟩
   .exact hx.elim
  .exact hx.elim
 .exact hx.elim
def mkM(c:Cf Y)(t:TypeId)(K:AV Y->Cf Y->Prop):Prop:=match QP Y.P t with
 |some (kt,et)=>match Y.ty kt,Y.ty et with
  |some k,some e=>K (.own c.nx) {c with sg:=(c.nx,.mp k e [])::c.sg,nx:=c.nx+1}
  |_,_=>False
 |none=>False
theorem Avw(h:RG g0 T c f g AH A)(hx:mkM c t K):Pb g0 T f g.w (.makeMap t none) K g:=by
 intro N ops R Kw os dst ty pos af next;unfold mkM at hx;split at hx
 .split at hx
  .rename_i k e hk he;letI:AT (den Y.D k):=RT Y.toUS k
   letI:AT (den Y.D e):=RT Y.toUS e
   refine XT (den Y.D k) (den Y.D e) h.st λv A1 w' e1 s1 ho=>?_;have hle:Le g (g.new w' v):=Le.new e1;refine next v (.own c.nx) _ (g.new w' v) AH (A1++A) hle (h.new (s:=.mp k e []) e1 ?_ s1) ?_ hx
   .show WN Y k e _ _ A1 ((g.new w' v).μ g.n) [];rw[g.B7];exact ho
   .rw[<-h.n];exact⟨Nat.lt_succ_self _,(g.B7 _ _).symm⟩
  .exact hx.elim
 .exact hx.elim
def upM(c:Cf Y)(t:TypeId)(x y z:Operand)(K:AV Y->Cf Y->Prop):Prop:=match QP Y.P t,Ey c x,Ey c y,Ey c z with
 |some (kt,_),some (.own i),some b,some d=>match HG c.sg i with
  |some (.mp k e m)=>match U0 k b,U0 e d with
   |some kd,some ed=>Fu (Y.km kt k) (K (.val undef) {c.E4 with sg:=(i,.mp k e (@BL _ _ (Hw Y k) m kd ed))::Gb c.sg i})
   |_,_=>False
  |_=>False
 |_,_,_,_=>False
theorem Akt(h:RG g0 T c f g AH A){z:Operand}(hx:upM c t x y z K):Pb g0 T f g.w (.mapUpdate t x y z) K g:=by
 intro N ops R Kw os dst ty pos af next;unfold upM at hx;split at hx
 .rename_i kt et i b d hm ha hb hd;split at hx
  .rename_i k e m hs;split at hx
   .rename_i kd ed hk he;obtain⟨hkm,hx⟩:=AM hx;have hT:=Zu (e:=e) hm hkm;obtain⟨A1,A2,ho,hin,hst,back⟩:=h.E4.DO (s:=.mp k e m) hs;have hv:=(h.ev ha).2;letI:AT (den Y.D k):=RT Y.toUS k
    letI:AT (den Y.D e):=RT Y.toUS e
    letI:DecidableEq (den Y.D k):=Hw Y k
    refine Abg hT ho hst hv rfl rfl (Dk hk (h.ev hb)) (Dk he (h.ev hd)) λA' w' e1 s1 ho'=>?_;have hle:Le g {g with w:=w'}:=⟨e1,Nat.le_refl _,λ_ _=>rfl,rfl⟩
    exact next undef (.val undef) _ {g with w:=w'} AH (A'++A2) hle (back (.mp k e (BL m kd ed)) A' {g with w:=w'} hle rfl ho' s1) rfl hx
   .exact hx.elim
  .exact hx.elim
 .exact hx.elim
def dlM(c:Cf Y)(t:TypeId)(x y:Operand)(K:AV Y->Cf Y->Prop):Prop:=match QP Y.P t,Ey c x,Ey c y with
 |some (kt,_),some (.own i),some b=>match HG c.sg i with
  |some (.mp k e m)=>match U0 k b with
   |some kd=>Fu (Y.km kt k) (K (.val (.tuple #[])) {c.E4 with sg:=(i,.mp k e (@Df _ _ (Hw Y k) m kd))::Gb c.sg i})
   |_=>False
  |_=>False
 |_,_,_=>False
theorem Aw1(h:RG g0 T c f g AH A){at_:Array TypeId}(hat:at_[0]?=some t)(hx:dlM c t x y K):Pb g0 T f g.w (.call ⟨.builtin .delete,#[x,y],at_⟩) K g:=by
 intro N ops R Kw os dst ty pos af next;unfold dlM at hx;split at hx
 .rename_i kt et i b hm ha hb;split at hx
  .rename_i k e m hs;split at hx
   .rename_i kd hk;obtain⟨hkm,hx⟩:=AM hx;have hT:=Zu (e:=e) hm hkm;obtain⟨A1,A2,ho,hin,hst,back⟩:=h.E4.DO (s:=.mp k e m) hs;have hv:=(h.ev ha).2;letI:AT (den Y.D k):=RT Y.toUS k
    letI:AT (den Y.D e):=RT Y.toUS e
    letI:DecidableEq (den Y.D k):=Hw Y k
    refine Abh hT ho hst hv rfl (Dk hk (h.ev hb)) hat λA' w' e1 s1 ho'=>?_;have hle:Le g {g with w:=w'}:=⟨e1,Nat.le_refl _,λ_ _=>rfl,rfl⟩
    exact next _ (.val (.tuple #[])) _ {g with w:=w'} AH (A'++A2) hle (back (.mp k e (Df m kd)) A' {g with w:=w'} hle rfl ho' s1) rfl hx
   .exact hx.elim
  .exact hx.elim
 .exact hx.elim
def A27(c:Cf Y)(x:Operand):Bool:=match Ey c x with
 |some (.own i)=>match HG c.sg i with
  |some (.mp _ _ _)=>true
  |_=>false
 |_=>false
def lnM(c:Cf Y)(t:TypeId)(x:Operand)(K:AV Y->Cf Y->Prop):Prop:=match QP Y.P t,Ey c x with
 |some (kt,_),some (.own i)=>match HG c.sg i with
  |some (.mp k _ m)=>Fu (Y.km kt k) (m.length<=9223372036854775807/\K (.nat m.length) c)
  |_=>False
 |_,_=>False
theorem Av2(h:RG g0 T c f g AH A){at_:Array TypeId}(hat:at_[0]?=some t)(hx:lnM c t x K):Pb g0 T f g.w (.call ⟨.builtin .len,#[x],at_⟩) K g:=by
 intro N ops R Kw os dst ty pos af next;unfold lnM at hx;split at hx
 .rename_i kt et i hm ha;split at hx
  .rename_i k e m hs;obtain⟨hkm,hb,hx⟩:=AM hx;have hT:=Zu (e:=e) hm hkm;obtain⟨A1,A2,ho,hin,hst,_⟩:=h.DO hs;have hv:=(h.ev ha).2;letI:AT (den Y.D k):=RT Y.toUS k
   letI:AT (den Y.D e):=RT Y.toUS e
   letI:DecidableEq (den Y.D k):=Hw Y k
   exact Ame ho hst hv hT hat (next _ (.nat m.length) c g AH A (Le.refl _) h ⟨rfl,hb⟩ hx)
  .exact hx.elim
 .exact hx.elim
theorem Pb.ins{w:World}{z:Operand}{k:AV Y->Cf Y->Prop}(h:Pb g0 T f w (.mapUpdate t x y z) k g):Pb g0 T f w (.insert t x y z) k g:=λN ops R K os dst ty pos af next=>h N ops R K os dst ty pos af next
end
end
section
section
variable {Y:Sys}
variable {g0 g:B3} {AH A:Bh} {c:Cf Y} {f:Fr} {v:Value}
theorem RG.Aa0{T A2:Bh}(h:RG g0 T c f g AH A){sg':List (Nat×C6 Y)}(hsg:Fv g sg' A2){w':World}{s:C6 Y}{A1:Bh}(he:Ext g.I g.w g.I w')(hs:SR (g.new w' v) g.n s A1)(hst:St g.I w' (A1++(AH++(A2++T)))):RG g0 T {c with sg:=(c.nx,s)::sg',nx:=c.nx+1} f (g.new w' v) AH (A1++A2):=by have hle:=Le.new (v:=v) he;refine⟨by show g.n+1=c.nx+1;rw[h.n],h.le.trans hle.ext,hst.perm (FH (List.Perm.refl _) AH).symm,h.hr.mono hle,⟨A1,A2,rfl,by show c.nx<g.n+1;rw[h.n];omega,by rw[<-h.n];exact hs,hsg.mono hle⟩,h.hs.mono hle,hle.pt h.pt,λj a hj=>(h.fr j a hj).mono hle⟩
theorem FX{w:World}{n:Nat}(hn:g.n=n):AR (Y:=Y) (g.new w v) (.own n) v:=by subst hn;exact⟨Nat.lt_succ_self _,(g.B7 _ _).symm⟩
def nwA(c:Cf Y)(T:Ty)(b:AV Y):Option (List (den Y.D T)):=match b with
 | .own j=>match HG c.sg j with
  |some (.sl T' xs)=>match Ty.dec T' T with
   | .isTrue h=>some (h▸xs)
   | .isFalse _=>none
  |_=>none
 |b=>U0 (.sl T) b
variable {T0:Bh}
theorem Ami(h:RG g0 T0 c f g AH A){T:Ty}{b:AV Y}{ys:List (den Y.D T)}(hy:nwA c T b=some ys)(hb:AR g b v):@Nws _ (RT Y.toUS T) g.I g.w v ys:=by
 unfold nwA at hy;split at hy
 .split at hy
  .rename_i T' xs hs;split at hy
   .rename_i e _;subst e;cases hy;obtain⟨A1,A2,ho,hin,hst,_⟩:=h.DO hs;rw[hb.2];exact @Nws.Au8 _ (RT Y.toUS T') _ _ _ _ _ _ ho hst
   .cases hy
  .cases hy
 .exact @Nws.Au7 _ (RT Y.toUS T) _ _ _ _ (QR (Dk hy hb))
def Axt(c:Cf Y)(t:TypeId)(x y:Operand)(k:AV Y->Cf Y->Prop):Prop:=match slI Y.P t,Y.ty t,Ey c x,Ey c y with
 |some (e,nb),some (.sl T),some a,some b=>match nwA c T b with
  |some ys=>Fu (WH Y.P t e (sz Y.toUS T) nb&&Nat.ble 1 nb) (match a with
   | .own i=>match HG c.sg i with
    |some (.sl T' xs)=>match Ty.dec T' T with
     | .isTrue h=>((xs.length+ys.length)*nb<=140737488355328/\k (.own c.nx) {c.E4 with sg:=(c.nx,.sl T ((h▸xs:List (den Y.D T))++ys))::Gb c.sg i,nx:=c.nx+1})
     | .isFalse _=>False
    |_=>False
   | .val (.slice none 0 0)=>(ys.length*nb<=140737488355328/\k (.own c.nx) {c.E4 with sg:=(c.nx,.sl T ys)::c.sg,nx:=c.nx+1})
   |_=>False)
  |none=>False
 |_,_,_,_=>False
variable {t:TypeId} {k:AV Y->Cf Y->Prop}
theorem Asd(h:RG g0 T0 c f g AH A){x y:Operand}(hk:Axt c t x y k):Pb g0 T0 f g.w (.call ⟨.builtin .append,#[x,y],#[t,t]⟩) k g:=by
 intro N ops R K os dst ty pos af next;unfold Axt at hk;split at hk
 .rename_i e nb T a b h1 h2 h3 h4;split at hk
  .rename_i ys hys;obtain⟨hc,hk⟩:=AM hk;simp only[Bool.and_eq_true,Nat.ble_eq]at hc;have hyr:@Nws _ (RT Y.toUS T) g.I g.w (ev f y) ys:=Ami h hys (h.ev h4);letI:AT (den Y.D T):=RT Y.toUS T
   have bd:∀n,n*nb<=140737488355328->n<=9223372036854775807:=λn hn=>by have:=Nat.mul_le_mul_left n hc.2;omega
   split at hk
   .rename_i i;split at hk
    .rename_i T' xs hs;split at hk
     .rename_i e _;subst e;obtain⟨hb,hk⟩:=hk;obtain⟨A1,A2,hp,hin,ho,hsg⟩:=h.E4.sg.take hs;have hst:=h.st.perm (FH hp AH);refine XV (α:=den Y.D T') hc.1 hst ho hyr (h.ev h3).2 rfl hb (bd _ hb) λv' A' w' e1 s1 o1=>?_;refine next v' (.own c.nx) _ (g.new w' v') AH (A'++A2) (Le.new e1) (h.E4.Aa0 hsg e1 ?_ s1) (FX h.n) hk;show ND Y T' _ _ _ _ _;rw[g.B7];exact o1
     .exact hk.elim
    .exact hk.elim
   .obtain⟨hb,hk⟩:=hk;have hv:ev f x=.slice none 0 0:=h.ev h3;refine XV (α:=den Y.D T) (A:=[]) (xs:=[]) hc.1 (by simpa using h.st) Bw.nil hyr hv rfl (by simpa using hb) (by simpa using bd _ hb) λv' A' w' e1 s1 o1=>?_;refine next v' (.own c.nx) _ (g.new w' v') AH (A'++A) (Le.new e1) (h.E4.Aa0 h.sg e1 ?_ s1) (FX h.n) hk;show ND Y T _ _ _ _ _;rw[g.B7];exact o1
   .exact hk.elim
  .exact hk.elim
 .exact hk.elim
def mkX(c:Cf Y)(t:TypeId)(x y:Operand)(k:AV Y->Cf Y->Prop):Prop:=match slI Y.P t,Y.ty t,Ey c x,Ey c y with
 |some (e,nb),some (.sl T),some a,some b=>match asInt a,asInt b,zro Y.P e with
  |some (.i64,n),some (.i64,m),some z=>match T5 (Y:=Y) T z with
   |some zd=>Fu (WH Y.P t e (sz Y.toUS T) nb&&Nat.ble 1 nb) (Ke x a (Ke y b (match x with
    | .const (.int .i64 0)=>0<=m/\nb*m.toNat<=281474976710656/\k (.own c.nx) {c with sg:=(c.nx,.sl T [])::c.sg,nx:=c.nx+1}
    |_=>0<=n/\m=n/\n.toNat*nb<=281474976710656/\k (.own c.nx) {c with sg:=(c.nx,.sl T (List.replicate n.toNat zd))::c.sg,nx:=c.nx+1})))
   |none=>False
  |_,_,_=>False
 |_,_,_,_=>False
theorem Avu(h:RG g0 T0 c f g AH A){x y:Operand}(hk:mkX c t x y k):Pb g0 T0 f g.w (.makeSlice t x y) k g:=by
 intro N ops R K os dst ty pos af next;unfold mkX at hk;split at hk
 .rename_i e nb T a b h1 h2 h3 h4;split at hk
  .rename_i n m z hn hm hz;split at hk
   .rename_i zd hzd;obtain⟨hc,hk⟩:=AM hk;simp only[Bool.and_eq_true,Nat.ble_eq]at hc;have hk:=Fe (h.ev h4) (Fe (h.ev h3) hk);letI:AT (den Y.D T):=RT Y.toUS T
    have hx:=FN hn (h.ev h3);have hy:=FN hm (h.ev h4);split at hk
    .obtain⟨hm0,hb,hk⟩:=hk;have hb1:m.toNat<=9223372036854775807:=by have:=Nat.mul_le_mul_right m.toNat hc.2;omega
     refine Aqk (α:=den Y.D T) (n:=m.toNat) hc.1 h.st rfl hy (Int.toNat_of_nonneg hm0).symm hb1 hb λv A' w' e1 s1 o1=>?_;refine next v (.own c.nx) _ (g.new w' v) AH (A'++A) (Le.new e1) (h.Aa0 h.sg e1 ?_ s1) (FX h.n) hk;show ND Y T _ _ _ _ _;rw[g.B7];exact o1
    .obtain⟨hn0,hmn,hb,hk⟩:=hk;have hb1:n.toNat<=9223372036854775807:=by have:=Nat.mul_le_mul_left n.toNat hc.2;omega
     refine Aqj (α:=den Y.D T) (n:=n.toNat) (zd:=zd) hc.1 h.st hx hy (Int.toNat_of_nonneg hn0).symm (hmn.trans (Int.toNat_of_nonneg hn0).symm) hz (λI w=>Pz hzd) hb hb1 λv A' w' e1 s1 o1=>?_;refine next v (.own c.nx) _ (g.new w' v) AH (A'++A) (Le.new e1) (h.Aa0 h.sg e1 ?_ s1) (FX h.n) hk;show ND Y T _ _ _ _ _;rw[g.B7];exact o1
   .exact hk.elim
  .exact hk.elim
 .exact hk.elim
def Arm(c:Cf Y)(T:Ty):Nat->List (Nat×Operand)->Option (List (den Y.D T))
 |_,[]=>some []
 |n,(i,x)::l=>match Nat.beq i n,(Ey c x).bind (U0 T),Arm c T (n+1) l with
  |true,some d,some m=>some (d::m)
  |_,_,_=>none
theorem Ag8{g0 g:B3}{T0 AH A:Bh}{c:Cf Y}{f:Fr}(h:RG g0 T0 c f g AH A){T:Ty}:∀{l:List (Nat×Operand)}{n:Nat}{m:List (den Y.D T)},Arm c T n l=some m->∃vs,(l.map λp=>(p.1,ev f p.2))=enum n vs/\@Ac9 _ (RT Y.toUS T) g.I g.w vs m
 | [],n,m,hm=>by cases hm;exact⟨[],rfl,trivial⟩
 |(i,x)::l,n,m,hm=>by
  unfold Arm at hm;split at hm
  .rename_i d m' h1 h2 h3;cases hm;obtain⟨vs,h4,h5⟩:=Ag8 h h3;obtain rfl:i=n:=by simpa using h1
   cases ha:Ey c x with
   |none=>rw[ha]at h2;cases h2
   |some a=>
    rw[ha]at h2;exact⟨ev f x::vs,by rw[List.map_cons,h4];rfl,Dk h2 (h.ev ha),h5⟩
  .cases hm
def Axj(c:Cf Y)(t:TypeId)(n:Nat)(ps:Array (Nat×Operand))(k:AV Y->Cf Y->Prop):Prop:=match slI Y.P t,Y.ty t with
 |some (e,nb),some (.sl T)=>match Arm c T 0 ps.toList with
  |some xs=>Fu (WH Y.P t e (sz Y.toUS T) nb&&Nat.ble (ps.toList.length*sz Y.toUS T) 16777216&&Nat.beq ps.toList.length n) (k (.own c.nx) {c with sg:=(c.nx,.sl T xs)::c.sg,nx:=c.nx+1})
  |none=>False
 |_,_=>False
theorem Ar6(h:RG g0 T0 c f g AH A){n:Nat}{ps:Array (Nat×Operand)}(hk:Axj c t n ps k):Pb g0 T0 f g.w (.buildSlice t n ps) k g:=by
 intro N ops R K os dst ty pos af next;unfold Axj at hk;split at hk
 .rename_i e nb T h1 h2;split at hk
  .rename_i xs hxs;obtain⟨hc,hk⟩:=AM hk;simp only[Bool.and_eq_true,Nat.ble_eq,Nat.beq_eq]at hc;obtain⟨vs,h3,h4⟩:=Ag8 h hxs;letI:AT (den Y.D T):=RT Y.toUS T
   have hl:=(Ac9.get (α:=den Y.D T) h4).1;have hlv:ps.toList.length=vs.length:=by
    have:=congrArg List.length h3;have h5:∀(vs:List Value)n,(enum n vs).length=vs.length:=by
     intro vs;induction vs with
     |nil=>intro n;rfl
     |cons v vs ih=>intro n;simp [enum,ih]
    rw[h5,List.length_map]at this;exact this
   refine Amh (α:=den Y.D T) hc.1.1 h.st h3 h4 (by rw[Nat.ble_eq,<-hl,<-hlv];exact hc.1.2) (by rw[<-hl,<-hlv];exact hc.2) λv A' w' e1 s1 o1=>?_;refine next v (.own c.nx) _ (g.new w' v) AH (A'++A) (Le.new e1) (h.Aa0 h.sg e1 ?_ s1) (FX h.n) hk;show ND Y T _ _ _ _ _;rw[g.B7];exact o1
  .exact hk.elim
 .exact hk.elim
end
end
section
section
variable {Y:Sys}
def QF(f:Fr)(o:Option Operand)(n d:Nat):Prop:=match o with
 |none=>n=d
 |some y=>∃kd,ev f y=.int kd (n:Int)
variable {P:Program} {w:World}
theorem CX{kd:IntKind}{n y:Nat}{code:BoundsCode}(h:n<=y):(Instr.sliceBound (.int kd (n:Int)) y code).run P w=.ok n w:=by
 have hc:(0:Int)<=n/\(n:Int)<=y:=by omega
 simp [Instr.sliceBound,asIntOf,hc]
variable {f:Fr}
theorem Uk{b:Bool}{len cap lo hi mx:Nat}{low high max:Option Operand}(h1:QF f low lo 0)(h2:QF f high hi len)(h3:QF f max mx cap)(h4:lo<=hi)(h5:hi<=mx)(h6:mx<=cap)(h7:high=none->max=none):(Instr.sliceBounds b len cap (low.map (ev f)) (high.map (ev f)) (max.map (ev f))).run P w=.ok (lo,hi,mx) w:=by
 cases max with
 |none=>
  have hm:mx=cap:=h3;subst hm;cases high with
  |none=>
   have hh:hi=len:=h2;subst hh;cases low with
   |none=>have hl:lo=0:=h1;subst hl;simp [Instr.sliceBounds]
   |some y=>obtain⟨kd,hy⟩:=h1;simp [Instr.sliceBounds,hy,CX h4]
  |some z=>
   obtain⟨kz,hz⟩:=h2;cases low with
   |none=>have hl:lo=0:=h1;subst hl;simp [Instr.sliceBounds,hz,CX h5]
   |some y=>obtain⟨kd,hy⟩:=h1;simp [Instr.sliceBounds,hy,hz,CX h4,CX h5]
 |some u=>
  obtain⟨ku,hu⟩:=h3;cases high with
  |none=>exact absurd (h7 rfl) (by simp)
  |some z=>
   obtain⟨kz,hz⟩:=h2;cases low with
   |none=>have hl:lo=0:=h1;subst hl;simp [Instr.sliceBounds,hz,hu,CX h5,CX h6]
   |some y=>obtain⟨kd,hy⟩:=h1;simp [Instr.sliceBounds,hy,hz,hu,CX h4,CX h5,CX h6]
variable {x:Operand} {t:TypeId}
theorem Pf{e ty:TypeId}{sz nb:Nat}{a:Option Addr}{len cap lo hi mx:Nat}{low high max:Option Operand}(ht:WH P t e sz nb=true)(hx:ev f x=.slice a len cap)(h1:QF f low lo 0)(h2:QF f high hi len)(h3:QF f max mx cap)(h4:lo<=hi)(h5:hi<=mx)(h6:mx<=cap)(h7:high=none->max=none):KC P f (.slice t x low high max) ty (.slice (if mx=lo then a else a.map (·.add (lo*sz))) (hi-lo) (mx-lo)) w:=λdst pos af gd=>by
 have hs:=EO ht;have:=Uk (P:=P) (w:=w) (b:=true) h1 h2 h3 h4 h5 h6 h7;have hsl:(Instr.slice t (.slice a len cap) (low.map (ev f)) (high.map (ev f)) (max.map (ev f))).run P w=.ok (.slice (if mx=lo then a else a.map (·.add (lo*sz))) (hi-lo) (mx-lo)) w:=by simp only[Instr.slice,Sem.run_bind,run_underlying hs.under,Result.andThen_ok,this,hs.size,Sem.run_pure]
 simp only[execOp,Instr.sliceAt,hx,Sem.run_bind,run_underlying hs.under,Result.andThen_ok,hsl,Sem.run_pure]
def Aqt(mx:Option Operand)(a b:Nat):Nat:=match mx with
 |none=>a
 |some _=>b
def Acy(c:Cf Y)(o:Option Operand)(d:Nat)(k:Nat->Prop):Prop:=match o with
 |none=>k d
 |some y=>match Ey c y with
  |some (.nat j)=>k j
  |some a=>match asInt a with
   |some (_,n)=>Ke y a (0<=n/\k n.toNat)
   |none=>False
  |none=>False
variable {g0 g:B3} {AH A:Bh} {c:Cf Y}
theorem P1{T:Bh}(h:RG g0 T c f g AH A){o:Option Operand}{d:Nat}{k:Nat->Prop}(hk:Acy c o d k):∃n,QF f o n d/\k n:=by
 unfold Acy at hk;split at hk
 .exact⟨d,rfl,hk⟩
 .split at hk
  .rename_i y j ha;exact⟨j,⟨_,(h.ev ha).1⟩,hk⟩
  .rename_i y _ a _ ha;split at hk
   .rename_i kd n hn;obtain⟨h0,hk⟩:=Fe (h.ev ha) hk;exact⟨n.toNat,⟨kd,by rw[FN hn (h.ev ha),Int.toNat_of_nonneg h0]⟩,hk⟩
   .exact hk.elim
  .exact hk.elim
def glo(x:Operand)(lo hi mx:Option Operand):Option Nat:=match x,lo,hi,mx with
 | .global g,none,none,none=>some g
 |_,_,_,_=>none
variable {lo hi mx:Option Operand}
theorem Awp{g:Nat}(h:glo x lo hi mx=some g):x=.global g/\lo=none/\hi=none/\mx=none:=by
 unfold glo at h;split at h
 .cases h;exact⟨rfl,rfl,rfl,rfl⟩
 .cases h
def arG(P:Program)(t:TypeId)(n:Nat):Bool:=match P.underlying t with
 |some (.array m e)=>Nat.beq m n&&(P.info? e).isSome
 |_=>false
theorem Apj{ty:TypeId}{g n:Nat}(h:arG P t n=true):KC P f (.slice t (.global g) none none none) ty (.slice (some ⟨g,0,none⟩) n n) w:=λdst pos af gd=>by
 unfold arG at h;split at h
 .rename_i m e hu;rw[Bool.and_eq_true]at h;obtain rfl:=Nat.eq_of_beq_eq_true h.1;obtain⟨i,hi⟩:=Option.isSome_iff_exists.1 h.2;simp [execOp,Instr.sliceAt,run_underlying hu,ev,Instr.sureAddr,Instr.sliceBounds,sizeOf,typeInfo,hi,Addr.add]
 .cases h
def glX(c:Cf Y)(t:TypeId)(g:Nat)(k:AV Y->Cf Y->Prop):Prop:=match Y.gls g with
 |some q=>Fu (arG Y.P t q.2.length) (k (.dat (.sl q.1) q.2) c)
 |none=>False
variable {T0:Bh} {k:AV Y->Cf Y->Prop}
theorem Awr(h:RG g0 T0 c f g AH A){v:Nat}(hk:glX c t v k):Pb g0 T0 f g.w (.slice t (.global v) none none none) k g:=by
 intro N ops R K os dst ty pos af next;unfold glX at hk;split at hk
 .rename_i q hq;obtain⟨hc,hk⟩:=AM hk;have hg:(P2 Y).gl g.I g.w:=by
   have h1:=h.hr;unfold HR at h1;split at h1
   .obtain⟨L,_,h2⟩:=h1.ex;exact h2.gl
   .obtain⟨L,_,h2⟩:=h1.1.ex;exact h2.gl
  exact Ay (Apj hc dst pos af none) (next _ (.dat (.sl q.1) q.2) c g AH A (Le.refl _) h (hg v q hq) hk)
 .exact hk.elim
def Aug(c:Cf Y)(t:TypeId)(x:Operand)(lo hi mx:Option Operand)(k:AV Y->Cf Y->Prop):Prop:=match slI Y.P t,Ey c x with
 |some (e,nb),some (.dat (.sl T) xs)=>Fu (WH Y.P t e (sz Y.toUS T) nb&&(hi.isSome ||mx.isNone)) (Acy c lo 0 λl=>Acy c hi xs.length λh=>match mx with
  |none=>l<=h/\h<=xs.length/\k (.dat (.sl T) ((xs.drop l).take (h-l))) c
  |some _=>Acy c mx 0 λm=>l<=h/\h<=m/\m<=xs.length/\k (.dat (.sl T) ((xs.drop l).take (h-l))) c)
 |some (e,nb),some (.own i)=>match HG c.sg i with
  |some (.sl T xs)=>Fu (WH Y.P t e (sz Y.toUS T) nb&&(hi.isSome ||mx.isNone)) (match lo,hi with
   |none,some _=>Acy c hi 0 λh=>match mx with
    |none=>h<=xs.length/\k (.own c.nx) {c.E4 with sg:=(c.nx,.sl T (xs.take h))::Gb c.sg i,nx:=c.nx+1}
    |some _=>Acy c mx 0 λm=>h<=m/\m<=xs.length/\k (.own c.nx) {c.E4 with sg:=(c.nx,.sl T (xs.take h))::Gb c.sg i,nx:=c.nx+1}
   |some _,none=>Acy c lo 0 λl=>l<=xs.length/\k (.sub i T l) c
   |none,none=>k (.own i) c
   |_,_=>False)
  |_=>False
 |_,_=>False
theorem Ny{T:Ty}{I:BY}{v:Value}{xs:List (den Y.D T)}(ho:ND Y T I w A v xs){h m:Nat}(hh:h<=xs.length)(hm:h<=m):∃a cap,v=.slice a xs.length cap/\xs.length<=cap/\(m<=cap->ND Y T I w A (.slice (if m=0 then a else a.map (·.add (0*sz Y.toUS T))) (h-0) (m-0)) (xs.take h)):=by
 letI:AT (den Y.D T):=RT Y.toUS T
 have hadd:∀(a:Option Addr),a.map (λx:Addr=>x.add (0*sz Y.toUS T))=a:=λa=>by cases a<;>simp [Addr.add]
 rcases Bw.ex (α:=den Y.D T) ho with ⟨rfl,rfl,rfl⟩|⟨b,arr,cap,e0,off,rfl,rfl,h3,h4,h5,h6⟩
 .refine⟨none,0,rfl,Nat.le_refl _,λhc=>?_⟩;obtain rfl:m=0:=by omega
  obtain rfl:h=0:=by omega
  exact⟨.inl ⟨rfl,rfl,rfl⟩⟩
 .refine⟨_,cap,rfl,h3,λhc=>⟨.inr ⟨b,arr,m,e0,off,rfl,?_,?_,by omega,?_,?_⟩⟩⟩
  .have hl:(xs.take h).length=h:=by simp;omega
   rw[hl,hadd];split<;>simp
  .simp;omega
  .exact Nat.le_trans (Nat.add_le_add_left (Nat.mul_le_mul_right _ hc) _) h5
  .intro j hj;have hj':j<xs.length:=by simp at hj;omega
   obtain⟨u,h7,h8⟩:=h6 j hj';exact⟨u,by rw[List.getElem_take];exact h7,h8⟩
theorem Apy(h:RG g0 T0 c f g AH A)(hk:Aug c t x lo hi mx k):Pb g0 T0 f g.w (.slice t x lo hi mx) k g:=by
 intro N ops R K os dst ty pos af next;unfold Aug at hk;split at hk
 .rename_i e nb T xs h1 h2;replace hk:=AM hk;obtain⟨hc,hk⟩:=hk;simp only[Bool.and_eq_true,Bool.or_eq_true,Option.isSome_iff_ne_none,Option.isNone_iff_eq_none]at hc;have h7:hi=none->mx=none:=λh=>hc.2.elim (λh'=>absurd h h') id;letI:AT (den Y.D T):=RT Y.toUS T
  obtain⟨a,cap,hv,hl1,hl2,hp⟩:=Aa1 (QR (h.ev h2));obtain⟨l,hl,hk⟩:=P1 h hk;obtain⟨hh,hhi,hk⟩:=P1 h hk;have fin:∀m,QF f mx m cap->l<=hh->hh<=m->hh<=xs.length->m<=cap->k (.dat (.sl T) ((xs.drop l).take (hh-l))) c->WL Y.P N ops R false K (⟨dst,.slice t x lo hi mx,ty,pos,af,none⟩::os) f g.w:=λm hm h3 h4 h5 h6 hk=>by refine Ay (Pf hc.1 hv hl hhi hm h3 h4 h6 h7 dst pos af none) ?_;exact next _ (.dat (.sl T) ((xs.drop l).take (hh-l))) c g AH A (Le.refl _) h (Q9 (hp l hh m h3 h5 h4 h6)) hk
  split at hk
  .obtain⟨h3,h4,hk⟩:=hk;exact fin cap rfl h3 (by omega) h4 (Nat.le_refl _) hk
  .obtain⟨m,hm,h3,h4,h5,hk⟩:=P1 h hk;exact fin m (by exact hm) h3 h4 (by omega) (by omega) hk
 .rename_i e nb i h1 h2;split at hk
  .rename_i T xs hs;replace hk:=AM hk;obtain⟨hc,hk⟩:=hk;simp only[Bool.and_eq_true,Bool.or_eq_true,Option.isSome_iff_ne_none,Option.isNone_iff_eq_none]at hc;have h7:hi=none->mx=none:=λh=>hc.2.elim (λh'=>absurd h h') id;have hv:=(h.ev h2).2;split at hk
   .rename_i _ _;obtain⟨hh,hhi,hk⟩:=P1 h hk;obtain⟨A1,A2,hp,hin,ho,hsg⟩:=h.E4.sg.take hs;have hst:=h.st.perm (FH hp AH);have fin:∀m,hh<=m->hh<=xs.length->(∀cap,xs.length<=cap->QF f mx (Aqt mx cap m) cap/\Aqt mx cap m<=cap/\hh<=Aqt mx cap m)->k (.own c.nx) {c.E4 with sg:=(c.nx,.sl T (xs.take hh))::Gb c.sg i,nx:=c.nx+1}->WL Y.P N ops R false K (⟨dst,.slice t x none (some _) mx,ty,pos,af,none⟩::os) f g.w:=λm h3 h4 h5 hk=>by obtain⟨a,cap,e1,e2,_⟩:=Ny (h:=0) (m:=0) ho (Nat.zero_le _) (Nat.le_refl _);obtain⟨h8,hmcap,hmc⟩:=h5 cap e2;obtain⟨a',cap',e1',e2',e3'⟩:=Ny (m:=Aqt mx cap m) ho h4 hmc;rw[e1]at e1';cases e1';refine Ay (Pf hc.1 (hv.trans e1) (show QF f none 0 0 from rfl) hhi h8 (Nat.zero_le _) hmc hmcap h7 dst pos af none) ?_;refine next _ (.own c.nx) _ (g.new g.w _) AH (A1++A2) (Le.new (Ext.refl _ _)) (h.E4.Aa0 hsg (Ext.refl _ _) ?_ hst) (FX h.n) hk;show ND Y T _ _ _ _ _;rw[g.B7];exact e3' hmcap
    split at hk
    .exact fin hh (Nat.le_refl _) hk.1 (λcap h5=>⟨rfl,Nat.le_refl _,Nat.le_trans hk.1 h5⟩) hk.2
    .obtain⟨m,hm,h3,h4,hk⟩:=P1 h hk;exact fin m h3 (by omega) (λcap h5=>⟨hm,by show m<=cap;omega,h3⟩) hk
   .obtain⟨l,hl,h3,hk⟩:=P1 h hk;obtain⟨A1,A2,hp,hin,ho,hsg⟩:=h.sg.take hs;obtain⟨a,cap,e1,e2,_⟩:=Ny (h:=0) (m:=0) ho (Nat.zero_le _) (Nat.le_refl _);obtain rfl:mx=none:=h7 rfl;refine Ay (Pf (lo:=l) (hi:=xs.length) (mx:=cap) hc.1 (hv.trans e1) hl (show QF f none xs.length xs.length from rfl) (show QF f none cap cap from rfl) h3 e2 (Nat.le_refl _) h7 dst pos af none) ?_;exact next _ (.sub i T l) c g AH A (Le.refl _) h ⟨hin,by rw[e1];rfl,a,_,cap,e1,h3⟩ hk
   .obtain rfl:mx=none:=h7 rfl;obtain⟨A1,A2,hp,hin,ho,hsg⟩:=h.sg.take hs;obtain⟨a,cap,e1,e2,_⟩:=Ny (h:=0) (m:=0) ho (Nat.zero_le _) (Nat.le_refl _);refine Ay (Pf (lo:=0) (hi:=xs.length) (mx:=cap) hc.1 (hv.trans e1) (show QF f none 0 0 from rfl) (show QF f none xs.length xs.length from rfl) (show QF f none cap cap from rfl) (Nat.zero_le _) e2 (Nat.le_refl _) h7 dst pos af none) ?_;refine next _ (.own i) c g AH A (Le.refl _) h ⟨hin,?_⟩ hk;rw[e1];cases a<;>simp [Addr.add]
   .exact hk.elim
  .exact hk.elim
 .exact hk.elim
def slX(c:Cf Y)(t:TypeId)(x:Operand)(lo hi mx:Option Operand)(k:AV Y->Cf Y->Prop):Prop:=match glo x lo hi mx with
 |some g=>glX c t g k
 |none=>Aug c t x lo hi mx k
theorem Auf(h:RG g0 T0 c f g AH A)(hk:slX c t x lo hi mx k):Pb g0 T0 f g.w (.slice t x lo hi mx) k g:=by
 unfold slX at hk;split at hk
 .rename_i v hv;obtain⟨rfl,rfl,rfl,rfl⟩:=Awp hv;exact Awr h hk
 .exact Apy h hk
def evL(c:Cf Y):List Operand->Option (List (AV Y))
 | []=>some []
 |x::l=>match Ey c x,evL c l with
  |some a,some m=>some (a::m)
  |_,_=>none
theorem OM{g0 g:B3}{T AH A:Bh}{c:Cf Y}{f:Fr}(h:RG g0 T c f g AH A):∀{l:List Operand}{m:List (AV Y)},evL c l=some m->F2 (AR g) m (l.map (ev f))
 | [],m,hm=>by cases hm;exact .nil
 |x::l,m,hm=>by
  unfold evL at hm;split at hm
  .rename_i a m' h1 h2;cases hm;exact .cons (h.ev h1) (OM h h2)
  .cases hm
def mfX(c:Cf Y)(q:Fn)(fs cs:Array Operand)(k:AV Y->Cf Y->Prop):Prop:=match q,evL c fs.toList,evL c cs.toList with
 | .func g,some l,some m=>k (.own c.nx) {c with sg:=(c.nx,.clo g l m)::c.sg,nx:=c.nx+1}
 |_,_,_=>False
theorem Avy(h:RG g0 T0 c f g AH A){q:Fn}{fs cs:Array Operand}(hk:mfX c q fs cs k):Pb g0 T0 f g.w (.makeFunc q fs cs) k g:=by
 intro N ops R K os dst ty pos af next;unfold mfX at hk;split at hk
 .rename_i q l m h1 h2;refine Vs rfl rfl ?_;have hle:=Le.new (g:=g) (v:=.func (.func q) ⟨fs.toList.map (ev f)⟩ ⟨cs.toList.map (ev f)⟩) (Ext.refl g.I g.w);refine next _ (.own c.nx) _ (g.new g.w _) AH ([]++A) hle (h.Aa0 (A1:=[]) h.sg (Ext.refl _ _) ?_ h.st) (FX h.n) hk;exact⟨rfl,_,_,g.B7 _ _,(OM h h1).mono λ_ _ r=>r.mono hle,(OM h h2).mono λ_ _ r=>r.mono hle⟩
 .exact hk.elim
end
end
end Go.Y
namespace Go.X
open Go Go.RowKit
section
section
variable {α:Type} [AT α] {P:Program} {I:BY} {w:World} {T A:Bh} {t u e:TypeId} {nb:Nat}
theorem An7{v yv:Value}{xs ys:List α}{lo:Nat}{ty:TypeId}(ho:Bw I w A v xs)(hs:St I w (A++T))(hy:Nws I w yv ys)(hlo:lo<=xs.length)(ht:WH P t e (AT.size α) nb=true):∃A' w',(Builtin.copy_ #[t,u] ty #[WY v lo (AT.size α),yv]).run P w=.ok (goInt ((min ys.length (xs.length-lo):Nat):Int)) w'/\Ext I w I w'/\St I w' (A'++T)/\Bw I w' A' v (xs.take lo++(ys.take (min ys.length (xs.length-lo))++xs.drop (lo+min ys.length (xs.length-lo)))):=by
 have hsl:=EO ht;obtain⟨ya,yc,hyv⟩:=hy.sh;have hmin:∀a b:Nat,Nat.min a b=min a b:=λ_ _=>rfl;generalize hn:min ys.length (xs.length-lo)=n;have hmc:min (ys.length:Int) ((xs.length:Int)-(lo:Int))=(n:Int):=by omega
 by_cases hz:n=0
 .have hf0:∀(a:Option Addr)(l c:Nat),(Builtin.firstCells (AT.size α) 0 (.slice a l c)).run P w=.ok #[] w:=λa l c=>by cases a<;>simp [Builtin.firstCells,loadCells,loadCellsFrom]
  have hxs:xs.take lo++(ys.take n++xs.drop (lo+n))=xs:=by rw[hz];simp
  refine⟨A,w,?_,Ext.refl _ _,hs,Bw.cast hxs.symm ho⟩;obtain⟨a,cap,hv,_⟩:=ho.len;rw[hv,hyv];by_cases hc:cap=lo
  .cases a<;>simp [Builtin.copy_,run_underlying hsl.under,Builtin.lenOf,WY,hmin,hn,hmc,hz,hsl.size,hf0,hc,storeCells]
  .cases a<;>simp [Builtin.copy_,run_underlying hsl.under,Builtin.lenOf,WY,hmin,hn,hmc,hz,hsl.size,hf0,hc,storeCells]
 have hyne:ys≠[]:=λe=>by subst e;simp at hn;omega
 obtain⟨ya,yc,hyv,news,n1,n2,n3,n4⟩:=hy.ne hyne;rcases ho.ex with ⟨_,rfl,_⟩|⟨b,arr,cap,e0,off,rfl,rfl,h3,h4,h5,h6⟩
 .simp at hn;omega
 have hny:n<=ys.length:=by omega
 have hnx:lo+n<=xs.length:=by omega
 have hc:¬cap=lo:=by omega
 have hb:=(hs.own (b,.cells arr e0 (0,0)) (by simp)).1;have hfit:off+xs.length*AT.size α<=arr.size:=Nat.le_trans (Nat.add_le_add_left (Nat.mul_le_mul_right _ h3) _) h5;have hfn:lo*AT.size α+n*AT.size α<=xs.length*AT.size α:=by rw[<-Nat.add_mul];exact Nat.mul_le_mul_right _ hnx
 have hnl:(news.take (n*AT.size α)).length=n*AT.size α:=by rw[List.length_take,n1];exact Nat.min_eq_left (Nat.mul_le_mul_right _ hny)
 have hf:=run_firstCells_some (P:=P) w (AT.size α) n ya ys.length yc (news.take (n*AT.size α)) hnl (λj u hu=>by
  have hj:j<n*AT.size α:=by have:=(List.getElem?_eq_some_iff.1 hu).1;omega
  rw[List.getElem?_take_of_lt hj]at hu;exact n2 j u hu)
 have hst:=run_storeCells_at P b (off+lo*AT.size α) e0 (news.take (n*AT.size α)) 0 arr w hb (by rw[hnl];omega) (λu hu=>n3 u (List.mem_of_mem_take hu));simp only[Nat.add_zero]at hst;generalize hrow:(List.take (off+lo*AT.size α) arr.toList++news.take (n*AT.size α)++List.drop (off+lo*AT.size α+(news.take (n*AT.size α)).length) arr.toList).toArray=row at hst;obtain⟨e1,s1⟩:=hs.write (w':=w.setRow b row) rfl rfl rfl (by simp [World.setRow]) (setRow_heap w b arr _ e0 _ hb) (λc hc=>setRow_other w b c _ hc);have hlen':(xs.take lo++(ys.take n++xs.drop (lo+n))).length=xs.length:=by simp;omega
 refine⟨_,_,?_,e1,s1,⟨.inr ⟨b,_,cap,_,off,rfl,by rw[hlen'],by rw[hlen'];exact h3,h4,?_,?_⟩⟩⟩
 .rw[hyv];simp [Builtin.copy_,run_underlying hsl.under,Builtin.lenOf,WY,hmin,hn,hmc,hsl.size,hc,DM,hf,hst]
 all_goals subst hrow
 .simp only[List.size_toArray,List.length_append,hnl,List.length_take,List.length_drop,Array.length_toList];omega
 .have hlen:(List.take (off+lo*AT.size α) arr.toList).length=off+lo*AT.size α:=by rw[List.length_take,show arr.toList.length=arr.size from rfl];omega
  have htl:(xs.take lo).length=lo:=by simp;omega
  have htn:(ys.take n).length=n:=by simp;omega
  refine D3.append ((h6.take lo).mono e1) (g2:=λk=>if k<n*AT.size α then news[k]? else arr[off+(lo*AT.size α+k)]?) (D3.append ((n4.take n).mono e1) (g2:=λk=>arr[off+((lo+n)*AT.size α+k)]?) ((h6.drop (lo+n)).mono e1) ?_ ?_) ?_ ?_
  .intro k hk;rw[htn]at hk;simp only[hk,if_true]
  .intro k hk;rw[htn];simp only[show ¬n*AT.size α+k<n*AT.size α by omega,if_false];rw[Nat.add_mul,Nat.add_assoc]
  .intro k hk;rw[htl]at hk;simp only[List.getElem?_toArray,List.append_assoc];rw[List.getElem?_append_left (by omega),List.getElem?_take_of_lt (by omega),Array.getElem?_toList]
  .intro k hk;rw[htl];simp only[List.getElem?_toArray,List.append_assoc];rw[<-Nat.add_assoc,List.getElem?_append_right (by omega),hlen,Nat.add_sub_cancel_left];by_cases h:k<n*AT.size α
   .rw[List.getElem?_append_left (by omega),List.getElem?_take_of_lt h,if_pos h]
   .rw[List.getElem?_append_right (by omega),if_neg h,hnl,List.getElem?_drop,Array.getElem?_toList];congr 1;omega
end
end
end Go.X
namespace Go.Y
open Go Go.RowKit Go.X
section
section
variable {Y:Sys}
def cpS(c:Cf Y)(t e:TypeId)(nb i lo:Nat)(T:Ty)(xs:List (den Y.D T))(b:AV Y)(k:AV Y->Cf Y->Prop):Prop:=match nwA c T b with
 |some ys=>Fu (WH Y.P t e (sz Y.toUS T) nb) (lo<=xs.length/\k (.nat (min ys.length (xs.length-lo))) {c.E4 with sg:=(i,.sl T (xs.take lo++(ys.take (min ys.length (xs.length-lo))++xs.drop (lo+min ys.length (xs.length-lo)))))::Gb c.sg i})
 |none=>False
def cpX(c:Cf Y)(t:TypeId)(x y:Operand)(k:AV Y->Cf Y->Prop):Prop:=match slI Y.P t,Ey c x,Ey c y with
 |some (e,nb),some (.own i),some b=>match HG c.sg i with
  |some (.sl T xs)=>cpS c t e nb i 0 T xs b k
  |_=>False
 |some (e,nb),some (.sub i T' lo),some b=>match HG c.sg i with
  |some (.sl T xs)=>match Ty.dec T' T with
   | .isTrue _=>cpS c t e nb i lo T xs b k
   | .isFalse _=>False
  |_=>False
 |_,_,_=>False
variable {g0 g:B3} {T0 AH A:Bh} {c:Cf Y} {f:Fr} {t:TypeId} {x:Operand} {k:AV Y->Cf Y->Prop}
theorem An6(h:RG g0 T0 c f g AH A){u e:TypeId}{nb i lo:Nat}{T:Ty}{xs:List (den Y.D T)}{b:AV Y}{y:Operand}(hs:HG c.sg i=some (.sl T xs))(hk:cpS c t e nb i lo T xs b k)(hx:ev f x=WY (g.μ i) lo (sz Y.toUS T))(hb:AR g b (ev f y)):Pb g0 T0 f g.w (.call ⟨.builtin .copy,#[x,y],#[t,u]⟩) k g:=by
 intro N ops R K os dst ty pos af next;unfold cpS at hk;split at hk
 .rename_i ys hys;obtain⟨ht,hlo,hk⟩:=AM hk;letI:AT (den Y.D T):=RT Y.toUS T
  have hyr:@Nws _ (RT Y.toUS T) g.I g.w (ev f y) ys:=Ami h hys hb;obtain⟨A1,A2,ho,hin,hst,back⟩:=h.E4.DO (s:=.sl T xs) hs;have ho':ND Y T g.I g.w A1 (g.μ i) xs:=ho;have hbd:=@Bw.bd _ (RT Y.toUS T) _ _ _ _ _ ho';obtain⟨A',w',h1,h2,h3,h4⟩:=An7 (α:=den Y.D T) (u:=u) (ty:=ty) ho' hst hyr hlo ht;have hle:Le g {g with w:=w'}:=⟨h2,Nat.le_refl _,λ_ _=>rfl,rfl⟩
  have:=next _ (.nat (min ys.length (xs.length-lo))) _ {g with w:=w'} AH (A'++A2) hle (back (.sl T _) A' {g with w:=w'} hle rfl h4 h3) ⟨rfl,by omega⟩ hk;have h1':(Builtin.copy_ #[t,u] ty #[ev f x,ev f y]).run Y.P g.w=.ok (goInt ((min ys.length (xs.length-lo):Nat):Int)) w':=by rw[hx];exact h1
  refine Ay ?_ this;simp [execOp,resolve,invoke,builtin,h1',goInt]
 .exact hk.elim
theorem Aw6(h:RG g0 T0 c f g AH A){u:TypeId}{y:Operand}(hk:cpX c t x y k):Pb g0 T0 f g.w (.call ⟨.builtin .copy,#[x,y],#[t,u]⟩) k g:=by
 unfold cpX at hk;split at hk
 .rename_i e nb i b h1 h2 h3;split at hk
  .rename_i T xs hs;refine An6 h hs hk ?_ (h.ev h3);obtain⟨A1,A2,_,_,ho,_⟩:=h.sg.take hs;obtain⟨a,cap,hv,_⟩:=@Bw.len _ (RT Y.toUS T) _ _ _ _ _ ho;rw[(h.ev h2).2,hv];cases a<;>simp [WY,Addr.add]
  .exact hk.elim
 .rename_i e nb i T' lo b h1 h2 h3;split at hk
  .rename_i T xs hs;split at hk
   .rename_i e _;subst e;exact An6 h hs hk (h.ev h2).2.1 (h.ev h3)
   .exact hk.elim
  .exact hk.elim
 .exact hk.elim
theorem Ajp{α:Type}[AT α]{P:Program}{I:BY}{w:World}{T:Bh}{e:TypeId}{nb:Nat}{v:Value}{xs:List α}{ty:TypeId}{z:Value}{zd:α}(ho:Bw I w A v xs)(hs:St I w (A++T))(ht:WH P t e (AT.size α) nb=true)(hzv:zrB P e z)(hzr:rep I w z zd):∃A' w',(Builtin.clear_ #[t] ty #[v]).run P w=.ok (.tuple #[]) w'/\Ext I w I w'/\St I w' (A'++T)/\Bw I w' A' v (List.replicate xs.length zd):=by
 obtain⟨i,z',hi,hsz,hbt,hz,hzs⟩:=(EO ht).info;have hu:=(EO ht).under;obtain rfl:z'=z:=by unfold zrB at hzv;simp only[hi,Option.bind_some,hz,Option.some.injEq]at hzv;exact hzv
 rcases ho.ex with ⟨rfl,rfl,rfl⟩|⟨b,arr,cap,e0,off,rfl,rfl,h3,h4,h5,h6⟩
 .exact⟨[],w,by simp [Builtin.clear_,run_underlying hu],Ext.refl _ _,hs,Bw.nil⟩
 by_cases hn:xs.length=0
 .refine⟨_,w,?_,Ext.refl _ _,hs,?_⟩
  .rw[hn];simp [Builtin.clear_,run_underlying hu]
  .have:xs=[]:=List.length_eq_zero_iff.1 hn;subst this;exact⟨.inr ⟨b,arr,cap,e0,off,rfl,rfl,h3,h4,h5,h6⟩⟩
 have hb:=(hs.own (b,.cells arr e0 (0,0)) (by simp)).1;have hfit:off+xs.length*AT.size α<=arr.size:=Nat.le_trans (Nat.add_le_add_left (Nat.mul_le_mul_right _ h3) _) h5;have hzc:z'.cells.size=AT.size α:=AT.cells hzr;generalize hnews:(Builtin.zeroCells z'.cells xs.length).toList=news;have hnews':news=((Array.range (xs.length*AT.size α)).map λk=>z'.cells[k%z'.cells.size]!).toList:=by rw[<-hnews];unfold Builtin.zeroCells;rw[hzc]
 have hnl:news.length=xs.length*AT.size α:=by rw[hnews'];simp
 have hone:∀u∈news,u.oneCell'=true:=λu hu=>by rw[hnews']at hu;simp only[Array.mem_toList_iff,Array.mem_map,Array.mem_range]at hu;obtain⟨k,hk,rfl⟩:=hu;have hlt:k%z'.cells.size<z'.cells.size:=Nat.mod_lt _ (by rw[hzc];exact AT.pos);rw[getElem!_pos z'.cells _ hlt];exact AT.one hzr _ (by simp)
 have hst:=run_storeCells_at P b off e0 news 0 arr w hb (by rw[hnl];omega) hone;simp only[Nat.add_zero]at hst;generalize hrow:(List.take off arr.toList++news++List.drop (off+news.length) arr.toList).toArray=row at hst;obtain⟨e1,s1⟩:=hs.write (w':=w.setRow b row) rfl rfl rfl (by simp [World.setRow]) (setRow_heap w b arr _ e0 _ hb) (λc hc=>setRow_other w b c _ hc);refine⟨_,_,?_,e1,s1,⟨.inr ⟨b,_,cap,_,off,rfl,by simp,by simpa using h3,h4,?_,?_⟩⟩⟩
 .obtain⟨n,hn'⟩:∃n,xs.length=n+1:=⟨xs.length-1,by omega⟩
  rw[hn']at hnews ⊢;simp [Builtin.clear_,run_underlying hu,zeroValue,typeInfo,hi,hz,hnews,hst]
 all_goals subst hrow
 .simp only[List.size_toArray,List.length_append,hnl,List.length_take,List.length_drop,Array.length_toList];omega
 .have hlen:(List.take off arr.toList).length=off:=by rw[List.length_take,show arr.toList.length=arr.size from rfl];omega
  refine D3.congr ((Q0 (n:=xs.length) hzr).mono e1) λk hk=>?_;rw[List.length_replicate]at hk;simp only[List.getElem?_toArray,List.append_assoc];rw[List.getElem?_append_right (by omega),hlen,Nat.add_sub_cancel_left,List.getElem?_append_left (by omega),hnews',Array.getElem?_toList]
def Axc(c:Cf Y)(t:TypeId)(x:Operand)(k:AV Y->Cf Y->Prop):Prop:=match slI Y.P t,Ey c x with
 |some (e,nb),some (.own i)=>match HG c.sg i,zro Y.P e with
  |some (.sl T xs),some z=>match T5 (Y:=Y) T z with
   |some zd=>Fu (WH Y.P t e (sz Y.toUS T) nb) (k (.val (.tuple #[])) {c.E4 with sg:=(i,.sl T (List.replicate xs.length zd))::Gb c.sg i})
   |none=>False
  |_,_=>False
 |some (e,nb),some (.val (.slice none 0 0))=>Fu (Gn Y.P t dSl) (k (.val (.tuple #[])) c)
 |_,_=>False
theorem Arz(h:RG g0 T0 c f g AH A)(hk:Axc c t x k):Pb g0 T0 f g.w (.call ⟨.builtin .clear,#[x],#[t]⟩) k g:=by
 intro N ops R K os dst ty pos af next;unfold Axc at hk;split at hk
 .rename_i e nb i h1 h2;split at hk
  .rename_i T xs z hs hz;split at hk
   .rename_i zd hzd;obtain⟨ht,hk⟩:=AM hk;letI:AT (den Y.D T):=RT Y.toUS T
    obtain⟨A1,A2,ho,hin,hst,back⟩:=h.E4.DO (s:=.sl T xs) hs;have ho':ND Y T g.I g.w A1 (g.μ i) xs:=ho;obtain⟨A',w',h1,h2',h3,h4⟩:=Ajp (α:=den Y.D T) (ty:=ty) (zd:=zd) ho' hst ht hz (Pz hzd);have hle:Le g {g with w:=w'}:=⟨h2',Nat.le_refl _,λ_ _=>rfl,rfl⟩
    have:=next _ (.val (.tuple #[])) _ {g with w:=w'} AH (A'++A2) hle (back (.sl T _) A' {g with w:=w'} hle rfl h4 h3) rfl hk;have h1':(Builtin.clear_ #[t] ty #[ev f x]).run Y.P g.w=.ok (.tuple #[]) w':=by rw[(h.ev h2).2];exact h1
    refine Ay ?_ this;simp [execOp,resolve,invoke,builtin,h1']
   .exact hk.elim
  .exact hk.elim
 .rename_i e nb h1 h2;obtain⟨ht,hk⟩:=AM hk;obtain⟨e',ht⟩:=Lw ht;have hx:ev f x=.slice none 0 0:=h.ev h2;refine Ay ?_ (next _ (.val (.tuple #[])) c g AH A (Le.refl _) h rfl hk);simp [execOp,resolve,invoke,builtin,Builtin.clear_,hx,run_underlying ht]
 .exact hk.elim
end
end
section
section
variable {Y:Sys}
def Q6:(a b:List Ty)->Decidable (a=b)
 | [],[]=>.isTrue rfl
 |[],_::_|_::_,[]=>.isFalse (by simp)
 |a::as,b::bs=>match Ty.dec a b,Q6 as bs with
  | .isTrue h,.isTrue h'=>.isTrue (by rw[h,h'])
  | .isFalse h,_=>.isFalse (λe=>h (List.cons.inj e).1)
  |_,.isFalse h=>.isFalse (λe=>h (List.cons.inj e).2)
def P7:(ts:List Ty)->Iq Y ts->List (AV Y)
 | [],_=>[]
 |t::ts,x=>.dat t x.1::P7 ts x.2
theorem Ph{g:B3}:∀{ts:List Ty}{x:Iq Y ts}{vs:List Value},W5 Y g.I g.w ts x vs->F2 (AR g) (P7 ts x) vs
 | [],_,_,h=>by cases h;exact .nil
 |_::_,_,_,⟨v,vs',h1,h2,h3⟩=>by subst h1;exact .cons h2 (Ph h3)
def rT:(l:List RK)->(ts:List Ty)->Lq Y l->Option (Iq Y ts)
 | [],[],_=>some ()
 | .dat t::l,t'::ts,x=>match Ty.dec t t',rT l ts x.2 with
  | .isTrue h,some r=>some (h▸x.1,r)
  |_,_=>none
 |_,_,_=>none
theorem Asz{I:BY}{w:World}:∀{l:List RK}{ts:List Ty}{x:Lq Y l}{r:Iq Y ts}{vs:List Value}{A:Bh},rT l ts x=some r->ReR Y I w l x vs A->W5 Y I w ts r vs/\A=[]
 | [],[],_,_,_,_,_,⟨h1,h2⟩=>⟨h1,h2⟩
 | .dat t::l,t'::ts,x,r,vs,A,h,hr=>by
  unfold rT at h;split at h
  .rename_i e r' _ h2;subst e;cases h;obtain⟨v,vs',h3,h4,h5⟩:=hr;obtain⟨h6,h7⟩:=Asz h2 h5;exact⟨⟨v,vs',h3,h4,h6⟩,h7⟩
  .cases h
 |[],_::_,_,_,_,_,h,_|.dat _::_,[],_,_,_,_,h,_|.own _::_,_,_,_,_,_,h,_|.map _ _::_,_,_,_,_,_,h,_|.ownO _::_,_,_,_,_,_,h,_=>by simp [rT]at h
def asF(sigs:FuncId->Option Bs)(mk:(ks:List AK)->List (AV Y)->Option (IS Y ks))(sg:List (Nat×C6 Y))(as rs:List Ty):AV Y->Option (FT Y as rs)
 | .fn as' rs' F=>match Q6 as' as,Q6 rs' rs with
  | .isTrue h,.isTrue h'=>some (h▸h'▸F)
  |_,_=>none
 | .own j=>match HG sg j with
  |some (.clo q fs cs)=>match sigs q,CU Y.P q with
   |some σ,true=>some λa H Q X=>match mk σ.args (fs++(P7 as a++cs)) with
    |some tup=>Wp Y q σ tup H (λb _ H'=>match rT σ.res rs b with
     |some r=>Q r H'
     |none=>False) X
    |none=>False
   |_,_=>none
  |_=>none
 | .val (.func (.func q) ⟨[]⟩ ⟨[]⟩)=>match sigs q,CU Y.P q with
  |some σ,true=>some λa H Q X=>match mk σ.args (P7 as a) with
   |some tup=>Wp Y q σ tup H (λb _ H'=>match rT σ.res rs b with
    |some r=>Q r H'
    |none=>False) X
   |none=>False
  |_,_=>none
 |_=>none
def dlA(t:Ty):AV Y->Option (den Y.D t)
 | .del T x 0=>match Ty.dec T t with
  | .isTrue h=>some (h▸x)
  | .isFalse _=>none
 |_=>none
variable {g:B3} {a:AV Y} {v:Value}
theorem An0{t:Ty}{x:den Y.D t}(h:dlA t a=some x)(ha:AR g a v):A0q Y t g.I g.w x v:=by
 unfold dlA at h;split at h
 .split at h
  .rename_i e _;subst e;cases h;exact ha
  .cases h
 .cases h
def fbA(as rs:List Ty):AV Y->Option (FT Y as rs)
 | .fbx as' rs' F=>match Q6 as' as,Q6 rs' rs with
  | .isTrue h,.isTrue h'=>some (h▸h'▸F)
  |_,_=>none
 |_=>none
variable {as rs:List Ty}
theorem Anq{F:FT Y as rs}(h:fbA as rs a=some F)(ha:AR g a v):FbR Y as rs F g.I g.w v:=by
 unfold fbA at h;split at h
 .split at h
  .rename_i e e' _ _;subst e e';cases h;exact ha
  .cases h
 .cases h
def Tw:(ks:List AK)->List (AV Y)->Option (IS Y ks)
 | [],[]=>some ()
 | .dat t::ks,a::as=>match U0 t a,Tw ks as with
  |some x,some r=>some (x,r)
  |_,_=>none
 | .mob::ks,.mob b::as=>match Tw ks as with
  |some r=>some (b,r)
  |none=>none
 | .fn ts rs::ks,.fn ts' rs' F::as=>match Q6 ts' ts,Q6 rs' rs,Tw ks as with
  | .isTrue h,.isTrue h',some r=>some (h▸h'▸F,r)
  |_,_,_=>none
 | .del t::ks,a::as=>match dlA t a,Tw ks as with
  |some x,some r=>some (x,r)
  |_,_=>none
 | .fbx ts rs::ks,a::as=>match fbA ts rs a,Tw ks as with
  |some x,some r=>some (x,r)
  |_,_=>none
 |_,_=>none
theorem Tv{g:B3}:∀{ks:List AK}{as:List (AV Y)}{r:IS Y ks}{vs:List Value},Tw ks as=some r->F2 (AR g) as vs->ArR Y g.I g.w ks r vs []/\∀I w io us A,IoR Y I w ks io us A->A=[]
 | [],[],_,_,_,.nil=>⟨⟨rfl,rfl⟩,λ_ _ _ _ _ h=>h⟩
 | .dat t::ks,a::as,r,v::vs,h,.cons h1 h2=>by
  unfold Tw at h;split at h
  .rename_i x r' hx hr;cases h;obtain⟨h3,h4⟩:=Tv hr h2;exact⟨⟨v,vs,rfl,Dk hx h1,h3⟩,λI w io us A h=>h4 _ _ _ _ _ h⟩
  .cases h
 | .mob::ks,.mob b::as,r,v::vs,h,.cons h1 h2=>by
  unfold Tw at h;split at h
  .rename_i r' hr;cases h;obtain⟨h3,h4⟩:=Tv hr h2;exact⟨⟨v,vs,rfl,h1,h3⟩,λI w io us A h=>h4 _ _ _ _ _ h⟩
  .cases h
 | .fn ts rs::ks,.fn ts' rs' F::as,r,v::vs,h,.cons h1 h2=>by
  unfold Tw at h;split at h
  .rename_i e e' r' _ _ hr;subst e e';cases h;obtain⟨h3,h4⟩:=Tv hr h2;exact⟨⟨v,vs,rfl,h1,h3⟩,λI w io us A h=>h4 _ _ _ _ _ h⟩
  .cases h
 | .del t::ks,a::as,r,v::vs,h,.cons h1 h2=>by
  unfold Tw at h;split at h
  .rename_i x r' hx hr;cases h;obtain⟨h3,h4⟩:=Tv hr h2;exact⟨⟨v,vs,rfl,An0 hx h1,h3⟩,λI w io us A h=>h4 _ _ _ _ _ h⟩
  .cases h
 | .fbx ts rs::ks,a::as,r,v::vs,h,.cons h1 h2=>by
  unfold Tw at h;split at h
  .rename_i x r' hx hr;cases h;obtain⟨h3,h4⟩:=Tv hr h2;exact⟨⟨v,vs,rfl,Anq hx h1,h3⟩,λI w io us A h=>h4 _ _ _ _ _ h⟩
  .cases h
 |.fbx _ _::_,[],_,_,h,_|.del _::_,[],_,_,h,_|[],_::_,_,_,h,_|.dat _::_,[],_,_,h,_|.mob::_,[],_,_,h,_|.fn _ _::_,[],_,_,h,_|.own _::_,_,_,_,h,_|.map _ _::_,_,_,_,h,_=>by simp [Tw]at h
 | .mob::_,.dat _ _::_,_,_,h,_ | .mob::_,.nat _::_,_,_,h,_ | .mob::_,.prp _ _::_,_,_,h,_ | .mob::_,.own _::_,_,_,h,_ | .mob::_,.adr _ _::_,_,_,h,_
 | .mob::_,.el _ _ _ _::_,_,_,h,_ | .mob::_,.del _ _ _::_,_,_,h,_ | .mob::_,.ptr _ _::_,_,_,h,_ | .mob::_,.hp _ _ _::_,_,_,h,_ | .mob::_,.sub _ _ _::_,_,_,h,_
 | .mob::_,.val _::_,_,_,h,_ | .mob::_,.ifc _ _ _::_,_,_,h,_ | .mob::_,.fn _ _ _::_,_,_,h,_ | .mob::_,.fbx _ _ _::_,_,_,h,_=>by simp [Tw]at h
 | .fn _ _::_,.dat _ _::_,_,_,h,_ | .fn _ _::_,.nat _::_,_,_,h,_ | .fn _ _::_,.prp _ _::_,_,_,h,_ | .fn _ _::_,.own _::_,_,_,h,_ | .fn _ _::_,.adr _ _::_,_,_,h,_
 | .fn _ _::_,.el _ _ _ _::_,_,_,h,_ | .fn _ _::_,.del _ _ _::_,_,_,h,_ | .fn _ _::_,.ptr _ _::_,_,_,h,_ | .fn _ _::_,.hp _ _ _::_,_,_,h,_ | .fn _ _::_,.sub _ _ _::_,_,_,h,_
 | .fn _ _::_,.val _::_,_,_,h,_ | .fn _ _::_,.ifc _ _ _::_,_,_,h,_ | .fn _ _::_,.mob _::_,_,_,h,_ | .fn _ _::_,.fbx _ _ _::_,_,_,h,_=>by simp [Tw]at h
theorem Ass{q:FuncId}{σ:Bs}{fs cs:List (AV Y)}{vs us:List Value}(hq:CU Y.P q=true)(hf:F2 (AR g) fs vs)(hc:F2 (AR g) cs us):FvR Y as rs (λa H Q X=>match Tw σ.args (fs++(P7 as a++cs)) with
    |some tup=>Wp Y q σ tup H (λb _ H'=>match rT σ.res rs b with
     |some r=>Q r H'
     |none=>False) X
    |none=>False) g.I g.w (.func (.func q) ⟨vs⟩ ⟨us⟩):=by
 refine⟨⟨_,_,_,rfl⟩,λa H Q X hF I w e T AH ws hws hH hst=>.inl ⟨q,_,_,rfl,hq,?_⟩⟩
 dsimp only at hF
 split at hF
 .rename_i tup ht
  have hle:Le g {g with I:=I,w:=w}:=⟨e,Nat.le_refl _,λ_ _=>rfl,rfl⟩
  have h2:F2 (AR {g with I:=I,w:=w}) (fs++(P7 as a++cs)) (vs++(ws++us)):=(hf.mono λ_ _ r=>r.mono hle).app ((Ph (g:={g with I:=I,w:=w}) hws).app (hc.mono λ_ _ r=>r.mono hle))
  obtain⟨h3,h4⟩:=Tv ht h2
  have:=hF I w T [] AH _ h3 hH hst
  rw[<-List.append_assoc]at this
  refine X6.mono this (λr I' w' _⟨AH',A',H',k1,k2,b,io,us',A1,A2,k3,k4,k5,k6,k7⟩=>⟨AH',A',H',k1,k2,?_⟩) (λ_ _ _ _ h=>h)
  dsimp only at k7
  split at k7
  .rename_i r' hr
   obtain⟨k8,rfl⟩:=Asz hr k5
   have:=h4 _ _ _ _ _ k6
   subst this
   exact⟨k3,r',us',k4,k8,k7⟩
  .exact k7.elim
 .exact hF.elim
theorem Ae7{sigs:FuncId->Option Bs}{sg:List (Nat×C6 Y)}{A:Bh}{F:FT Y as rs}(h:asF sigs Tw sg as rs a=some F)(hs:Fv g sg A)(ha:AR g a v):FvR Y as rs F g.I g.w v:=by
 unfold asF at h;split at h
 .split at h
  .rename_i e e' _ _;subst e e';cases h;exact ha
  .cases h
 .split at h
  .rename_i q fs cs hj;split at h
   .rename_i σ _ hq;cases h;obtain⟨A1,A2,_,_,⟨_,vs,us,h3,h4,h5⟩,_⟩:=hs.take hj;have hv:=ha.2;rw[h3]at hv;subst hv;exact Ass hq h4 h5
   .cases h
  .cases h
 .split at h
  .rename_i σ _ hq;cases h;obtain rfl:v=_:=ha;have:=Ass (Y:=Y) (q:=_) (σ:=σ) (as:=as) (rs:=rs) (g:=g) (fs:=[]) (cs:=[]) hq .nil .nil;simpa using this
  .cases h
 .cases h
def XY(sigs:FuncId->Option Bs)(all:List (Nat×C6 Y)):(ks:List AK)->List (AV Y)->List (Nat×C6 Y)->Option (IS Y ks×List (Nat×C6 Y))
 | [],[],sg=>some ((),sg)
 | .dat t::ks,a::as,sg=>match U0 t a,XY sigs all ks as sg with
  |some x,some r=>some ((x,r.1),r.2)
  |_,_=>none
 | .own t::ks,.own i::as,sg=>match HG sg i with
  |some (.sl T xs)=>match Ty.dec T t,XY sigs all ks as (Gb sg i) with
   | .isTrue h,some r=>some (((h▸xs:List (den Y.D t)),r.1),r.2)
   |_,_=>none
  |_=>none
 | .map k e::ks,.own i::as,sg=>match HG sg i with
  |some (.mp k' e' m)=>match Ty.dec k' k,Ty.dec e' e,XY sigs all ks as (Gb sg i) with
   | .isTrue h,.isTrue h',some r=>some (((h▸h'▸m:List (den Y.D k×den Y.D e)),r.1),r.2)
   |_,_,_=>none
  |_=>none
 | .mob::ks,.mob b::as,sg=>match XY sigs all ks as sg with
  |some r=>some ((b,r.1),r.2)
  |none=>none
 | .fn ts rs::ks,a::as,sg=>match asF sigs Tw all ts rs a,XY sigs all ks as sg with
  |some F,some r=>some ((F,r.1),r.2)
  |_,_=>none
 | .del t::ks,a::as,sg=>match dlA t a,XY sigs all ks as sg with
  |some x,some r=>some ((x,r.1),r.2)
  |_,_=>none
 | .fbx ts rs::ks,a::as,sg=>match fbA ts rs a,XY sigs all ks as sg with
  |some x,some r=>some ((x,r.1),r.2)
  |_,_=>none
 |_,_,_=>none
def ioB:(ks:List AK)->List (AV Y)->Nz Y ks->List (Nat×C6 Y)
 | .own t::ks,.own i::as,x=>(i,.sl t x.1)::ioB ks as x.2
 | .map k e::ks,.own i::as,x=>(i,.mp k e x.1)::ioB ks as x.2
 |.dat _::ks,_::as,x|.mob::ks,_::as,x|.del _::ks,_::as,x|.fn _ _::ks,_::as,x|.fbx _ _::ks,_::as,x=>ioB ks as x
 |_,_,_=>[]
theorem perm_cons{A B C D E:Bh}(h1:A.Perm (B++C))(h2:C.Perm (D++E)):A.Perm ((B++D)++E):=by rw[List.append_assoc];exact h1.trans (h2.append_left B)
def MkR(g:B3)(ks:List AK)(as:List (AV Y))(x:IS Y ks)(vs:List Value)(A1:Bh):Prop:=ArR Y g.I g.w ks x vs A1/\∀g' io A,Le g g'->IoR Y g'.I g'.w ks io vs A->Fv g' (ioB ks as io) A
theorem O8{sigs:FuncId->Option Bs}{all:List (Nat×C6 Y)}{g:B3}{Aall:Bh}(hall:Fv g all Aall):∀{ks:List AK}{as:List (AV Y)}{sg:List (Nat×C6 Y)}{r:IS Y ks×List (Nat×C6 Y)}{vs:List Value}{A:Bh},XY sigs all ks as sg=some r->Fv g sg A->F2 (AR g) as vs->∃A1 A2,A.Perm (A1++A2)/\MkR g ks as r.1 vs A1/\Fv g r.2 A2
 | [],[],sg,r,_,A,h,hs,.nil=>by cases h;exact⟨[],A,List.Perm.refl _,⟨⟨rfl,rfl⟩,λg' io A _ h=>h⟩,hs⟩
 | .dat t::ks,a::as,sg,r,v::vs,A,h,hs,.cons h1 h2=>by
  unfold XY at h;split at h
  .rename_i x r' hx hr;cases h;obtain⟨A1,A2,h3,⟨h4,h5⟩,h6⟩:=O8 hall hr hs h2;exact⟨A1,A2,h3,⟨⟨v,vs,rfl,Dk hx h1,h4⟩,λg' io A hle h=>h5 g' io A hle h⟩,h6⟩
  .cases h
 | .own t::ks,a::as,sg,r,v::vs,A,h,hs,.cons h1 h2=>by
  cases a with
  |own i=>
   simp only[XY]at h;split at h
   .rename_i T xs hi;split at h
    .rename_i e r' _ hr;subst e;cases h;obtain⟨B1,B2,k1,k2,k3,k4⟩:=hs.take hi;obtain⟨A1,A2,h3,⟨h4,h5⟩,h6⟩:=O8 hall hr k4 h2;refine⟨B1++A1,A2,perm_cons k1 h3,⟨⟨v,vs,B1,A1,rfl,rfl,by rw[h1.2];exact k3,h4⟩,λg' io A hle h=>?_⟩,h6⟩;obtain⟨v',vs',C1,C2,e1,e2,e3,e4⟩:=h;cases e1;refine⟨C1,C2,e2,Nat.lt_of_lt_of_le k2 hle.n,?_,h5 g' _ C2 hle e4⟩;show ND Y T _ _ _ _ _;rw[hle.μ i k2,<-h1.2];exact e3
    .cases h
   .cases h
  |_=>simp [XY]at h
 | .map k e::ks,a::as,sg,r,v::vs,A,h,hs,.cons h1 h2=>by
  cases a with
  |own i=>
   simp only[XY]at h;split at h
   .rename_i k' e' m hi;split at h
    .rename_i ek ee r' _ _ hr;subst ek ee;cases h;obtain⟨B1,B2,k1,k2,k3,k4⟩:=hs.take hi;obtain⟨A1,A2,h3,⟨h4,h5⟩,h6⟩:=O8 hall hr k4 h2;refine⟨B1++A1,A2,perm_cons k1 h3,⟨⟨v,vs,B1,A1,rfl,rfl,by rw[h1.2];exact k3,h4⟩,λg' io A hle h=>?_⟩,h6⟩;obtain⟨v',vs',C1,C2,e1,e2,e3,e4⟩:=h;cases e1;refine⟨C1,C2,e2,Nat.lt_of_lt_of_le k2 hle.n,?_,h5 g' _ C2 hle e4⟩;show WN Y _ _ _ _ _ _ _;rw[hle.μ i k2,<-h1.2];exact e3
    .cases h
   .cases h
  |_=>simp [XY]at h
 | .mob::ks,a::as,sg,r,v::vs,A,h,hs,.cons h1 h2=>by
  cases a with
  |mob b=>
   simp only[XY]at h;split at h
   .rename_i r' hr;cases h;obtain⟨A1,A2,h3,⟨h4,h5⟩,h6⟩:=O8 hall hr hs h2;exact⟨A1,A2,h3,⟨⟨v,vs,rfl,h1,h4⟩,λg' io A hle h=>h5 g' io A hle h⟩,h6⟩
   .cases h
  |_=>simp [XY]at h
 | .del t::ks,a::as,sg,r,v::vs,A,h,hs,.cons h1 h2=>by
  unfold XY at h;split at h
  .rename_i x r' hx hr;cases h;obtain⟨A1,A2,h3,⟨h4,h5⟩,h6⟩:=O8 hall hr hs h2;exact⟨A1,A2,h3,⟨⟨v,vs,rfl,An0 hx h1,h4⟩,λg' io A hle h=>h5 g' io A hle h⟩,h6⟩
  .cases h
 | .fbx ts rs::ks,a::as,sg,r,v::vs,A,h,hs,.cons h1 h2=>by
  unfold XY at h;split at h
  .rename_i x r' hx hr;cases h;obtain⟨A1,A2,h3,⟨h4,h5⟩,h6⟩:=O8 hall hr hs h2;exact⟨A1,A2,h3,⟨⟨v,vs,rfl,Anq hx h1,h4⟩,λg' io A hle h=>h5 g' io A hle h⟩,h6⟩
  .cases h
 | .fn ts rs::ks,a::as,sg,r,v::vs,A,h,hs,.cons h1 h2=>by
  unfold XY at h;split at h
  .rename_i F r' hF hr;cases h;obtain⟨A1,A2,h3,⟨h4,h5⟩,h6⟩:=O8 hall hr hs h2;exact⟨A1,A2,h3,⟨⟨v,vs,rfl,Ae7 hF hall h1,h4⟩,λg' io A hle h=>h5 g' io A hle h⟩,h6⟩
  .cases h
 |[],_::_,_,_,_,_,h,_,_|_::_,[],_,_,_,_,h,_,_=>by simp [XY]at h
end
end
section
section
variable {Y:Sys}
def GC(g0:B3)(T:Bh)(X:TF Y)(R:List PanicEntry->World->Prop):Prop:=∀v w' I' AH' H' t l u,Ext g0.I g0.w I' w'->St I' w' (AH'++T)->Hk (P2 Y) I' w' H' AH'->v=.iface t u->rp Y.toUS l.t I' w' u l.x->X t l H'->R [{v,recovered:=false}] w'
def Asp(g0:B3)(T:Bh)(X:TF Y)(f:Fr)(w:World)(op:Op)(k:AV Y->Cf Y->Prop)(g:B3):Prop:=∀(N:Nat)(ops:Array Oper)(R:List PanicEntry->World->Prop)(K:Fr->World->Prop)(os:List Oper)(dst:Option Tmp)(ty:TypeId)(pos:String)(af:Array Edge),GC g0 T X R->(∀v a c' g' AH' A',Le g g'->RG g0 T c' f g' AH' A'->AR g' a v->k a c'->WL Y.P N ops R false K os (Go.X.put N f dst v) g'.w)->WL Y.P N ops R false K (⟨dst,op,ty,pos,af,none⟩::os) f w
def YQ:(l:List RK)->Lq Y l->Nat->List (AV Y)×List (Nat×C6 Y)×Nat
 | [],_,n=>([],[],n)
 | .dat t::l,x,n=>let r:=YQ l x.2 n;(.dat t x.1::r.1,r.2.1,r.2.2)
 | .own t::l,x,n=>let r:=YQ l x.2 (n+1);(.own n::r.1,(n,.sl t x.1)::r.2.1,r.2.2)
 | .map k e::l,x,n=>let r:=YQ l x.2 (n+1);(.own n::r.1,(n,.mp k e x.1)::r.2.1,r.2.2)
 | .ownO _::_,_,n=>([],[],n)
theorem U5:∀{l:List RK}{x:Lq Y l}{g:B3}{vs:List Value}{A:Bh},ReR Y g.I g.w l x vs A->∃g',Le g g'/\g'.w=g.w/\g'.I=g.I/\g'.n=(YQ l x g.n).2.2/\F2 (AR g') (YQ l x g.n).1 vs/\Fv g' (YQ l x g.n).2.1 A
 | [],x,g,vs,A,⟨h1,h2⟩=>by subst h1 h2;exact⟨g,Le.refl _,rfl,rfl,rfl,.nil,rfl⟩
 | .dat t::l,x,g,vs,A,⟨v,vs',h1,h2,h3⟩=>by subst h1;obtain⟨g',h4,h5,h6,h7,h8,h9⟩:=U5 h3;exact⟨g',h4,h5,h6,h7,.cons ((show AR g (.dat t x.1) v from h2).mono h4) h8,h9⟩
 | .own t::l,x,g,vs,A,⟨v,vs',A1,A2,h1,h2,h3,h4⟩=>by subst h1 h2;have hle:=Le.new (g:=g) (v:=v) (Ext.refl g.I g.w);obtain⟨g',k4,k5,k6,k7,k8,k9⟩:=U5 (g:=g.new g.w v) (x:=x.2) h4;have hn:g.n<(g.new g.w v).n:=Nat.lt_succ_self _;refine⟨g',hle.trans k4,k5,k6,k7,.cons (AR.mono k4 (FX rfl)) k8,A1,A2,rfl,Nat.lt_of_lt_of_le hn k4.n,?_,k9⟩;refine SR.mono k4 hn ?_;show ND Y t _ _ _ _ _;rw[g.B7];exact h3
 | .ownO _::_,_,_,_,_,r=>r.elim
 | .map k e::l,x,g,vs,A,⟨v,vs',A1,A2,h1,h2,h3,h4⟩=>by subst h1 h2;have hle:=Le.new (g:=g) (v:=v) (Ext.refl g.I g.w);obtain⟨g',k4,k5,k6,k7,k8,k9⟩:=U5 (g:=g.new g.w v) (x:=x.2) h4;have hn:g.n<(g.new g.w v).n:=Nat.lt_succ_self _;refine⟨g',hle.trans k4,k5,k6,k7,.cons (AR.mono k4 (FX rfl)) k8,A1,A2,rfl,Nat.lt_of_lt_of_le hn k4.n,?_,k9⟩;refine SR.mono k4 hn ?_;show WN Y k e _ _ _ _ _;rw[g.B7];exact h3
def Asg(c:Cf Y)(sg:List (Nat×C6 Y))(n:Nat)(H':HH Y)(k:AV Y->Cf Y->Prop):List (AV Y)->Prop
 | [a]=>k a {c with sg:=sg,nx:=n,H:=H'}
 |l=>k (.own n) {c with sg:=(n,.tp l)::sg,nx:=n+1,H:=H'}
def A4q(c:Cf Y)(sg:List (Nat×C6 Y))(res:List RK)(b:Lq Y res)(H':HH Y)(k:AV Y->Cf Y->Prop):Prop:=Asg c ((YQ res b c.nx).2.1++sg) (YQ res b c.nx).2.2 H' k (YQ res b c.nx).1
variable {g0 g:B3} {T AH A:Bh} {c:Cf Y} {f:Fr} {k:AV Y->Cf Y->Prop}
theorem Aht{g':B3}{AH' A':Bh}(h:RG g0 T c f g AH A)(hle:Le g g')(hop:c.op=none){sg:List (Nat×C6 Y)}{n:Nat}{H':HH Y}{l:List (AV Y)}{vs:List Value}(hk:Asg c sg n H' k l)(hn:g'.n=n)(hH:Hk (P2 Y) g'.I g'.w H' AH')(hs:Fv g' sg A')(hst:St g'.I g'.w (AH'++(A'++T)))(hl:F2 (AR g') l vs):∃a c' g'',k a c'/\Le g' g''/\g''.w=g'.w/\RG g0 T c' f g'' AH' A'/\AR g'' a (JX vs):=by
 have base:RG g0 T {c with sg:=sg,nx:=n,H:=H'} f g' AH' A':=⟨hn,h.le.trans hle.ext,hst,by rw[show ({c with sg:=sg,nx:=n,H:=H'}:Cf Y).op=none from hop];exact hH,hs,h.hs.mono hle,hle.pt h.pt,λi a hi=>(h.fr i a hi).mono hle⟩
 unfold Asg at hk;split at hk
 .cases hl with
  |cons h1 h2=>cases h2;exact⟨_,_,g',hk,Le.refl _,rfl,base,h1⟩
 .rename_i hne;have hv:JX vs=.tuple ⟨vs⟩:=by
   cases hl with
   |nil=>rfl
   |cons h1 h2=>
    cases h2 with
    |nil=>exact absurd rfl (hne _)
    |cons _ _=>rfl
  have hle2:=Le.new (g:=g') (v:=.tuple ⟨vs⟩) (Ext.refl g'.I g'.w);have:=base.Aa0 (sg':=sg) (A1:=[]) (s:=.tp l) (v:=.tuple ⟨vs⟩) hs (Ext.refl _ _) ⟨rfl,vs,g'.B7 _ _,hl.mono λ_ _ r=>r.mono hle2⟩ hst;refine⟨_,_,_,hk,hle2,rfl,this,?_⟩;rw[hv];exact FX hn
def Wx(sigs:FuncId->Option Bs)(X:TF Y)(c:Cf Y)(q:FuncId)(as:List (AV Y))(k:AV Y->Cf Y->Prop):Prop:=match sigs q with
 |some σ=>Fu (CU Y.P q&&c.op.isNone) (match XY sigs c.sg σ.args as c.sg with
  |some r=>Wp Y q σ r.1 c.H (λb io H'=>A4q c (ioB σ.args as io++r.2) σ.res b H' k) X
  |none=>False)
 |none=>False
theorem DD{I:BY}{w:World}{B:Bh}(h:St I w (A++(B++T))):St I w (A++T):=by have h1:=h.Xe;exact h1.drop
theorem OW{sigs:FuncId->Option Bs}{X:TF Y}(h:RG g0 T c f g AH A){q:FuncId}{as:List (AV Y)}{ws:List Value}(hk:Wx sigs X c q as k)(ha:F2 (AR g) as ws):CU Y.P q=true/\∀(R:List PanicEntry->World->Prop)(K:Value->World->Prop),GC g0 T X R->(∀v a c' g' AH' A',Le g g'->RG g0 T c' f g' AH' A'->AR g' a v->k a c'->K v g'.w)->X6 Y.P q ws g.I g.w (λv _ w'=>K v w') (λv _ w'=>R [{v,recovered:=false}] w'):=by
 unfold Wx at hk;split at hk
 .rename_i σ hσ;obtain⟨hc,hk⟩:=AM hk;simp only[Bool.and_eq_true,Option.isNone_iff_eq_none]at hc;split at hk
  .rename_i r hr;obtain⟨A1,A2,hp,⟨hargs,hback⟩,hrest⟩:=O8 h.sg hr h.sg ha;refine⟨hc.1,λR K hR next=>?_⟩;have hH:=h.hr;rw[hc.2]at hH;have hst:St g.I g.w (AH++(A1++(A2++T))):=h.st.perm (by have:=(hp.append_right T).append_left AH;rwa [List.append_assoc A1 A2 T]at this)
   refine X6.mono (hk g.I g.w (A2++T) A1 AH ws hargs hH hst) (λv I' w' e⟨AH',A',H',k1,k2,b,io,us,B1,B2,k3,k4,k5,k6,k7⟩=>?_) (λv I' w' e⟨AH',H',t,l,u,k1,k2,k3,k4,k5⟩=>?_)
   .subst k3 k4;let g1:B3:={g with I:=I',w:=w'}
    have hle1:Le g g1:=⟨e,Nat.le_refl _,λ_ _=>rfl,rfl⟩
    obtain⟨g2,hle2,hw2,hI2,hn2,hf2,hs2⟩:=U5 (g:=g1) k5;have hle:=hle1.trans hle2;have hio:Fv g2 (ioB σ.args as io) B2:=hback g2 io B2 hle (by rw[hI2,hw2];exact k6);have hsg:=hs2.app (hio.app (hrest.mono hle));have hst2:St g2.I g2.w (AH'++((B1++(B2++A2))++T)):=by rw[hI2,hw2];simpa [List.append_assoc] using k1
    have hn1:g1.n=c.nx:=h.n;rw[hn1]at hn2 hf2 hsg;obtain⟨a,c',g3,m1,m2,m3,m4,m5⟩:=Aht h hle hc.2 k7 hn2 (by rw[hI2,hw2];exact k2) hsg hst2 hf2;have:=next _ a c' g3 _ _ (hle.trans m2) m4 m5 m1;rw[m3,hw2]at this;exact this
   .refine hR v w' I' AH' H' t l u (h.le.trans e) ?_ k2 k3 k4 k5;exact DD k1
  .exact hk.elim
 .exact hk.elim
def mkT:(ts:List Ty)->List (AV Y)->Option (Iq Y ts)
 | [],[]=>some ()
 |t::ts,a::as=>match U0 t a,mkT ts as with
  |some x,some r=>some (x,r)
  |_,_=>none
 |_,_=>none
theorem Zr{g:B3}:∀{ts:List Ty}{as:List (AV Y)}{x:Iq Y ts}{vs:List Value},mkT ts as=some x->F2 (AR g) as vs->W5 Y g.I g.w ts x vs
 | [],[],_,_,_,.nil=>rfl
 |t::ts,a::as,x,v::vs,h,.cons h1 h2=>by
  unfold mkT at h;split at h
  .rename_i y r hy hr;cases h;exact⟨v,vs,rfl,Dk hy h1,Zr hr h2⟩
  .cases h
 |[],_::_,_,_,h,_|_::_,[],_,_,h,_=>by simp [mkT]at h
def fvX(X:TF Y)(c:Cf Y)(as rs:List Ty)(F:FT Y as rs)(l:List (AV Y))(k:AV Y->Cf Y->Prop):Prop:=match mkT as l,c.op with
 |some x,none=>F x c.H (λb H'=>Asg c c.sg c.nx H' k (P7 rs b)) X
 |_,_=>False
def Aof(sigs:FuncId->Option Bs)(X:TF Y)(c:Cf Y)(cl:Operand)(as:Array Operand)(k:AV Y->Cf Y->Prop):Prop:=match evL c as.toList with
 |some l=>match cl with
  | .func q=>Wx sigs X c q l k
  |x=>match Ey c x with
   |some (.own j)=>match HG c.sg j with
    |some (.clo q fs cs)=>Wx sigs X c q (fs++(l++cs)) k
    |_=>False
   |some (.val (.func (.func q) ⟨[]⟩ ⟨[]⟩))=>Wx sigs X c q l k
   |some (.fn as rs F)=>fvX X c as rs F l k
   |_=>False
 |none=>False
theorem Aoe{sigs:FuncId->Option Bs}{X:TF Y}(h:RG g0 T c f g AH A){cl:Operand}{as:Array Operand}{at_:Array TypeId}(hk:Aof sigs X c cl as k):Asp g0 T X f g.w (.call ⟨.value cl,as,at_⟩) k g:=by
 intro N ops R K os dst ty pos af hR next;unfold Aof at hk;split at hk
 .rename_i l hl;have hF:=OM h hl;split at hk
  .rename_i q;obtain⟨hc,hx⟩:=OW h hk hF;exact Al8 hc (hx R _ hR next) rfl (λv I' w' _ h=>h) (λv I' w' _ h=>h)
  .rename_i x hx0;split at hk
   .rename_i j ha;split at hk
    .rename_i q fs cs hs;obtain⟨A1,A2,_,_,⟨_,vs,us,h3,h4,h5⟩,_⟩:=h.sg.take hs;obtain⟨hc,hx⟩:=OW h hk (h4.app (hF.app h5));exact Agg hc (hx R _ hR next) ((h.ev ha).2.trans h3) (by simp) (λv I' w' _ h=>h) (λv I' w' _ h=>h)
    .exact hk.elim
   .rename_i q ha;obtain⟨hc,hx⟩:=OW h hk hF;exact Agg hc (hx R _ hR next) (h.ev ha) (by simp) (λv I' w' _ h=>h) (λv I' w' _ h=>h)
   .rename_i as' rs F ha;unfold fvX at hk;split at hk
    .rename_i x hx hop;obtain⟨_,hcall⟩:=h.ev ha;have hH:=h.hr;rw[hop]at hH;refine Azg (vs:=as.toList.map (ev f)) rfl (Clb.mono (hcall x c.H _ X hk g.I g.w (Ext.refl _ _) (A++T) AH _ (Zr hx hF) hH h.st) λe w' he=>?_);rcases he with ⟨v,I',rfl,e,AH',A',H',k1,k2,k3,b,us,k4,k5,k6⟩|⟨v,I',rfl,e,AH',H',t,l,u,k1,k2,k3,k4,k5⟩
     .subst k3 k4;let g1:B3:={g with I:=I',w:=w'}
      have hle1:Le g g1:=⟨e,Nat.le_refl _,λ_ _=>rfl,rfl⟩
      obtain⟨a,c',g3,m1,m2,m3,m4,m5⟩:=Aht (g':=g1) h hle1 hop k6 h.n k2 (h.sg.mono hle1) (by simpa using k1) (Ph k5);have:=next _ a c' g3 _ _ (hle1.trans m2) m4 m5 m1;rw[m3]at this;exact this
     .exact hR v w' I' AH' H' t l u (h.le.trans e) (DD k1) k2 k3 k4 k5
    .exact hk.elim
   .exact hk.elim
 .exact hk.elim
end
end
section
section
variable {Y:Sys}
def pl1:Ty->Bool
 | .int _ | .bool | .str | .ptr | .mref=>true
 |_=>false
def vl1:(t:Ty)->den Y.D t->Value
 | .int k,n=>.int k n
 | .bool,b=>.bool b
 | .str,s=>.string s
 | .ptr,p=>.pointer (p.map λb=>⟨b,0,none⟩)
 | .mref,p=>.map p
 |.sl _,_|.u _,_=>undef
def rg1:(t:Ty)->den Y.D t->Prop
 | .int k,n=>Ag k n
 | .str,s=>s.size<=NS
 |.bool,_|.ptr,_|.mref,_|.sl _,_|.u _,_=>True
variable {w:World}
theorem Asy{t:Ty}(h:pl1 t=true){I:BY}{v:Value}{x:den Y.D t}:rp Y.toUS t I w v x↔v=vl1 t x/\rg1 t x:=by
 cases t with
 |int k=>exact AX
 |bool=>exact GO.trans ⟨λh=>⟨h,trivial⟩,λh=>h.1⟩
 |str=>exact LU
 |ptr=>exact KN.trans ⟨λh=>⟨h,trivial⟩,λh=>h.1⟩
 |mref=>exact Ky.trans ⟨λh=>⟨h,trivial⟩,λh=>h.1⟩
 |sl e|u n=>simp [pl1]at h
def plT:List Ty->Bool
 | []=>true
 |t::ts=>pl1 t&&plT ts
def vlT:(ts:List Ty)->Iq Y ts->List Value
 | [],_=>[]
 |t::ts,x=>vl1 t x.1::vlT ts x.2
def rgT:(ts:List Ty)->Iq Y ts->Prop
 | [],_=>True
 |t::ts,x=>rg1 t x.1/\rgT ts x.2
theorem SZ:∀{ts:List Ty},plT ts=true->∀{I:BY}{w:World}{x:Iq Y ts}{vs:List Value},W5 Y I w ts x vs↔vs=vlT ts x/\rgT ts x
 | [],_,I,w,x,vs=>⟨λh=>⟨h,trivial⟩,λh=>h.1⟩
 |t::ts,h,I,w,x,vs=>by
  simp only[plT,Bool.and_eq_true]at h;constructor
  .rintro⟨v,vs',h1,h2,h3⟩;obtain⟨h4,h5⟩:=(Asy h.1).1 h2;obtain⟨h6,h7⟩:=(SZ h.2).1 h3;exact⟨by rw[h1,h4,h6];rfl,h5,h7⟩
  .rintro⟨h1,h2,h3⟩;exact⟨_,_,h1,(Asy h.1).2 ⟨rfl,h2⟩,(SZ h.2).2 ⟨rfl,h3⟩⟩
def Gw(Y:Sys)(I:BY)(w:World):Prop:=(∀b,I b->b<w.heap.size)/\(P2 Y).gl I w
variable {f:Fr}
theorem RG.gw{Y:Sys}{g0 g:B3}{T AH A:Bh}{c:Cf Y}(h:RG g0 T c f g AH A)(s:Sx g w):Gw Y g.I w:=by
 refine⟨λb hb=>Nat.lt_of_lt_of_le (h.st.imm b hb) s.ext.size,(P2 Y).glm s.ext ?_⟩;have h1:=h.hr;unfold HR at h1;split at h1
 .obtain⟨L,_,h2⟩:=h1.ex;exact h2.gl
 .obtain⟨L,_,h2⟩:=h1.1.ex;exact h2.gl
structure PF(Y:Sys)(q:FuncId) where
 ta:List Ty
 tr:List Ty
 KB:Option (Iq Y ta->Prop)
 F:Iq Y ta->Iq Y tr
 pa:plT ta=true
 pr:plT tr=true
 can:CU Y.P q=true
 ok:∀a,rgT ta a->(∀d,KB=some d->d a)->∀I w,Gw Y I w->Calls Y.P q ⟨vlT ta a⟩ w λe w'=>e=.returned (JX (vlT tr (F a)))/\w'=w/\rgT tr (F a)
def Ap7(c:Cf Y)(k:AV Y->Cf Y->Prop):List (AV Y)->Prop
 | [a]=>k a c
 |l=>k (.own c.nx) {c with sg:=(c.nx,.tp l)::c.sg,nx:=c.nx+1}
variable {q:FuncId}
def pfX(p:PF Y q)(c:Cf Y)(l:List (AV Y))(k:AV Y->Cf Y->Prop):Prop:=match mkT p.ta l with
 |some x=>match p.KB with
  |none=>Ap7 c k (P7 p.tr (p.F x))
  |some d=>(rgT p.ta x->d x)/\Ap7 c k (P7 p.tr (p.F x))
 |none=>False
theorem Aux{p:PF Y q}{g0 g:B3}{T AH A:Bh}{c:Cf Y}(h:RG g0 T c f g AH A){l:List (AV Y)}{vs:List Value}{k:AV Y->Cf Y->Prop}(hx:pfX p c l k)(hl:F2 (AR g) l vs):∃v a c' g',k a c'/\g'.w=g.w/\Le g g'/\RG g0 T c' f g' AH A/\AR g' a v/\∀w,Sx g w->Calls Y.P q ⟨vs⟩ w λe w'=>e=.returned v/\w'=w:=by
 unfold pfX at hx;split at hx
 .rename_i x hmk;obtain⟨h1,h2⟩:=(SZ p.pa).1 (Zr hmk hl);have hd:(∀d,p.KB=some d->d x)/\Ap7 c k (P7 p.tr (p.F x)):=by
   split at hx
   .rename_i hn;exact⟨λd h=>(by rw[hn]at h;cases h),hx⟩
   .rename_i d hn;exact⟨λd' h=>(by rw[hn]at h;cases h;exact hx.1 h2),hx.2⟩
  obtain⟨hd,hk⟩:=hd;have hr:rgT p.tr (p.F x):=by obtain⟨e,w',fr,hR,_⟩:=p.ok x h2 hd g.I g.w (h.gw (Sx.refl g)) [];exact hR.2.2
  have hF:F2 (AR g) (P7 p.tr (p.F x)) (vlT p.tr (p.F x)):=Ph ((SZ p.pr).2 ⟨rfl,hr⟩);have hc:∀w,Sx g w->Calls Y.P q ⟨vs⟩ w λe w'=>e=.returned (JX (vlT p.tr (p.F x)))/\w'=w:=λw hw=>by rw[h1];exact Calls.mono (p.ok x h2 hd g.I w (h.gw hw)) λe w' he=>⟨he.1,he.2.1⟩
  generalize P7 p.tr (p.F x)=as at hk hF;generalize vlT p.tr (p.F x)=us at hc hF;unfold Ap7 at hk;split at hk
  .cases hF with
   |cons a1 a2=>cases a2;exact⟨_,_,c,g,hk,rfl,Le.refl _,h,a1,hc⟩
  .rename_i hne;have hv:JX us=.tuple ⟨us⟩:=by
    cases hF with
    |nil=>rfl
    |cons h1 h2=>
     cases h2 with
     |nil=>exact absurd rfl (hne _)
     |cons _ _=>rfl
   rw[hv]at hc;have hle2:=Le.new (g:=g) (v:=.tuple ⟨us⟩) (Ext.refl g.I g.w);have:=h.new (s:=.tp as) (v:=.tuple ⟨us⟩) (A1:=[]) (w':=g.w) (Ext.refl _ _) ⟨rfl,us,g.B7 _ _,hF.mono λ_ _ r=>r.mono hle2⟩ h.st;exact⟨_,_,_,g.new g.w (.tuple ⟨us⟩),hk,rfl,hle2,this,FX h.n,hc⟩
 .exact hx.elim
theorem Tg{as:Array Operand}{at_:Array TypeId}(hc:CU Y.P q=true)(dst:Option Tmp)(ty:TypeId)(pos:String)(af:Array Edge)(gd:Option (Nat×Bool)):(execOp (ev f) ⟨dst,.call ⟨.value (.func q),as,at_⟩,ty,pos,af,gd⟩).run Y.P w=.ok (.enter q ⟨as.toList.map (ev f)⟩) w:=by simp [execOp,resolve,ev,Deferred.ofValue,invoke,Mv hc];rw[<-Array.toList_map]
end
end
section
section
variable {Y:Sys}
structure TG(Y:Sys)(q:FuncId) where
 tr:Cf Y->List (AV Y)->TF Y->(AV Y->Cf Y->Prop)->Prop
 can:CU Y.P q=true
 ok:∀{g0 g:B3}{T AH A:Bh}{c:Cf Y}{f:Fr}{as:List (AV Y)}{vs:List Value}{X:TF Y}{k:AV Y->Cf Y->Prop},RG g0 T c f g AH A->F2 (AR g) as vs->tr c as X k->
  ∀(R:List PanicEntry->World->Prop)(K:Value->World->Prop),GC g0 T X R->(∀v a c' g' AH' A',Le g g'->RG g0 T c' f g' AH' A'->AR g' a v->k a c'->K v g'.w)->
   Calls Y.P q ⟨vs⟩ g.w λe w'=>match e with
    | .returned v=>K v w'
    | .panicked ch=>R ch w'
    | .outgrown=>False
def ilC(il:(q:FuncId)->Option (TG Y q)):Operand->Option ((q:FuncId)×TG Y q)
 | .func q=>match il q with
  |some p=>some ⟨q,p⟩
  |none=>none
 |_=>none
theorem Awl{il:(q:FuncId)->Option (TG Y q)}{cl:Operand}{r:(q:FuncId)×TG Y q}(h:ilC il cl=some r):cl=.func r.1:=by
 unfold ilC at h;split at h
 .split at h
  .cases h;rfl
  .cases h
 .cases h
def ilX(X:TF Y)(c:Cf Y)(r:(q:FuncId)×TG Y q)(as:Array Operand)(K:AV Y->Cf Y->Prop):Prop:=match evL c as.toList with
 |some l=>r.2.tr c l X K
 |none=>False
variable {X:TF Y} {g0 g:B3} {T AH A:Bh} {c:Cf Y} {f:Fr} {as:Array Operand} {at_:Array TypeId} {k:AV Y->Cf Y->Prop}
theorem Awj(h:RG g0 T c f g AH A){r:(q:FuncId)×TG Y q}(hk:ilX X c r as k):Asp g0 T X f g.w (.call ⟨.value (.func r.1),as,at_⟩) k g:=by
 intro N ops R K os dst ty pos af hR next;unfold ilX at hk;split at hk
 .rename_i l hl;refine Vx r.2.can rfl ?_;exact Calls.mono (r.2.ok h (OM h hl) hk R (λv w'=>WL Y.P N ops R false K os (Go.X.put N f dst v) w') hR next) λe w' he=>by cases e<;>exact he
 .exact hk.elim
def Cs{ω:Type}(H:Hp ω)(b:Nat):Hp ω:=λc=>if c=b then none else H c
def G0{ω:Type}(H:Hp ω)(b:Nat)(o:Option ω):Hp ω:=λc=>if c=b then o else H c
theorem Sg{K:HK (Ob Y)}{I:BY}{w:World}{H:HH Y}{b:Nat}(h:HpX K I w H b A)(hb:∀p∈A,p.1≠b):Hk K I w (Cs H b) A:=by
 obtain⟨L,h1,h2⟩:=h.ex;refine⟨L,λc=>?_,h2⟩;unfold Cs;by_cases hc:c=b
 .subst hc;rw[if_pos rfl];exact h2.fresh hb
 .rw[if_neg hc];exact h1 c hc
theorem Agx{K:HK (Ob Y)}{I:BY}{w:World}{H:HH Y}{b:Nat}{o:Option (Ob Y)}(h:Hk K I w H A):HpX K I w (G0 H b o) b A:=by obtain⟨L,h1,h2⟩:=h.ex;exact⟨L,λc hc=>by rw[h1 c,G0,if_neg hc],h2⟩
def ilO(X:TF Y)(c:Cf Y)(o:WM Y)(r:(q:FuncId)×TG Y q)(as:Array Operand)(K:AV Y->Cf Y->Prop):Prop:=match evL c as.toList,HG c.sg o.i with
 |some l,some (.blk _)=>r.2.tr {c with H:=Cs c.H o.b,op:=none} l X λa c'=>cls c' λc'=>match HG c'.sg o.i with
  |some (.blk _)=>c'.H o.b=none->K a {c' with H:=G0 c'.H o.b (c.H o.b),op:=some o}
  |_=>False
 |_,_=>False
theorem Awk(h:RG g0 T c f g AH A){o:WM Y}(ho:c.op=some o){r:(q:FuncId)×TG Y q}(hk:ilO X c o r as k):Asp g0 T X f g.w (.call ⟨.value (.func r.1),as,at_⟩) k g:=by
 intro N ops R K os dst ty pos af hR next;unfold ilO at hk;split at hk
 .rename_i l cs hl hs;have hH:=h.hr;rw[ho]at hH;obtain⟨hX,h2,h3,h4⟩:=hH;obtain⟨A1,A2,hp,_,⟨b',arr,e,rfl,hb',_⟩,_⟩:=h.sg.take hs;rw[h4]at hb';have hb'':b'=o.b:=by injection hb' with hb';injection hb' with hb';injection hb' with hb' _;exact hb'.symm
  subst hb'';have hmem:(o.b,Obj.cells arr e (0,0))∈A:=hp.symm.mem_iff.1 (by simp);have hne:∀p∈AH,p.1≠o.b:=λp hp' e'=>by have hn:=h.st.nodup;rw[List.map_append,List.nodup_append]at hn;exact hn.2.2 p.1 (List.mem_map_of_mem hp') o.b (List.mem_map.2 ⟨_,List.mem_append_left _ hmem,rfl⟩) e'
  have hr:RG g0 T {c with H:=Cs c.H o.b,op:=none} f g AH A:=⟨h.n,h.le,h.st,Sg hX hne,h.sg,h.hs,h.pt,h.fr⟩
  refine Vx r.2.can rfl ?_;refine Calls.mono (r.2.ok hr (OM h hl) hk R (λv w'=>WL Y.P N ops R false K os (Go.X.put N f dst v) w') hR λv a c' g' AH' A' hle hr' ha hk'=>?_) λe w' he=>by cases e<;>exact he
  obtain⟨c2,g2,AH2,A2',hk2,hw2,hle2,hr2,_,hop2⟩:=D0 hr' hk';split at hk2
  .rename_i cs2 hs2;have hH2:=hr2.hr;rw[hop2]at hH2;have hle3:=hle.trans hle2;have hμ:g2.μ o.i=.pointer (some ⟨o.b,0,none⟩):=by rw[hle3.μ _ h3];exact h4
   obtain⟨B1,B2,hq,_,⟨b2,arr2,e2,rfl,hb2,_⟩,_⟩:=hr2.sg.take hs2;rw[hμ]at hb2;have hb3:b2=o.b:=by injection hb2 with hb2;injection hb2 with hb2;injection hb2 with hb2 _;exact hb2.symm
   subst hb3;have hnone:c2.H o.b=none:=by refine Sj (T:=B2++T) (x:=.cells arr2 e2 (0,0)) hH2 (hr2.st.perm ?_);refine((hq.append_right T).append_left AH2).trans ?_;simp only[List.cons_append,List.nil_append,List.append_assoc];exact List.perm_middle
   rw[<-hw2];refine next v a {c2 with H:=G0 c2.H o.b (c.H o.b),op:=some o} g2 AH2 A2' hle3 ⟨hr2.n,hr2.le,hr2.st,⟨Agx hH2,λx hx=>?_,Nat.lt_of_lt_of_le h3 hle3.n,hμ⟩,hr2.sg,hr2.hs,hr2.pt,hr2.fr⟩ (ha.mono hle2) (hk2 hnone);show G0 c2.H o.b (c.H o.b) o.b=_;rw[G0,if_pos rfl];exact h2 x hx
  .exact hk2.elim
 .exact hk.elim
def Aoh(sigs:FuncId->Option Bs)(X:TF Y)(c:Cf Y)(o:WM Y)(q:FuncId)(as:Array Operand)(K:AV Y->Cf Y->Prop):Prop:=match evL c as.toList,HG c.sg o.i with
 |some l,some (.blk _)=>Wx sigs X {c with H:=Cs c.H o.b,op:=none} q l λa c'=>cls c' λc'=>match HG c'.sg o.i with
  |some (.blk _)=>c'.H o.b=none->K a {c' with H:=G0 c'.H o.b (c.H o.b),op:=some o}
  |_=>False
 |_,_=>False
theorem Aog{sigs:FuncId->Option Bs}(h:RG g0 T c f g AH A){o:WM Y}(ho:c.op=some o){q:FuncId}(hk:Aoh sigs X c o q as k):Asp g0 T X f g.w (.call ⟨.value (.func q),as,at_⟩) k g:=by
 intro N ops R K os dst ty pos af hR next;unfold Aoh at hk;split at hk
 .rename_i l cs hl hs;have hH:=h.hr;rw[ho]at hH;obtain⟨hX,h2,h3,h4⟩:=hH;obtain⟨A1,A2,hp,_,⟨b',arr,e,rfl,hb',_⟩,_⟩:=h.sg.take hs;rw[h4]at hb';have hb'':b'=o.b:=by injection hb' with hb';injection hb' with hb';injection hb' with hb' _;exact hb'.symm
  subst hb'';have hmem:(o.b,Obj.cells arr e (0,0))∈A:=hp.symm.mem_iff.1 (by simp);have hne:∀p∈AH,p.1≠o.b:=λp hp' e'=>by have hn:=h.st.nodup;rw[List.map_append,List.nodup_append]at hn;exact hn.2.2 p.1 (List.mem_map_of_mem hp') o.b (List.mem_map.2 ⟨_,List.mem_append_left _ hmem,rfl⟩) e'
  have hr:RG g0 T {c with H:=Cs c.H o.b,op:=none} f g AH A:=⟨h.n,h.le,h.st,Sg hX hne,h.sg,h.hs,h.pt,h.fr⟩
  obtain⟨hc,hx⟩:=OW hr hk (OM h hl);refine Al8 hc (hx R (λv w'=>WL Y.P N ops R false K os (Go.X.put N f dst v) w') hR λv a c' g' AH' A' hle hr' ha hk'=>?_) rfl (λv I' w' _ h=>h) (λv I' w' _ h=>h);obtain⟨c2,g2,AH2,A2',hk2,hw2,hle2,hr2,_,hop2⟩:=D0 hr' hk';split at hk2
  .rename_i cs2 hs2;have hH2:=hr2.hr;rw[hop2]at hH2;have hle3:=hle.trans hle2;have hμ:g2.μ o.i=.pointer (some ⟨o.b,0,none⟩):=by rw[hle3.μ _ h3];exact h4
   obtain⟨B1,B2,hq,_,⟨b2,arr2,e2,rfl,hb2,_⟩,_⟩:=hr2.sg.take hs2;rw[hμ]at hb2;have hb3:b2=o.b:=by injection hb2 with hb2;injection hb2 with hb2;injection hb2 with hb2 _;exact hb2.symm
   subst hb3;have hnone:c2.H o.b=none:=by refine Sj (T:=B2++T) (x:=.cells arr2 e2 (0,0)) hH2 (hr2.st.perm ?_);refine((hq.append_right T).append_left AH2).trans ?_;simp only[List.cons_append,List.nil_append,List.append_assoc];exact List.perm_middle
   rw[<-hw2];refine next v a {c2 with H:=G0 c2.H o.b (c.H o.b),op:=some o} g2 AH2 A2' hle3 ⟨hr2.n,hr2.le,hr2.st,⟨Agx hH2,λx hx=>?_,Nat.lt_of_lt_of_le h3 hle3.n,hμ⟩,hr2.sg,hr2.hs,hr2.pt,hr2.fr⟩ (ha.mono hle2) (hk2 hnone);show G0 c2.H o.b (c.H o.b) o.b=_;rw[G0,if_pos rfl];exact h2 x hx
  .exact hk2.elim
 .exact hk.elim
def wrX(c:Cf Y)(op:BinOp)(x y:Operand)(K:AV Y->Cf Y->Prop):Prop:=match Ey c x,Ey c y with
 |some a,some b=>match asInt a,asInt b with
  |some (k,m),some (k2,n)=>match Ty.dec (.int k) (.int k2) with
   | .isTrue _=>arW op k m n λr=>K (.dat (.int k) r) c
   | .isFalse _=>False
  |_,_=>False
 |_,_=>False
theorem Aty(h:RG g0 T c f g AH A){op:BinOp}{x y:Operand}{t u:TypeId}{K:AV Y->Cf Y->Prop}(hk:wrX c op x y K):∃v a,K a c/\AR g a v/\∀ty,KC Y.P f (.binOp op t x y u) ty v g.w:=by
 unfold wrX at hk;split at hk
 .rename_i a b ha hb;split at hk
  .rename_i k m k2 n h1 h2;split at hk
   .rename_i e _;cases e;have hx:=FN h1 (h.ev ha);have hy:=FN h2 (h.ev hb);have:∀ty:TypeId,∃r,K (.dat (.int k) r) c/\Ag k r/\∀w,KC Y.P f (.binOp op t x y u) ty (.int k r) w:=λty=>Aon (t:=t) (u:=u) (ty:=ty) hk hx hy;obtain⟨r,hr1,hr2,hr3⟩:=this 0;refine⟨_,_,hr1,AX.2 ⟨rfl,hr2⟩,λty dst pos af gd=>?_⟩;have:=hr3 g.w dst pos af gd;simpa [execOp] using this
   .exact hk.elim
  .exact hk.elim
 .exact hk.elim
end
end
section
section
variable {Y:Sys}
def Am6(c:Cf Y)(x:Operand):Bool:=match Ey c x with
 |some (.dat .mref _)=>true
 |_=>false
variable {g0 g:B3} {T AH A:Bh} {c:Cf Y} {f:Fr}
theorem RG.mr(h:RG g0 T c f g AH A)(hop:c.op=none){r:Nat}{k e:Ty}{m:List (den Y.D k×den Y.D e)}(hr:c.H r=some (.mp k e m)):∃A1 A2,WN Y k e g.I g.w A1 (.map (some r)) m/\St g.I g.w (A1++(A2++(A++T)))/\∀(A1':Bh)(g':B3)(m':List (den Y.D k×den Y.D e)),Le g g'->g'.n=g.n->WN Y k e g'.I g'.w A1' (.map (some r)) m'->St g'.I g'.w (A1'++(A2++(A++T)))->RG g0 T {c with H:=Ac c.H r (.mp k e m')} f g' (A1'++A2) A:=by have hH:=h.hr;rw[hop]at hH;obtain⟨A1,A2,h1,h2,h3⟩:=Hk.take hH hr h.st;refine⟨A1,A2,h1,h3,λA1' g' m' hle hn ho hs=>⟨hn.trans h.n,h.le.trans hle.ext,by rw[List.append_assoc];exact hs,?_,h.sg.mono hle,h.hs.mono hle,hle.pt h.pt,λi a hi=>(h.fr i a hi).mono hle⟩⟩;show HR _ _ _ _ c.op;rw[hop];exact HpX.lay (h2.mono hle.ext) ho
def luR(c:Cf Y)(t:TypeId)(x y:Operand)(ok:Bool)(K:AV Y->Cf Y->Prop):Prop:=cls c λc=>match QP Y.P t,Ey c x,Ey c y with
 |some (kt,et),some (.dat .mref p),some b=>match Y.ty kt,Y.ty et with
  |some k,some e=>match U0 k b,Apg (Y:=Y) et e with
   |some kd,some zd=>Fu (Y.km kt k) (∃r,p=some r/\∃m,c.H r=some (.mp k e m)/\(match ok with
    |false=>K (.dat e ((@Ae _ _ (Hw Y k) m kd).getD zd)) c
    |true=>K (.own c.nx) {c with sg:=(c.nx,.tp [.dat e ((@Ae _ _ (Hw Y k) m kd).getD zd),.prp ((@Ae _ _ (Hw Y k) m kd).isSome=true) inferInstance])::c.sg,nx:=c.nx+1}))
   |_,_=>False
  |_,_=>False
 |_,_,_=>False
variable {t:TypeId} {x y:Operand} {K:AV Y->Cf Y->Prop}
theorem Av0(h:RG g0 T c f g AH A){ok:Bool}(hx:luR c t x y ok K):Pb g0 T f g.w (.lookup t x y ok) K g:=by
 intro N ops R Kw os dst ty pos af next;obtain⟨c1,g1,AH1,A1,hx,hw,hle1,h1,_,hop⟩:=D0 h hx;rw[<-hw];split at hx
 .rename_i kt et p b hm ha hb;split at hx
  .rename_i k e hkt het;split at hx
   .rename_i kd zd hk hz;obtain⟨hkm,r,hp,m,hmp,hx⟩:=AM hx;have hT:=Zu (e:=e) hm hkm;obtain⟨B1,B2,ho,hst,back⟩:=h1.mr hop hmp;obtain⟨z,hz1,hz2⟩:=Afn hz g1.I g1.w;have hv:ev f x=.map (some r):=by have:=Ky.1 (h1.ev ha);rw[this,hp]
    letI:AT (den Y.D k):=RT Y.toUS k
    letI:AT (den Y.D e):=RT Y.toUS e
    letI:DecidableEq (den Y.D k):=Hw Y k
    split at hx
    .exact Vu hT ho hst hv rfl (Dk hk (h1.ev hb)) hz1 hz2 λu hu=>next u (.dat e ((Ae m kd).getD zd)) c1 g1 AH1 A1 hle1 h1 hu hx
    .refine Vt hT ho hst hv rfl (Dk hk (h1.ev hb)) hz1 hz2 λu hu=>?_;generalize hvt:Value.tuple #[u,.bool (Ae m kd).isSome]=vt;have hle:Le g1 (g1.new g1.w vt):=Le.new (Ext.refl _ _);refine next vt (.own c1.nx) _ (g1.new g1.w vt) AH1 A1 (hle1.trans hle) (h1.new (A1:=[]) (s:=.tp [.dat e ((Ae m kd).getD zd),.prp ((Ae m kd).isSome=true) inferInstance]) (Ext.refl _ _) ⟨rfl,[u,.bool (Ae m kd).isSome],(g1.B7 _ _).trans hvt.symm,.cons (show rp Y.toUS e _ _ u _ from EX hle.ext hu) (.cons ?_ .nil)⟩ h1.st) ?_ hx
     .show Value.bool _=Value.bool _;cases hms:(Ae m kd).isSome<;>simp
     .rw[<-h1.n];exact⟨Nat.lt_succ_self _,(g1.B7 _ _).symm⟩
   .exact hx.elim
  .exact hx.elim
 .exact hx.elim
def Azt(c:Cf Y)(t:TypeId)(K:AV Y->Cf Y->Prop):Prop:=cls c λc=>match QP Y.P t with
 |some (kt,et)=>match Y.ty kt,Y.ty et with
  |some k,some e=>∀r,c.H r=none->K (.dat .mref (some r)) {c with H:=Ac c.H r (.mp k e [])}
  |_,_=>False
 |none=>False
theorem Aqw(h:RG g0 T c f g AH A)(hx:Azt c t K):Pb g0 T f g.w (.makeMap t none) K g:=by
 intro N ops R Kw os dst ty pos af next;obtain⟨c1,g1,AH1,A1,hx,hw,hle1,h1,_,hop⟩:=D0 h hx;rw[<-hw];split at hx
 .split at hx
  .rename_i k e hk he;letI:AT (den Y.D k):=RT Y.toUS k
   letI:AT (den Y.D e):=RT Y.toUS e
   have hH:=h1.hr;rw[hop]at hH;refine XT (den Y.D k) (den Y.D e) h1.st λv B1 w' e1 s1 ho=>?_;obtain⟨b,es,cl,rfl,rfl,_⟩:=@C4.ex _ _ (RT Y.toUS k) (RT Y.toUS e) _ _ _ _ _ ho;let g2:B3:={g1 with w:=w'}
   have hle:Le g1 g2:=⟨e1,Nat.le_refl _,λ_ _=>rfl,rfl⟩
   have hH2:Hk (P2 Y) g1.I w' c1.H AH1:=Hk.mono hH e1;have ho':(P2 Y).ob (.mp k e []) g1.I w' [(b,.map es cl)] b:=ho;refine next _ (.dat .mref (some b)) {c1 with H:=Ac c1.H b (.mp k e [])} g2 ([(b,.map es cl)]++AH1) A1 (hle1.trans hle) ⟨h1.n,h1.le.trans e1,by rw[List.append_assoc];exact s1,?_,h1.sg.mono hle,h1.hs.mono hle,hle.pt h1.pt,λi a hi=>(h1.fr i a hi).mono hle⟩ (Ky.2 rfl) (hx b (Hk.fresh hH2 ho' s1));show HR _ _ _ _ c1.op;rw[hop];exact Hk.new hH2 ho'
  .exact hx.elim
 .exact hx.elim
def upR(c:Cf Y)(t:TypeId)(x y z:Operand)(K:AV Y->Cf Y->Prop):Prop:=cls c λc=>match QP Y.P t,Ey c x,Ey c y,Ey c z with
 |some (kt,et),some (.dat .mref p),some b,some d=>match Y.ty kt,Y.ty et with
  |some k,some e=>match U0 k b,U0 e d with
   |some kd,some ed=>Fu (Y.km kt k) (∃r,p=some r/\∃m,c.H r=some (.mp k e m)/\K (.val undef) {c with H:=Ac c.H r (.mp k e (@BL _ _ (Hw Y k) m kd ed))})
   |_,_=>False
  |_,_=>False
 |_,_,_,_=>False
theorem Aks(h:RG g0 T c f g AH A){z:Operand}(hx:upR c t x y z K):Pb g0 T f g.w (.mapUpdate t x y z) K g:=by
 intro N ops R Kw os dst ty pos af next;obtain⟨c1,g1,AH1,A1,hx,hw,hle1,h1,_,hop⟩:=D0 h hx;rw[<-hw];split at hx
 .rename_i kt et p b d hm ha hb hd;split at hx
  .rename_i k e hkt het;split at hx
   .rename_i kd ed hk he;obtain⟨hkm,r,hp,m,hmp,hx⟩:=AM hx;have hT:=Zu (e:=e) hm hkm;obtain⟨B1,B2,ho,hst,back⟩:=h1.mr hop hmp;have hv:ev f x=.map (some r):=by have:=Ky.1 (h1.ev ha);rw[this,hp]
    letI:AT (den Y.D k):=RT Y.toUS k
    letI:AT (den Y.D e):=RT Y.toUS e
    letI:DecidableEq (den Y.D k):=Hw Y k
    refine Abg hT ho hst hv rfl rfl (Dk hk (h1.ev hb)) (Dk he (h1.ev hd)) λA' w' e1 s1 ho'=>?_;have hle:Le g1 {g1 with w:=w'}:=⟨e1,Nat.le_refl _,λ_ _=>rfl,rfl⟩
    exact next undef (.val undef) _ {g1 with w:=w'} _ A1 (hle1.trans hle) (back A' {g1 with w:=w'} (BL m kd ed) hle rfl ho' s1) rfl hx
   .exact hx.elim
  .exact hx.elim
 .exact hx.elim
def dlR(c:Cf Y)(t:TypeId)(x y:Operand)(K:AV Y->Cf Y->Prop):Prop:=cls c λc=>match QP Y.P t,Ey c x,Ey c y with
 |some (kt,et),some (.dat .mref p),some b=>match Y.ty kt,Y.ty et with
  |some k,some e=>match U0 k b with
   |some kd=>Fu (Y.km kt k) (∃r,p=some r/\∃m,c.H r=some (.mp k e m)/\K (.val (.tuple #[])) {c with H:=Ac c.H r (.mp k e (@Df _ _ (Hw Y k) m kd))})
   |_=>False
  |_,_=>False
 |_,_,_=>False
theorem Aw0(h:RG g0 T c f g AH A){at_:Array TypeId}(hat:at_[0]?=some t)(hx:dlR c t x y K):Pb g0 T f g.w (.call ⟨.builtin .delete,#[x,y],at_⟩) K g:=by
 intro N ops R Kw os dst ty pos af next;obtain⟨c1,g1,AH1,A1,hx,hw,hle1,h1,_,hop⟩:=D0 h hx;rw[<-hw];split at hx
 .rename_i kt et p b hm ha hb;split at hx
  .rename_i k e hkt het;split at hx
   .rename_i kd hk;obtain⟨hkm,r,hp,m,hmp,hx⟩:=AM hx;have hT:=Zu (e:=e) hm hkm;obtain⟨B1,B2,ho,hst,back⟩:=h1.mr hop hmp;have hv:ev f x=.map (some r):=by have:=Ky.1 (h1.ev ha);rw[this,hp]
    letI:AT (den Y.D k):=RT Y.toUS k
    letI:AT (den Y.D e):=RT Y.toUS e
    letI:DecidableEq (den Y.D k):=Hw Y k
    refine Abh hT ho hst hv rfl (Dk hk (h1.ev hb)) hat λA' w' e1 s1 ho'=>?_;have hle:Le g1 {g1 with w:=w'}:=⟨e1,Nat.le_refl _,λ_ _=>rfl,rfl⟩
    exact next _ (.val (.tuple #[])) _ {g1 with w:=w'} _ A1 (hle1.trans hle) (back A' {g1 with w:=w'} (Df m kd) hle rfl ho' s1) rfl hx
   .exact hx.elim
  .exact hx.elim
 .exact hx.elim
def lnR(c:Cf Y)(t:TypeId)(x:Operand)(K:AV Y->Cf Y->Prop):Prop:=cls c λc=>match QP Y.P t,Ey c x with
 |some (kt,et),some (.dat .mref p)=>match Y.ty kt,Y.ty et with
  |some k,some e=>Fu (Y.km kt k) (∃r,p=some r/\∃m:List (den Y.D k×den Y.D e),c.H r=some (.mp k e m)/\(m.length<=9223372036854775807/\K (.nat m.length) c))
  |_,_=>False
 |_,_=>False
theorem Av1(h:RG g0 T c f g AH A){at_:Array TypeId}(hat:at_[0]?=some t)(hx:lnR c t x K):Pb g0 T f g.w (.call ⟨.builtin .len,#[x],at_⟩) K g:=by
 intro N ops R Kw os dst ty pos af next;obtain⟨c1,g1,AH1,A1,hx,hw,hle1,h1,_,hop⟩:=D0 h hx;rw[<-hw];split at hx
 .rename_i kt et p hm ha;split at hx
  .rename_i k e hkt het;obtain⟨hkm,r,hp,m,hmp,hb,hx⟩:=AM hx;have hT:=Zu (e:=e) hm hkm;obtain⟨B1,B2,ho,hst,back⟩:=h1.mr hop hmp;have hv:ev f x=.map (some r):=by have:=Ky.1 (h1.ev ha);rw[this,hp]
   letI:AT (den Y.D k):=RT Y.toUS k
   letI:AT (den Y.D e):=RT Y.toUS e
   letI:DecidableEq (den Y.D k):=Hw Y k
   exact Ame ho hst hv hT hat (next _ (.nat m.length) c1 g1 AH1 A1 hle1 h1 ⟨rfl,hb⟩ hx)
  .exact hx.elim
 .exact hx.elim
end
end
end Go.Y
