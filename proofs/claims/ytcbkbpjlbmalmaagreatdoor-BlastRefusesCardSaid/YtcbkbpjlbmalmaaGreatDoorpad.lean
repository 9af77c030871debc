/-
  The Y layer, part e: the operations of part d, put together ('vop'). (Merged by program out of 4 texts.)
-/
import Derived.Test.YtcbkbpjlbmalmaaGreatDoorpac
namespace Go.Y
open Go Go.RowKit Go.X
section
inductive OL(D:Nat->Type) where
 |dat (l:Lf D)
 |own (t:Ty) (xs:List (den D t))
 |map (k v:Ty) (m:List (den D k×den D v))
 |ownO (t:Ty) (o:Option (List (den D t)))
@[reducible] def G5(S:US)(dq:(n:Nat)->DecidableEq (S.D n)):(t:Ty)->DecidableEq (den S.D t)
 | .int _=>inferInstanceAs (DecidableEq Int)
 | .bool=>inferInstanceAs (DecidableEq Bool)
 | .str=>inferInstanceAs (DecidableEq ByteArray)
 | .ptr=>inferInstanceAs (DecidableEq (Option Nat))
 | .mref=>inferInstanceAs (DecidableEq (Option Nat))
 | .u n=>dq n
 | .sl e=>@instDecidableEqList _ (G5 S dq e)
inductive RK where
 |dat (t:Ty)
 |own (t:Ty)
 |map (k e:Ty)
 |ownO (t:Ty)
structure Sys extends US where
 P:Program
 ty:TypeId->Option Ty
 deq:(n:Nat)->DecidableEq (D n)
 gls:Nat->Option ((T:Ty)×List (den D T))
 O:Nat->Type
 Aw8:Nat->List RK
 ocl:(n:Nat)->O n->List (OL D)
 oun:(n:Nat)->List (OL D)->Option (O n)
 Aw7:∀n l x,oun n l=some x->ocl n x=l
 ok:TypeId->Option Nat
 km:TypeId->Ty->Bool
 Ayb:∀t k,km t k=true->@O4 P t (den D k) (RT toUS k) (G5 toUS deq k)
 eqs:TypeId->Ty->Bool
 A3i:∀t k,eqs t k=true->P.eqGuardType P.depth t=false/\∀I w v u(x y:den D k),rp toUS k I w v x->rp toUS k I w u y->∀w',(Op.equal t v u).run P w'=.ok (@decide (x=y) (G5 toUS deq k x y)) w'
inductive Ob(Y:Sys) where
 |st (n:Nat) (x:Y.O n)
 |mp (k v:Ty) (m:List (den Y.D k×den Y.D v))
 |lp (r:Loop)
section
variable (Y:Sys)
@[reducible] def L2(t:Ty):DecidableEq (den Y.D t):=G5 Y.toUS Y.deq t
abbrev OSl(t:Ty)(I:Reg)(w:World)(A:Own)(v:Value)(xs:List (den Y.D t)):Prop:=@Cc _ (RT Y.toUS t) I w A v xs
abbrev OMp(k e:Ty)(I:Reg)(w:World)(A:Own)(v:Value)(m:List (den Y.D k×den Y.D e)):Prop:=@Dz _ _ (RT Y.toUS k) (RT Y.toUS e) I w A v m
def OR(I:Reg)(w:World):List Value->List (OL Y.D)->Own->Prop
 | [],[],A=>A=[]
 |v::vs,.dat l::ls,A=>rp Y.toUS l.t I w v l.x/\v.oneCell'=true/\OR I w vs ls A
 |v::vs,.own t xs::ls,A=>∃A1 A2,A=A1++A2/\OSl Y t I w A1 v xs/\OR I w vs ls A2
 |v::vs,.map k e m::ls,A=>∃A1 A2,A=A1++A2/\OMp Y k e I w A1 v m/\OR I w vs ls A2
 |v::vs,.ownO _ none::ls,A=>v=.slice none 0 0/\OR I w vs ls A
 |v::vs,.ownO t (some xs)::ls,A=>∃A1 A2,A=A1++A2/\OSl Y t I w A1 v xs/\OR I w vs ls A2
 |_,_,_=>False
def obR(o:Ob Y)(I:Reg)(w:World)(A:Own)(b:Nat):Prop:=match o with
 | .st n x=>∃arr e A',A=(b,.cells arr e (0,0))::A'/\OR Y I w arr.toList (Y.ocl n x) A'
 | .mp k e m=>OMp Y k e I w A (.map (some b)) m
 | .lp r=>A=[(b,.loop r)]
theorem OR.mono{I I':Reg}{w w':World}(h:Ext I w I' w'):∀{vs:List Value}{ls:List (OL Y.D)}{A:Own},OR Y I w vs ls A->OR Y I' w' vs ls A
 | [],[],_,r=>r
 |_::_,.dat _::_,_,⟨r1,r2,r3⟩=>⟨Ig h r1,r2,OR.mono h r3⟩
 |_::_,.own _ _::_,_,⟨A1,A2,e,r1,r2⟩=>⟨A1,A2,e,@Cc.mono _ (RT _ _) _ _ _ _ _ _ _ h r1,OR.mono h r2⟩
 |_::_,.map _ _ _::_,_,⟨A1,A2,e,r1,r2⟩=>⟨A1,A2,e,@Dz.mono _ _ (RT _ _) (RT _ _) _ _ _ _ _ _ _ r1 h,OR.mono h r2⟩
 |_::_,.ownO _ none::_,_,⟨r1,r2⟩=>⟨r1,OR.mono h r2⟩
 |_::_,.ownO _ (some _)::_,_,⟨A1,A2,e,r1,r2⟩=>⟨A1,A2,e,@Cc.mono _ (RT _ _) _ _ _ _ _ _ _ h r1,OR.mono h r2⟩
 | [],.ownO _ _::_,_,r=>r.elim
 | [],.dat _::_,_,r=>r.elim
 | [],.own _ _::_,_,r=>r.elim
 | [],.map _ _ _::_,_,r=>r.elim
 |_::_,[],_,r=>r.elim
def HK':HK (Ob Y) where
 ob:=obR Y
 mono {o I w I' w' A b} h r:=by
  cases o with
  |st n x=>obtain⟨arr,e,A',h1,h2⟩:=r;exact⟨arr,e,A',h1,OR.mono Y h h2⟩
  |mp k e m=>exact @Dz.mono _ _ (RT _ _) (RT _ _) _ _ _ _ _ _ _ r h
  |lp r'=>exact r
 self {o I w A b} r:=by
  cases o with
  |st n x=>obtain⟨arr,e,A',h1,h2⟩:=r;exact⟨_,_,h1⟩
  |mp k e m=>
   obtain⟨b',es,c,h1,h2,_⟩:=@Dz.ex _ _ (RT _ _) (RT _ _) _ _ _ _ _ r;cases h2;exact⟨_,_,h1⟩
  |lp r'=>exact⟨_,[],r⟩
 gl I w:=∀g q,Y.gls g=some q->rp Y.toUS (.sl q.1) I w (.slice (some ⟨g,0,none⟩) q.2.length q.2.length) q.2
 glm e h g q hq:=Ig e (h g q hq)
abbrev HH:=Hp (Ob Y)
def Tup:List Ty->Type
 | []=>Unit
 |t::ts=>den Y.D t×Tup ts
def Ah6(I:Reg)(w:World):(ts:List Ty)->Tup Y ts->List Value->Prop
 | [],_,vs=>vs=[]
 |t::ts,x,vs=>∃v vs',vs=v::vs'/\rp Y.toUS t I w v x.1/\Ah6 I w ts x.2 vs'
def Qe:List Value->Value
 | [v]=>v
 |vs=>.tuple ⟨vs⟩
abbrev Pan:=TypeId->Lf Y.D->HH Y->Prop
abbrev FT(as rs:List Ty):=Tup Y as->HH Y->(Tup Y rs->HH Y->Prop)->Pan Y->Prop
def Bal(g:FuncId)(vs:List Value)(I:Reg)(w:World)(T:Own)(Q:Reg->World->Value->Own->HH Y->Prop)(X:Pan Y):Prop:=Ajd Y.P g vs I w (λr I' w'=>∃AH' A' H',St I' w' (AH'++(A'++T))/\HpR (HK' Y) I' w' H' AH'/\Q I' w' r A' H') (λv I' w'=>∃AH' H' t l u,St I' w' (AH'++T)/\HpR (HK' Y) I' w' H' AH'/\v=.iface t u/\rp Y.toUS l.t I' w' u l.x/\X t l H')
def Atu(I:Reg)(w:World)(Q X:Value->Reg->World->Prop):Ending->World->Prop:=λe w'=>(∃v I',e=.returned v/\Ext I w I' w'/\Q v I' w')∨(∃v I',e=.panicked [{v,recovered:=false}]/\Ext I w I' w'/\X v I' w')
def Att(I:Reg)(w:World)(T:Own)(Q:Reg->World->Value->Own->HH Y->Prop)(X:Pan Y):Ending->World->Prop:=Atu I w (λr I' w'=>∃AH' A' H',St I' w' (AH'++(A'++T))/\HpR (HK' Y) I' w' H' AH'/\Q I' w' r A' H') (λv I' w'=>∃AH' H' t l u,St I' w' (AH'++T)/\HpR (HK' Y) I' w' H' AH'/\v=.iface t u/\rp Y.toUS l.t I' w' u l.x/\X t l H')
def FvR(as rs:List Ty)(F:FT Y as rs)(I0:Reg)(w0:World)(v:Value):Prop:=(∃g first cap,v=.func g first cap)/\∀a H Q X,F a H Q X->∀I w,Ext I0 w0 I w->∀(T AH:Own)(vs:List Value),Ah6 Y I w as a vs->HpR (HK' Y) I w H AH->St I w (AH++T)->Clb Y.P v vs w (Att Y I w T (λI' w' r A' H'=>A'=[]/\∃b us,r=Qe us/\Ah6 Y I' w' rs b us/\Q b H') X)
theorem FvR.mono{as rs:List Ty}{F:FT Y as rs}{I I':Reg}{w w':World}{v:Value}(e:Ext I w I' w')(h:FvR Y as rs F I w v):FvR Y as rs F I' w' v:=⟨h.1,λa H Q X hF I2 w2 e2=>h.2 a H Q X hF I2 w2 (e.trans e2)⟩
inductive AK where
 |dat (t:Ty)
 |own (t:Ty)
 |map (k e:Ty)
 |mob
 |del (t:Ty)
 |fn (as rs:List Ty)
 |fbx (as rs:List Ty)
structure Sig where
 args:List AK
 res:List RK
def N8:List AK->Type
 | []=>Unit
 | .dat t::l=>den Y.D t×N8 l
 | .own t::l=>List (den Y.D t)×N8 l
 | .map k e::l=>List (den Y.D k×den Y.D e)×N8 l
 | .mob::l=>Nat×N8 l
 | .del t::l=>den Y.D t×N8 l
 | .fn as rs::l=>FT Y as rs×N8 l
 | .fbx as rs::l=>FT Y as rs×N8 l
def A82(t:Ty)(I:Reg)(w:World)(x:den Y.D t)(v:Value):Prop:=∃b off u,rp Y.toUS t I w u x/\E3 w ⟨b,off,none⟩ u/\I b/\v=.pointer (some ⟨b,off,none⟩)
def FbR(as rs:List Ty)(F:FT Y as rs)(I:Reg)(w:World)(v:Value):Prop:=∃b off u,FvR Y as rs F I w u/\E3 w ⟨b,off,none⟩ u/\I b/\v=.pointer (some ⟨b,off,none⟩)
theorem FbR.mono{as rs:List Ty}{F:FT Y as rs}{I I':Reg}{w w':World}{v:Value}(e:Ext I w I' w')(h:FbR Y as rs F I w v):FbR Y as rs F I' w' v:=by obtain⟨b,off,u,h1,h2,h3,h4⟩:=h;exact⟨b,off,u,FvR.mono Y e h1,E3.mono e h3 h2,e.sub b h3,h4⟩
def ArR(I:Reg)(w:World):(l:List AK)->N8 Y l->List Value->Own->Prop
 | [],_,vs,A=>vs=[]/\A=[]
 | .dat t::l,x,vs,A=>∃v vs',vs=v::vs'/\rp Y.toUS t I w v x.1/\ArR I w l x.2 vs' A
 | .own t::l,x,vs,A=>∃v vs' A1 A2,vs=v::vs'/\A=A1++A2/\OSl Y t I w A1 v x.1/\ArR I w l x.2 vs' A2
 | .map k e::l,x,vs,A=>∃v vs' A1 A2,vs=v::vs'/\A=A1++A2/\OMp Y k e I w A1 v x.1/\ArR I w l x.2 vs' A2
 | .mob::l,x,vs,A=>∃v vs',vs=v::vs'/\v=.map (some x.1)/\ArR I w l x.2 vs' A
 | .del t::l,x,vs,A=>∃v vs',vs=v::vs'/\A82 Y t I w x.1 v/\ArR I w l x.2 vs' A
 | .fn as rs::l,x,vs,A=>∃v vs',vs=v::vs'/\FvR Y as rs x.1 I w v/\ArR I w l x.2 vs' A
 | .fbx as rs::l,x,vs,A=>∃v vs',vs=v::vs'/\FbR Y as rs x.1 I w v/\ArR I w l x.2 vs' A
def R2:List RK->Type
 | []=>Unit
 | .dat t::l=>den Y.D t×R2 l
 | .own t::l=>List (den Y.D t)×R2 l
 | .map k e::l=>List (den Y.D k×den Y.D e)×R2 l
 | .ownO _::_=>Empty
def ReR(I:Reg)(w:World):(l:List RK)->R2 Y l->List Value->Own->Prop
 | [],_,vs,A=>vs=[]/\A=[]
 | .dat t::l,x,vs,A=>∃v vs',vs=v::vs'/\rp Y.toUS t I w v x.1/\ReR I w l x.2 vs' A
 | .own t::l,x,vs,A=>∃v vs' A1 A2,vs=v::vs'/\A=A1++A2/\OSl Y t I w A1 v x.1/\ReR I w l x.2 vs' A2
 | .map k e::l,x,vs,A=>∃v vs' A1 A2,vs=v::vs'/\A=A1++A2/\OMp Y k e I w A1 v x.1/\ReR I w l x.2 vs' A2
 | .ownO _::_,_,_,_=>False
def U6:List AK->Type
 | []=>Unit
 | .own t::l=>List (den Y.D t)×U6 l
 | .map k e::l=>List (den Y.D k×den Y.D e)×U6 l
 | .dat _::l | .mob::l | .fn _ _::l | .del _::l | .fbx _ _::l=>U6 l
def IoR(I:Reg)(w:World):(l:List AK)->U6 Y l->List Value->Own->Prop
 | [],_,_,A=>A=[]
 | .own t::l,x,vs,A=>∃v vs' A1 A2,vs=v::vs'/\A=A1++A2/\OSl Y t I w A1 v x.1/\IoR I w l x.2 vs' A2
 | .map k e::l,x,vs,A=>∃v vs' A1 A2,vs=v::vs'/\A=A1++A2/\OMp Y k e I w A1 v x.1/\IoR I w l x.2 vs' A2
 | .dat _::l,x,vs,A=>IoR I w l x vs.tail A
 | .mob::l,x,vs,A=>IoR I w l x vs.tail A
 | .del _::l,x,vs,A=>IoR I w l x vs.tail A
 | .fn _ _::l,x,vs,A=>IoR I w l x vs.tail A
 | .fbx _ _::l,x,vs,A=>IoR I w l x vs.tail A
def Wp(g:FuncId)(σ:Sig)(a:N8 Y σ.args)(H:HH Y)(Q:R2 Y σ.res->U6 Y σ.args->HH Y->Prop)(X:Pan Y):Prop:=∀(I:Reg)(w:World)(T A AH:Own)(vs:List Value),ArR Y I w σ.args a vs A->HpR (HK' Y) I w H AH->St I w (AH++(A++T))->Bal Y g vs I w T (λI' w' r A' H'=>∃b io us A1 A2,A'=A1++A2/\r=Qe us/\ReR Y I' w' σ.res b us A1/\IoR Y I' w' σ.args io vs A2/\Q b io H') X
structure Gst where
 I:Reg
 w:World
 n:Nat
 μ:Nat->Value
 φ:Fr
structure Le(g g':Gst):Prop where
 ext:Ext g.I g.w g'.I g'.w
 n:g.n<=g'.n
 μ:∀i,i<g.n->g'.μ i=g.μ i
 φ:g'.φ=g.φ
structure Lx(g g':Gst):Prop where
 ext:Ext g.I g.w g'.I g'.w
 n:g.n<=g'.n
 μ:∀i,i<g.n->g'.μ i=g.μ i
variable {a b:Gst}
theorem Lx.trans{c:Gst}(h:Lx a b)(k:Lx b c):Lx a c:=⟨h.ext.trans k.ext,Nat.le_trans h.n k.n,λi hi=>(k.μ i (Nat.lt_of_lt_of_le hi h.n)).trans (h.μ i hi)⟩
theorem Le.lx(h:Le a b):Lx a b:=⟨h.ext,h.n,h.μ⟩
theorem Lx.refl(g:Gst):Lx g g:=⟨Ext.refl _ _,Nat.le_refl _,λ_ _=>rfl⟩
theorem Le.refl(g:Gst):Le g g:=⟨Ext.refl _ _,Nat.le_refl _,λ_ _=>rfl,rfl⟩
theorem Le.trans{c:Gst}(h:Le a b)(k:Le b c):Le a c:=⟨h.ext.trans k.ext,Nat.le_trans h.n k.n,λi hi=>(k.μ i (Nat.lt_of_lt_of_le hi h.n)).trans (h.μ i hi),k.φ.trans h.φ⟩
inductive AV where
 |dat (t:Ty) (x:den Y.D t)
 |nat (j:Nat)
 |prp (p:Prop) (d:Decidable p)
 |own (i:Nat)
 |adr (i o:Nat)
 |el (i:Nat) (t:Ty) (j o:Nat)
 |del (t:Ty) (x:den Y.D t) (o:Nat)
 |ptr (w:Nat) (p:Option Nat)
 |hp (w b o:Nat)
 |mob (b:Nat)
 |sub (i:Nat) (T:Ty) (lo:Nat)
 |val (v:Value)
 |ifc (t:TypeId) (T:Ty) (x:den Y.D T)
 |fn (as rs:List Ty) (F:FT Y as rs)
 |fbx (as rs:List Ty) (F:FT Y as rs)
inductive Seg where
 |blk (cs:List (AV Y))
 |sl (t:Ty) (xs:List (den Y.D t))
 |mp (k e:Ty) (m:List (den Y.D k×den Y.D e))
 |tp (l:List (AV Y))
 |ag (cs:List (AV Y))
 |clo (g:FuncId) (fs cs:List (AV Y))
structure Opn where
 i:Nat
 b:Nat
 n:Nat
 x:Option (Y.O n)
structure Hs where
 w:Nat
 b:Nat
 n:Option Nat
structure Cf where
 fr:List (Nat×AV Y)
 sg:List (Nat×Seg Y)
 nx:Nat
 H:HH Y
 op:Option (Opn Y)
 hs:List Hs
 pt:List Nat
variable {Y}
def AR(g:Gst):AV Y->Value->Prop
 | .dat t x,v=>rp Y.toUS t g.I g.w v x
 | .nat j,v=>v=.int .i64 j/\j<=9223372036854775807
 | .prp p d,v=>v=.bool (@decide p d)
 | .own i,v=>i<g.n/\v=g.μ i
 | .adr i o,v=>i<g.n/\∃b,g.μ i=.pointer (some ⟨b,0,none⟩)/\v=.pointer (some ⟨b,o,none⟩)
 | .el i t j o,v=>i<g.n/\∃b off len cap,g.μ i=.slice (some ⟨b,off,none⟩) len cap/\v=.pointer (some ⟨b,off+j*sz Y.toUS t+o,none⟩)
 | .del t x o,v=>∃b off u,rp Y.toUS t g.I g.w u x/\E3 g.w ⟨b,off,none⟩ u/\g.I b/\v=.pointer (some ⟨b,off+o,none⟩)
 | .ptr i p,v=>i<g.n/\g.μ i=v/\v=.pointer (p.map λb=>⟨b,0,none⟩)
 | .hp i b o,v=>i<g.n/\g.μ i=.pointer (some ⟨b,0,none⟩)/\v=.pointer (some ⟨b,o,none⟩)
 | .mob b,v=>v=.map (some b)
 | .sub i T lo,v=>i<g.n/\v=Aij (g.μ i) lo (sz Y.toUS T)/\∃a len cap,g.μ i=.slice a len cap/\lo<=len
 | .val u,v=>v=u
 | .ifc t T x,v=>∃u,v=.iface t u/\rp Y.toUS T g.I g.w u x
 | .fn as rs F,v=>FvR Y as rs F g.I g.w v
 | .fbx as rs F,v=>FbR Y as rs F g.I g.w v
theorem AR.mono{g g':Gst}(h:Le g g'):∀{a:AV Y}{v:Value},AR g a v->AR g' a v
 | .dat _ _,_,r=>Ig h.ext r
 | .nat _,_,r=>r
 | .prp _ _,_,r=>r
 | .own i,_,⟨r1,r2⟩=>⟨Nat.lt_of_lt_of_le r1 h.n,by rw[h.μ i r1];exact r2⟩
 | .adr i _,_,⟨r1,r2⟩=>⟨Nat.lt_of_lt_of_le r1 h.n,by rw[h.μ i r1];exact r2⟩
 | .el i _ _ _,_,⟨r1,r2⟩=>⟨Nat.lt_of_lt_of_le r1 h.n,by rw[h.μ i r1];exact r2⟩
 | .del _ _ _,_,⟨b,off,u,r1,r2,r3,r4⟩=>⟨b,off,u,Ig h.ext r1,E3.mono h.ext r3 r2,h.ext.sub b r3,r4⟩
 | .ptr i _,_,⟨r1,r2,r3⟩=>⟨Nat.lt_of_lt_of_le r1 h.n,by rw[h.μ i r1];exact r2,r3⟩
 | .hp i _ _,_,⟨r1,r2,r3⟩=>⟨Nat.lt_of_lt_of_le r1 h.n,by rw[h.μ i r1];exact r2,r3⟩
 | .mob _,_,r=>r
 | .sub i _ _,_,⟨r1,r2⟩=>⟨Nat.lt_of_lt_of_le r1 h.n,by rw[h.μ i r1];exact r2⟩
 | .val _,_,r=>r
 | .ifc _ _ _,_,⟨u,r1,r2⟩=>⟨u,r1,Ig h.ext r2⟩
 | .fn _ _ _,_,r=>FvR.mono Y h.ext r
 | .fbx _ _ _,_,r=>FbR.mono Y h.ext r
def SR(g:Gst)(i:Nat):Seg Y->Own->Prop
 | .blk cs,A=>∃b arr e,A=[(b,.cells arr e (0,0))]/\g.μ i=.pointer (some ⟨b,0,none⟩)/\F2 (λa v=>AR g a v/\v.oneCell'=true) cs arr.toList
 | .sl t xs,A=>OSl Y t g.I g.w A (g.μ i) xs
 | .mp k e m,A=>OMp Y k e g.I g.w A (g.μ i) m
 | .tp l,A=>A=[]/\∃vs:List Value,g.μ i=.tuple ⟨vs⟩/\F2 (AR g) l vs
 | .ag cs,A=>A=[]/\∃vs:List Value,g.μ i=.agg ⟨vs⟩/\F2 (λa v=>AR g a v/\v.oneCell'=true) cs vs
 | .clo f l m,A=>A=[]/\∃vs us:List Value,g.μ i=.func (.func f) ⟨vs⟩ ⟨us⟩/\F2 (AR g) l vs/\F2 (AR g) m us
theorem SR.mono{g g':Gst}(h:Le g g'){i:Nat}(hi:i<g.n):∀{s:Seg Y}{A:Own},SR g i s A->SR g' i s A
 | .blk _,_,⟨b,arr,e,r1,r2,r3⟩=>⟨b,arr,e,r1,by rw[h.μ i hi];exact r2,r3.mono λ_ _ r=>⟨r.1.mono h,r.2⟩⟩
 | .sl _ _,_,r=>by show OSl _ _ _ _ _ _ _;rw[h.μ i hi];exact @Cc.mono _ (RT _ _) _ _ _ _ _ _ _ h.ext r
 | .mp _ _ _,_,r=>by show OMp _ _ _ _ _ _ _ _;rw[h.μ i hi];exact @Dz.mono _ _ (RT _ _) (RT _ _) _ _ _ _ _ _ _ r h.ext
 | .tp _,_,⟨r1,vs,r2,r3⟩=>⟨r1,vs,by rw[h.μ i hi];exact r2,r3.mono λ_ _ r=>r.mono h⟩
 | .ag _,_,⟨r1,vs,r2,r3⟩=>⟨r1,vs,by rw[h.μ i hi];exact r2,r3.mono λ_ _ r=>⟨r.1.mono h,r.2⟩⟩
 | .clo _ _ _,_,⟨r1,vs,us,r2,r3,r4⟩=>⟨r1,vs,us,by rw[h.μ i hi];exact r2,r3.mono λ_ _ r=>r.mono h,r4.mono λ_ _ r=>r.mono h⟩
def SgR(g:Gst):List (Nat×Seg Y)->Own->Prop
 | [],A=>A=[]
 |p::l,A=>∃A1 A2,A=A1++A2/\p.1<g.n/\SR g p.1 p.2 A1/\SgR g l A2
theorem SgR.mono{g g':Gst}(h:Le g g'):∀{l:List (Nat×Seg Y)}{A:Own},SgR g l A->SgR g' l A
 | [],_,r=>r
 |_::_,_,⟨A1,A2,r1,r2,r3,r4⟩=>⟨A1,A2,r1,Nat.lt_of_lt_of_le r2 h.n,r3.mono h r2,SgR.mono h r4⟩
def lkS:List (Nat×Seg Y)->Nat->Option (Seg Y)
 | [],_=>none
 |p::l,i=>if p.1=i then some p.2 else lkS l i
def Kc:List (Nat×Seg Y)->Nat->List (Nat×Seg Y)
 | [],_=>[]
 |p::l,i=>if p.1=i then l else p::Kc l i
def lkF:List (Nat×AV Y)->Nat->Option (AV Y)
 | [],_=>none
 |p::l,i=>if p.1=i then some p.2 else lkF l i
theorem SgR.take{g:Gst}{i:Nat}{s:Seg Y}:∀{l:List (Nat×Seg Y)}{A:Own},SgR g l A->lkS l i=some s->∃A1 A2,A.Perm (A1++A2)/\i<g.n/\SR g i s A1/\SgR g (Kc l i) A2
 | [],_,_,h=>by simp [lkS]at h
 |p::l,A,⟨A1,A2,h1,h2,h3,h4⟩,h=>by
  unfold lkS at h;by_cases hp:p.1=i
  .rw[if_pos hp]at h;cases h;subst hp;exact⟨A1,A2,h1▸List.Perm.refl _,h2,h3,by rw[Kc,if_pos rfl];exact h4⟩
  .rw[if_neg hp]at h;obtain⟨B1,B2,k1,k2,k3,k4⟩:=SgR.take h4 h;refine⟨B1,A1++B2,?_,k2,k3,by rw[Kc,if_neg hp];exact⟨A1,B2,rfl,h2,h3,k4⟩⟩;subst h1;refine(k1.append_left A1).trans ?_;rw[<-List.append_assoc,<-List.append_assoc];exact List.perm_append_comm.append_right _
def HR(g:Gst)(H:HH Y)(sg:List (Nat×Seg Y))(AH:Own):Option (Opn Y)->Prop
 |none=>HpR (HK' Y) g.I g.w H AH
 |some o=>HpX (HK' Y) g.I g.w H o.b AH/\(∀x,o.x=some x->H o.b=some (.st o.n x))/\o.i<g.n/\g.μ o.i=.pointer (some ⟨o.b,0,none⟩)
theorem HR.mono{g g':Gst}(h:Le g g'){H:HH Y}{sg sg':List (Nat×Seg Y)}{AH:Own}:∀{o:Option (Opn Y)},HR g H sg AH o->HR g' H sg' AH o
 |none,r=>HpR.mono r h.ext
 |some _,⟨r1,r2,r3,r4⟩=>⟨r1.mono h.ext,r2,Nat.lt_of_lt_of_le r3 h.n,by rw[h.μ _ r3];exact r4⟩
def HsR(g:Gst)(l:List Hs):Prop:=∀h∈l,h.w<g.n/\g.μ h.w=.pointer (some ⟨h.b,0,none⟩)
theorem HsR.mono{g g':Gst}(h:Le g g'){l:List Hs}(r:HsR g l):HsR g' l:=λx hx=>⟨Nat.lt_of_lt_of_le (r x hx).1 h.n,by rw[h.μ _ (r x hx).1];exact(r x hx).2⟩
def lkH:List Hs->Nat->Option Hs
 | [],_=>none
 |h::l,w=>if h.w=w then some h else lkH l w
theorem Al4{w:Nat}{h:Hs}:∀{l:List Hs},lkH l w=some h->h∈l/\h.w=w
 | [],e=>by simp [lkH]at e
 |x::l,e=>by
  unfold lkH at e;by_cases hx:x.w=w
  .rw[if_pos hx]at e;cases e;exact⟨List.mem_cons_self,hx⟩
  .rw[if_neg hx]at e;exact⟨List.mem_cons_of_mem _ (Al4 e).1,(Al4 e).2⟩
def inN(i:Nat):List Nat->Bool
 | []=>false
 |j::l=>Nat.beq i j ||inN i l
theorem Le.pt{g g':Gst}(h:Le g g'){l:List Nat}{f:Fr}(p:∀t,inN t l=true->f t=g.φ t):∀t,inN t l=true->f t=g'.φ t:=λt ht=>by rw[h.φ];exact p t ht
end
end
section
section
variable {Y:Sys}
structure RG(g0:Gst)(T:Own)(c:Cf Y)(f:Fr)(g:Gst)(AH A:Own):Prop where
 n:g.n=c.nx
 le:Ext g0.I g0.w g.I g.w
 st:St g.I g.w (AH++(A++T))
 hr:HR g c.H c.sg AH c.op
 sg:SgR g c.sg A
 hs:HsR g c.hs
 pt:∀t,inN t c.pt=true->f t=g.φ t
 fr:∀i a,lkF c.fr i=some a->AR g a (f i)
def Cf.set(c:Cf Y)(d:Nat)(a:AV Y):Cf Y:={c with fr:=(d,a)::c.fr}
variable {g0 g:Gst} {T AH A:Own} {c:Cf Y} {f:Fr} {a:AV Y} {v:Value}
theorem RG.set{N d:Nat}(h:RG g0 T c f g AH A)(hd:(Nat.blt d N&&!inN d c.pt)=true)(ha:AR g a v):RG g0 T (c.set d a) (upd N f d v) g AH A where
 n:=h.n
 le:=h.le
 st:=h.st
 hr:=h.hr
 sg:=h.sg
 hs:=h.hs
 pt t ht:=by
  simp only[Bool.and_eq_true,Bool.not_eq_true']at hd;have:t≠d:=λe=>by subst e;have ht':inN t c.pt=true:=ht;rw[ht']at hd;exact absurd hd.2 (by decide)
  rw[show upd N f d v t=f t from if_neg this];exact h.pt t ht
 fr i b hb:=by
  simp only[Bool.and_eq_true,Nat.blt_eq]at hd;have hd':d<N:=hd.1;unfold Cf.set lkF at hb;by_cases hi:d=i
  .subst hi;simp at hb;subst hb;simpa [upd,hd'] using ha
  .rw[if_neg hi]at hb;have:upd N f d v i=f i:=if_neg (Ne.symm hi);rw[this];exact h.fr i b hb
theorem RG.cons(h:RG g0 T c f g AH A){d:Nat}(ha:AR g a (f d)):RG g0 T (c.set d a) f g AH A where
 n:=h.n
 le:=h.le
 st:=h.st
 hr:=h.hr
 sg:=h.sg
 hs:=h.hs
 pt:=h.pt
 fr i b hb:=by
  unfold Cf.set lkF at hb;by_cases hi:d=i
  .subst hi;simp at hb;subst hb;exact ha
  .rw[if_neg hi]at hb;exact h.fr i b hb
def Gst.new(g:Gst)(w:World)(v:Value):Gst:={g with w:=w,n:=g.n+1,μ:=λj=>if j=g.n then v else g.μ j}
variable {w:World}
theorem Le.new(h:Ext g.I g.w g.I w):Le g (g.new w v):=⟨h,Nat.le_succ _,λi hi=>if_neg (Nat.ne_of_lt hi),rfl⟩
theorem Gst.Cz(g:Gst)(w:World)(v:Value):(g.new w v).μ g.n=v:=if_pos rfl
theorem Jj{B C:Own}(h:A.Perm (B++C))(AH:Own):(AH++(A++T)).Perm (B++(AH++(C++T))):=by refine((h.append_right T).append_left AH).trans ?_;rw[List.append_assoc,<-List.append_assoc AH,<-List.append_assoc B];exact List.perm_append_comm.append_right _
theorem RG.new(h:RG g0 T c f g AH A){w':World}{s:Seg Y}{A1:Own}(he:Ext g.I g.w g.I w')(hs:SR (g.new w' v) g.n s A1)(hst:St g.I w' (A1++(AH++(A++T)))):RG g0 T {c with sg:=(c.nx,s)::c.sg,nx:=c.nx+1} f (g.new w' v) AH (A1++A):=by have hle:=Le.new (v:=v) he;refine⟨by show g.n+1=c.nx+1;rw[h.n],h.le.trans hle.ext,hst.perm (Jj (List.Perm.refl _) AH).symm,h.hr.mono hle,⟨A1,A,rfl,by show c.nx<g.n+1;rw[h.n];omega,by rw[<-h.n];exact hs,h.sg.mono hle⟩,h.hs.mono hle,hle.pt h.pt,λj a hj=>(h.fr j a hj).mono hle⟩
def evA(c:Cf Y):Operand->Option (AV Y)
 | .tmp t=>lkF c.fr t
 | .const v=>some (.val v)
 | .global b=>some (.val (.pointer (some ⟨b,0,none⟩)))
 | .func q=>some (.val (.func (.func q) #[] #[]))
theorem RG.ev(h:RG g0 T c f g AH A){x:Operand}(ha:evA c x=some a):AR g a (ev f x):=by
 cases x with
 |tmp t=>exact h.fr t a ha
 |const v=>cases ha;exact rfl
 |global b=>cases ha;exact rfl
 |func q=>cases ha;exact rfl
def kno(c:Cf Y)(z:Operand)(b:Bool):Cf Y:=match z with
 | .tmp t=>c.set t (.val (.bool b))
 |_=>c
theorem Al6(h:RG g0 T c f g AH A){z:Operand}{b:Bool}(hz:ev f z=.bool b):RG g0 T (kno c z b) f g AH A:=by
 unfold kno;split
 .exact h.cons (a:=.val (.bool b)) hz
 .exact h
def asInt:AV Y->Option (IntKind×Int)
 | .dat (.int k) n=>some (k,n)
 | .nat j=>some (.i64,(j:Int))
 | .val (.int k n)=>some (k,n)
 |_=>none
theorem Jq{p:IntKind×Int}(h:asInt a=some p)(ha:AR g a v):v=.int p.1 p.2:=by
 unfold asInt at h;split at h
 .cases h;exact(Bq.1 ha).1
 .cases h;exact ha.1
 .cases h;exact ha
 .cases h
def A5t:AV Y->Prop
 | .dat (.int k) n=>InK k n
 | .nat j=>j<=9223372036854775807
 |_=>True
theorem A1k(ha:AR g a v):A5t a:=by
 unfold A5t;split
 .exact(Bq.1 ha).2
 .exact ha.2
 .trivial
inductive BV where
 |kn (b:Bool)
 |pr (p:Prop) (d:Decidable p)
def BV.val:BV->Bool
 | .kn b=>b
 | .pr p d=>@decide p d
def asB:AV Y->Option BV
 | .dat .bool b=>some (.pr (b=true) inferInstance)
 | .prp p d=>some (.pr p d)
 | .val (.bool b)=>some (.kn b)
 |_=>none
theorem U4{p:BV}(h:asB a=some p)(ha:AR g a v):v=.bool p.val:=by
 unfold asB at h;split at h
 .cases h;rename_i b;have:=Nt.1 ha;rw[this];cases b<;>rfl
 .cases h;exact ha
 .cases h;exact ha
 .cases h
def A1i:Option (AV Y)->Bool
 |some (.val (.bool _))=>false
 |some (.val _)=>true
 |_=>false
theorem Ast{a:Option (AV Y)}(h:A1i a=true)(ha:∀b,a=some b->AR g b v):∀b,v≠.bool b:=by
 intro b e;unfold A1i at h;split at h
 .cases h
 .rename_i u hu;have:v=u:=ha _ rfl;rw[this]at e;exact hu b (by rw[e])
 .cases h
def Amq:(t:Ty)->Value->Option (den Y.D t)
 | .int k,.int j n=>if j=k/\k.min<=n/\n<=k.max then some n else none
 | .bool,.bool b=>some b
 | .str,.string s=>if s.size<=9223372036854775807 then some s else none
 | .ptr,.pointer none=>some none
 | .mref,.map none=>some none
 | .sl _,.slice none 0 0=>some []
 |_,_=>none
variable {I:Reg}
theorem Akn:∀{t:Ty}{v:Value}{x:den Y.D t},Amq t v=some x->rp Y.toUS t I w v x:=by
 intro t v x h;unfold Amq at h;split at h
 .split at h
  .rename_i h1;cases h;exact Bq.2 ⟨by rw[h1.1],h1.2⟩
  .cases h
 .cases h;exact Nt.2 rfl
 .split at h
  .rename_i h1;cases h;exact Ta.2 ⟨rfl,h1⟩
  .cases h
 .cases h;exact Re.2 rfl
 .cases h;exact Q0.2 rfl
 .cases h;exact Abg.2 ⟨none,0,rfl,Nat.le_refl _,Nat.zero_le _,.inl rfl⟩
 .cases h
def Pr:List Ty->List Value->Option (List (Lf Y.D))
 | [],[]=>some []
 |t::ts,v::vs=>match Amq t v,Pr ts vs with
  |some x,some l=>some (⟨t,x⟩::l)
  |_,_=>none
 |_,_=>none
theorem Rx{I:Reg}{w:World}:∀{ts:List Ty}{vs:List Value}{l:List (Lf Y.D)},Pr ts vs=some l->F2 (λc(l:Lf Y.D)=>rp Y.toUS l.t I w c l.x) vs l
 | [],[],l,h=>by cases h;exact .nil
 |t::ts,v::vs,l,h=>by
  unfold Pr at h;split at h
  .rename_i x l' h1 h2;cases h;exact .cons (Akn h1) (Rx h2)
  .cases h
 | [],_::_,_,h=>by simp [Pr]at h
 |_::_,[],_,h=>by simp [Pr]at h
def Adx:(t:Ty)->Value->Option (den Y.D t)
 | .u n,.agg cs=>(Pr (Y.sig n) cs.toList).bind (Y.At3 n)
 |t,v=>Amq t v
variable {t:Ty}
theorem Ya{x:den Y.D t}(h:Adx t v=some x):rp Y.toUS t I w v x:=by
 unfold Adx at h;split at h
 .rename_i n cs;cases h1:Pr (Y:=Y) (Y.sig n) cs.toList with
  |none=>rw[h1]at h;cases h
  |some l=>
   rw[h1]at h;have h2:=Y.Aa3 n l x h;exact Lc.2 ⟨cs.toList,rfl,by rw[h2];exact Rx h1⟩
 .exact Akn h
def asD(t:Ty):AV Y->Option (den Y.D t)
 | .dat t' x=>match Ty.dec t' t with
  | .isTrue h=>some (h▸x)
  | .isFalse _=>none
 | .nat j=>match t with
  | .int .i64=>some (j:Int)
  |_=>none
 | .prp p d=>match t with
  | .bool=>some (@decide p d)
  |_=>none
 | .ptr _ p=>match t with
  | .ptr=>some p
  |_=>none
 | .hp _ b o=>match t,o with
  | .ptr,0=>some (some b)
  |_,_=>none
 | .val v=>Adx t v
 |_=>none
theorem E2{x:den Y.D t}(h:asD t a=some x)(ha:AR g a v):rp Y.toUS t g.I g.w v x:=by
 unfold asD at h;split at h
 .split at h
  .rename_i e _;subst e;cases h;exact ha
  .cases h
 .split at h
  .cases h;refine Bq.2 ⟨ha.1,?_⟩;have h1:IntKind.i64.min=-9223372036854775808:=by decide
   have h2:IntKind.i64.max=9223372036854775807:=by decide
   have:=ha.2;unfold InK;omega
  .cases h
 .split at h
  .cases h;exact Nt.2 ha
  .cases h
 .split at h
  .cases h;exact Re.2 ha.2.2
  .cases h
 .split at h
  .cases h;exact Re.2 ha.2.2
  .cases h
 .obtain rfl:v=_:=ha;exact Ya h
 .cases h
def Ao0:(t:Ty)->den Y.D t->List (Lf Y.D)
 | .u n,x=>Y.flat n x
 | .int k,x=>[⟨.int k,x⟩]
 | .bool,x=>[⟨.bool,x⟩]
 | .str,x=>[⟨.str,x⟩]
 | .ptr,x=>[⟨.ptr,x⟩]
 | .mref,x=>[⟨.mref,x⟩]
 | .sl e,x=>[⟨.sl e,x⟩]
def Ajj:(t:Ty)->List (Lf Y.D)->Option (den Y.D t)
 | .u n,l=>Y.At3 n l
 |t,[⟨t',x⟩]=>match Ty.dec t' t with
  | .isTrue h=>some (h▸x)
  | .isFalse _=>none
 |_,_=>none
theorem Aoz{x:den Y.D t}(h:rp Y.toUS t I w v x):F2 (λc(l:Lf Y.D)=>rp Y.toUS l.t I w c l.x) v.cells.toList (Ao0 t x):=by
 cases t with
 |u n=>obtain⟨cs,rfl,h2⟩:=Lc.1 h;exact h2
 |_=>rw[(Ph rfl h).1];exact .cons h .nil
theorem Am8{cs:List Value}{l:List (Lf Y.D)}{x:den Y.D t}(h:Ajj t l=some x)(hl:F2 (λc(l:Lf Y.D)=>rp Y.toUS l.t I w c l.x) cs l):∃v,v.cells=⟨cs⟩/\rp Y.toUS t I w v x/\(if isU t then v=.agg ⟨cs⟩ else ∃u,v=u/\cs=[u]):=by
 unfold Ajj at h;split at h
 .rename_i n;have h2:=Y.Aa3 n _ x h;exact⟨.agg ⟨cs⟩,rfl,Lc.2 ⟨cs,rfl,by rw[h2];exact hl⟩,rfl⟩
 .rename_i t1 t' y hne;split at h
  .rename_i e _;subst e;cases h;cases hl with
   |cons h1 h2=>
    cases h2;rename_i c;have hlf:t'.leaf=true:=by cases t'<;>first|rfl|exact absurd rfl (hne _)
    refine⟨c,(Ph hlf h1).1,h1,?_⟩;cases t'<;>first|exact⟨c,rfl,rfl⟩|exact absurd rfl (hne _)
  .cases h
 .cases h
end
end
section
def chk(b:Bool)(p:Prop):Prop:=match b with
 |true=>p
 |false=>False
theorem Bj{b:Bool}{p:Prop}(h:chk b p):b=true/\p:=by
 cases b with
 |true=>exact⟨rfl,h⟩
 |false=>exact h.elim
structure Sx(g:Gst)(w':World):Prop where
 ext:Ext g.I g.w g.I w'
theorem Sx.Cq{g:Gst}{w':World}(h:Sx g w'):∀b,g.I b->w'.heap[b]?=g.w.heap[b]?:=h.ext.Cq
theorem Sx.refl(g:Gst):Sx g g.w:=⟨Ext.refl _ _⟩
theorem Sx.points{g:Gst}{w':World}(h:Sx g w'){a:Addr}{v:Value}(ha:g.I a.block)(hp:E3 g.w a v):E3 w' a v:=⟨hp.1,λj hj=>(cell?_of_heap (a:=⟨a.block,a.off+j,none⟩) (h.Cq _ ha)).trans (hp.2 j hj)⟩
def Yld(P:Program)(f:Fr)(op:Op)(ty:TypeId)(v:Value)(w:World):Prop:=∀dst pos af gd,(execOp (ev f) ⟨dst,op,ty,pos,af,gd⟩).run P w=.ok (.value v) w
theorem Bb{P:Program}{f:Fr}{op:Op}{ty:TypeId}{v:Value}{w:World}(h:∀(pos:String)(af:Array Edge)(K:Fr->World->Prop),K (put 1 f (some 0) v) w->WL P 1 #[] (λ_ _=>False) true K [⟨some 0,op,ty,pos,af,none⟩] f w):Yld P f op ty v w:=by
 intro dst pos af gd;have h1:=h pos af (λf' w'=>f' 0=v/\w'=w) ⟨rfl,rfl⟩;simp only[WL,Region.wanted,if_true]at h1;obtain⟨v',w2,hr,e1,e2⟩:=Amw _ h1;have hv:v'=v:=by simpa [put,upd] using e1
 rw[hv,e2]at hr;exact hr
section
variable {Y:Sys}
def A7p(P:Program)(t:TypeId)(i:Nat):Option Nat:=match P.underlying t with
 |some (.struct fs)=>(fs[i]?).map (·.offset)
 |_=>none
def slI(P:Program)(t:TypeId):Option (TypeId×Nat):=match P.underlying t with
 |some (.slice e)=>(P.info? e).map λi=>(e,i.bytes)
 |_=>none
def ixA(a:AV Y)(len:Nat)(k:(j:Nat)->j<len->Prop):Prop:=match a with
 | .nat j=>∃h:j<len,k j h
 |a=>match asInt a with
  |some (_,n)=>(A5t a->0<=n)/\∃h:n.toNat<len,k n.toNat h
  |none=>False
variable {g:Gst} {a:AV Y}
theorem Al7{v:Value}{len:Nat}{k:(j:Nat)->j<len->Prop}(ha:AR g a v)(h:ixA a len k):∃kd j,v=.int kd (j:Nat)/\∃hj:j<len,k j hj:=by
 unfold ixA at h;split at h
 .obtain⟨h1,h2⟩:=h;exact⟨_,_,ha.1,h1,h2⟩
 .split at h
  .rename_i kd n hn;obtain⟨h0,h1,h2⟩:=h;have:=Jq hn ha;refine⟨kd,n.toNat,?_,h1,h2⟩;rw[this,Int.toNat_of_nonneg (h0 (A1k ha))]
  .exact h.elim
def isK:Operand->Bool
 | .const _=>true
 |_=>false
def R6(x:Operand)(a:AV Y)(p:Prop):Prop:=match isK x with
 |true=>p
 |false=>match a with
  | .dat (.int k) n=>InK k n->p
  | .nat j=>j<=9223372036854775807->p
  |_=>p
variable {x:Operand}
theorem Jf{v:Value}{p:Prop}(ha:AR g a v)(h:R6 x a p):p:=by
 unfold R6 at h;split at h
 .exact h
 .split at h
  .exact h (Bq.1 ha).2
  .exact h ha.2
  .exact h
def Ai8:BinOp->Int->Int->(p:Prop)×(Decidable p)
 | .eql,a,b=>⟨a=b,inferInstance⟩
 | .neq,a,b=>⟨¬a=b,inferInstance⟩
 | .lss,a,b=>⟨a<b,inferInstance⟩
 | .leq,a,b=>⟨a<=b,inferInstance⟩
 | .gtr,a,b=>⟨b<a,inferInstance⟩
 |_,a,b=>⟨b<=a,inferInstance⟩
def arI(op:BinOp)(k:IntKind)(a b:Int)(K:Int->Prop):Prop:=match op with
 | .add=>InK k (a+b)/\K (a+b)
 | .sub=>InK k (a-b)/\K (a-b)
 | .mul=>InK k (a*b)/\K (a*b)
 | .quo=>b≠0/\InK k (a.tdiv b)/\K (a.tdiv b)
 | .rem=>b≠0/\InK k (a.tmod b)/\K (a.tmod b)
 | .and=>K (D0 .and k a b)
 | .or=>K (D0 .or k a b)
 | .xor=>K (D0 .xor k a b)
 |_=>False
def arW(op:BinOp)(k:IntKind)(a b:Int)(K:Int->Prop):Prop:=match op with
 | .add=>K (k.wrap (a+b))
 | .sub=>K (k.wrap (a-b))
 | .mul=>K (k.wrap (a*b))
 | .quo=>b≠0/\InK k (a.tdiv b)/\K (a.tdiv b)
 | .rem=>b≠0/\InK k (a.tmod b)/\K (a.tmod b)
 | .and=>K (D0 .and k a b)
 | .or=>K (D0 .or k a b)
 | .xor=>K (D0 .xor k a b)
 |_=>False
def A9m:IntKind->Bool
 | .i64=>true
 |_=>false
variable {P:Program} {f:Fr} {op:BinOp} {kd:IntKind} {b:Int} {K:Int->Prop} {y:Operand} {t u ty:TypeId}
theorem A62{a:Int}(h:arI op kd a b K)(hx:ev f x=.int kd a)(hy:ev f y=.int kd b):∃n,K n/\InK kd n/\∀w,Yld P f (.binOp op t x y u) ty (.int kd n) w:=by
 unfold arI at h;split at h
 .exact⟨_,h.2,h.1,λw=>Bb λpos af K' hk=>Asm hx hy (by rw[Hc h.1];exact hk)⟩
 .exact⟨_,h.2,h.1,λw=>Bb λpos af K' hk=>A26 hx hy (by rw[Hc h.1];exact hk)⟩
 .exact⟨_,h.2,h.1,λw=>Bb λpos af K' hk=>A29 hx hy (by rw[Hc h.1];exact hk)⟩
 .exact⟨_,h.2.2,h.2.1,λw=>Bb λpos af K' hk=>Axj hx hy h.1 h.2.1 hk⟩
 .exact⟨_,h.2.2,h.2.1,λw=>Bb λpos af K' hk=>Axi hx hy h.1 h.2.1 hk⟩
 .exact⟨_,h,X4,λw=>Bb λpos af K' hk=>A3a hx hy hk⟩
 .exact⟨_,h,X4,λw=>Bb λpos af K' hk=>A7s hx hy hk⟩
 .exact⟨_,h,X4,λw=>Bb λpos af K' hk=>A25 hx hy hk⟩
 .exact h.elim
theorem Azq{a:Int}(h:arW op kd a b K)(hx:ev f x=.int kd a)(hy:ev f y=.int kd b):∃n,K n/\InK kd n/\∀w,Yld P f (.binOp op t x y u) ty (.int kd n) w:=by
 unfold arW at h;split at h
 .exact⟨_,h,Nv _ _,λw=>Bb λpos af K' hk=>Asm hx hy hk⟩
 .exact⟨_,h,Nv _ _,λw=>Bb λpos af K' hk=>A26 hx hy hk⟩
 .exact⟨_,h,Nv _ _,λw=>Bb λpos af K' hk=>A29 hx hy hk⟩
 .exact⟨_,h.2.2,h.2.1,λw=>Bb λpos af K' hk=>Axj hx hy h.1 h.2.1 hk⟩
 .exact⟨_,h.2.2,h.2.1,λw=>Bb λpos af K' hk=>Axi hx hy h.1 h.2.1 hk⟩
 .exact⟨_,h,X4,λw=>Bb λpos af K' hk=>A3a hx hy hk⟩
 .exact⟨_,h,X4,λw=>Bb λpos af K' hk=>A7s hx hy hk⟩
 .exact⟨_,h,X4,λw=>Bb λpos af K' hk=>A25 hx hy hk⟩
 .exact h.elim
theorem Atl(ho:W1 op=true){a:Int}(hx:ev f x=.int kd a)(hy:ev f y=.int kd b)(w:World):Yld P f (.binOp op t x y u) ty (.bool (@decide (Ai8 op a b).1 (Ai8 op a b).2)) w:=Bb λpos af K' hk=>by
 cases op<;>first|(simp [W1]at ho;done)|skip
 .exact A4v hx hy hk
 .refine Axk hx hy ?_;have:(!decide (a=b))=@decide (Ai8 .neq a b).1 (Ai8 .neq a b).2:=by simp only[Ai8];by_cases h:a=b<;>simp [h]
  rw[this];exact hk
 .exact Axl hx hy hk
 .exact A4s hx hy hk
 .exact A4t hx hy hk
 .exact A4u hx hy hk
def shI(op:BinOp)(k:IntKind)(a b:Int)(K:Int->Prop):Prop:=match op with
 | .shl=>0<=b/\K (k.wrap (a*2^(min b.toNat k.bits)))
 | .shr=>0<=b/\K (a.fdiv (2^(min b.toNat k.bits)))
 |_=>False
def A9l:BinOp->Bool
 | .shl | .shr=>true
 |_=>false
theorem A33{kd2:IntKind}{a:Int}(h:shI op kd a b K)(hx:ev f x=.int kd a)(hy:ev f y=.int kd2 b)(ha:op=.shr->InK kd a):∃n,K n/\InK kd n/\∀w,Yld P f (.binOp op t x y u) ty (.int kd n) w:=by
 unfold shI at h;split at h
 .exact⟨_,h.2,Nv _ _,λw=>Bb λpos af K' hk=>A7r hx hy h.1 hk⟩
 .exact⟨_,h.2,A1l (ha rfl) h.1,λw=>Bb λpos af K' hk=>A7q hx hy h.1 hk⟩
 .exact h.elim
def Ka(P:Program)(t:TypeId)(q:TypeDesc->Bool):Bool:=match P.underlying t with
 |some d=>q d
 |none=>false
def Atg:TypeDesc->Bool
 | .bool=>true
 |_=>false
def A14:TypeDesc->Bool
 | .pointer _=>true
 |_=>false
def A13:TypeDesc->Bool
 | .string=>true
 |_=>false
def Ay6(k:IntKind):TypeDesc->Bool
 | .int j=>j==k
 |_=>false
theorem Ajk(h:Ka P t Atg=true):P.underlying t=some .bool:=by
 unfold Ka at h;split at h
 .rename_i d hd;cases d<;>simp [Atg]at h;exact hd
 .cases h
theorem Am9(h:Ka P t A13=true):P.underlying t=some .string:=by
 unfold Ka at h;split at h
 .rename_i d hd;cases d<;>simp [A13]at h;exact hd
 .cases h
theorem Ana(h:Ka P t A14=true):∃e,P.underlying t=some (.pointer e):=by
 unfold Ka at h;split at h
 .rename_i d hd;cases d<;>simp [A14]at h;exact⟨_,hd⟩
 .cases h
theorem Afw{k:IntKind}(h:Ka P t (Ay6 k)=true):P.underlying t=some (.int k):=by
 unfold Ka at h;split at h
 .rename_i d hd;cases d<;>simp [Ay6]at h;subst h;exact hd
 .cases h
def asS(a:AV Y):Option ByteArray:=asD .str a
def asP(a:AV Y):Option (Option Nat):=asD .ptr a
def dFn:TypeDesc->Bool
 | .func _ _ _=>true
 |_=>false
theorem Ary(h:Ka P t dFn=true):∃a b c,P.underlying t=some (.func a b c):=by
 unfold Ka at h;split at h
 .rename_i d hd;cases d<;>simp [dFn]at h;exact⟨_,_,_,hd⟩
 .cases h
theorem Wl{w:World}{g:Fn}{p q:Array Value}(n:Nat)(ht:∃a b c,P.underlying t=some (.func a b c)):(Op.equalIn (n+1) t (.func g p q) .nilFunc).run P w=.ok false w:=by obtain⟨a1,a2,a3,ht⟩:=ht;simp [Op.equalIn,run_underlying ht]
theorem Amz{g:Fn}{p q:Array Value}{b:Bool}(ht:∃a b c,P.underlying t=some (.func a b c))(hx:ev f x=.func g p q)(hy:ev f y=.nilFunc)(ho:(op=.eql/\b=false)∨(op=.neq/\b=true))(w:World):Yld P f (.binOp op t x y u) ty (.bool b) w:=by
 intro dst pos af gd;have hg:∀op:BinOp,(eqGuard op t x y (.func g p q) .nilFunc).run P w=.ok () w:=λop=>by simp only[eqGuard];cases op<;>simp
 rcases ho with ⟨rfl,rfl⟩|⟨rfl,rfl⟩
 .simp only[execOp,hx,hy,Sem.run_bind,hg,Result.andThen_ok,binOp,Op.equal,Op.maxDepth,Wl 9999 ht,Sem.run_pure]
 .simp only[execOp,hx,hy,Sem.run_bind,hg,Result.andThen_ok,binOp,Op.equal,Op.maxDepth,Wl 9999 ht,Sem.run_pure,Bool.not_false]
def eqX(P:Program)(op:BinOp)(t:TypeId)(a b:AV Y)(k:AV Y->Prop):Prop:=match asB a,asB b with
 |some p,some q=>match op with
  | .eql=>chk (Ka P t Atg) (k (.dat .bool (p.val==q.val)))
  | .neq=>chk (Ka P t Atg) (k (.dat .bool (!(p.val==q.val))))
  |_=>False
 |_,_=>match asS a,asS b with
  |some s,some r=>match op with
   | .eql=>k (.prp (s=r) inferInstance)
   | .neq=>k (.prp (¬s=r) inferInstance)
   |_=>False
  |_,_=>match asP a,b with
   |some p,.val (.pointer none)=>match op with
    | .eql=>chk (Ka P t A14) (k (.prp (p=none) inferInstance))
    | .neq=>chk (Ka P t A14) (k (.prp (¬p=none) inferInstance))
    |_=>False
   |_,_=>match a,b with
    | .fn _ _ _,.val .nilFunc=>match op with
     | .eql=>chk (Ka P t dFn) (k (.val (.bool false)))
     | .neq=>chk (Ka P t dFn) (k (.val (.bool true)))
     |_=>False
    |_,_=>False
theorem A57{b:AV Y}{k:AV Y->Prop}(h:eqX P op t a b k)(ha:AR g a (ev f x))(hb:AR g b (ev f y)):∃v c,k c/\AR g c v/\∀w,Yld P f (.binOp op t x y u) ty v w:=by
 unfold eqX at h;split at h
 .rename_i p q hp hq;have hx:=U4 hp ha;have hy:=U4 hq hb;split at h
  .obtain⟨ht,h⟩:=Bj h;exact⟨_,_,h,Nt.2 rfl,λw=>Bb λpos af K' hk=>A74 hx hy (Ajk ht) hk⟩
  .obtain⟨ht,h⟩:=Bj h;exact⟨_,_,h,Nt.2 rfl,λw=>Bb λpos af K' hk=>A7w hx hy (Ajk ht) hk⟩
  .exact h.elim
 .split at h
  .rename_i s r hs hr;have hx:=(Ta.1 (E2 hs ha)).1;have hy:=(Ta.1 (E2 hr hb)).1;split at h
   .exact⟨_,_,h,rfl,λw=>Bb λpos af K' hk=>A71 hx hy hk⟩
   .exact⟨_,_,h,rfl,λw=>Bb λpos af K' hk=>A7t hx hy hk⟩
   .exact h.elim
  .split at h
   .rename_i p hp _ _;have hx:rep (α:=Option Nat) g.I g.w (ev f x) p:=Re.1 (E2 hp ha);split at h
    .obtain⟨ht,h⟩:=Bj h;exact⟨_,_,h,rfl,λw=>Bb λpos af K' hk=>A72 (I:=g.I) (Ana ht) hx rfl hb hk⟩
    .obtain⟨ht,h⟩:=Bj h;exact⟨_,_,h,rfl,λw=>Bb λpos af K' hk=>A7v (I:=g.I) (Ana ht) hx rfl hb hk⟩
    .exact h.elim
   .split at h
    .obtain⟨⟨q,first,cap,hx⟩,_⟩:=ha;have hy:ev f y=.nilFunc:=hb;split at h
     .obtain⟨ht,h⟩:=Bj h;exact⟨_,_,h,rfl,λw=>Amz (Ary ht) hx hy (.inl ⟨rfl,rfl⟩) w⟩
     .obtain⟨ht,h⟩:=Bj h;exact⟨_,_,h,rfl,λw=>Amz (Ary ht) hx hy (.inr ⟨rfl,rfl⟩) w⟩
     .exact h.elim
    .exact h.elim
def eqU(op:BinOp)(t:TypeId)(a b:AV Y)(k:AV Y->Prop):Prop:=match a with
 | .dat (.u n) x=>match asD (.u n) b with
  |some y=>chk (Y.eqs t (.u n)) (match op with
   | .eql=>k (.prp (x=y) (G5 Y.toUS Y.deq (.u n) x y))
   | .neq=>k (.prp (¬x=y) (@instDecidableNot _ (G5 Y.toUS Y.deq (.u n) x y)))
   |_=>False)
  |none=>False
 |_=>False
theorem A58{b:AV Y}{k:AV Y->Prop}(h:eqU op t a b k)(ha:AR g a (ev f x))(hb:AR g b (ev f y)):∃v c,k c/\AR g c v/\∀w,Yld Y.P f (.binOp op t x y u) ty v w:=by
 unfold eqU at h;split at h
 .rename_i n d;split at h
  .rename_i e he;obtain⟨hq,h⟩:=Bj h;obtain⟨h1,h2⟩:=Y.A3i t _ hq;have hv:rp Y.toUS (.u n) g.I g.w (ev f x) d:=ha;have hu:=E2 he hb;obtain⟨cs,hcs,_⟩:=Lc.1 hv;obtain⟨ds,hds,_⟩:=Lc.1 hu;have hg:∀(op:BinOp)(w:World),(eqGuard op t x y (ev f x) (ev f y)).run Y.P w=.ok () w:=λop w=>by rw[hcs,hds];simp only[eqGuard];cases op<;>simp [Sem.run_bind,run_program,h1]
   have hE:=h2 _ _ _ _ _ _ hv hu;rw[hcs,hds]at hE hg;split at h
   .exact⟨_,_,h,rfl,λw dst pos af gd=>by simp only[execOp,hcs,hds,Sem.run_bind,hg,Result.andThen_ok,binOp,hE w,Sem.run_pure]⟩
   .exact⟨_,_,h,rfl,λw dst pos af gd=>by
     have:(!(@decide (d=e) (G5 Y.toUS Y.deq (.u n) d e)))=@decide (¬d=e) (@instDecidableNot _ (G5 Y.toUS Y.deq (.u n) d e)):=by
      by_cases hde:d=e
      .rw[@decide_eq_true _ (G5 Y.toUS Y.deq (.u n) d e) hde,@decide_eq_false _ (@instDecidableNot _ (G5 Y.toUS Y.deq (.u n) d e)) λhn=>hn hde];rfl
      .rw[@decide_eq_false _ (G5 Y.toUS Y.deq (.u n) d e) hde,@decide_eq_true _ (@instDecidableNot _ (G5 Y.toUS Y.deq (.u n) d e)) hde];rfl
     simp only[execOp,hcs,hds,Sem.run_bind,hg,Result.andThen_ok,binOp,hE w,Sem.run_pure,this]⟩
   .exact h.elim
  .exact h.elim
 .exact h.elim
end
end
section
section
variable {Y:Sys}
variable {w:World} {b off o:Nat} {u v:Value}
theorem Agf{n:Nat}(hp:E3 w ⟨b,off,none⟩ u)(hv:v.cells.toList=(u.cells.toList.drop o).take n):E3 w ⟨b,off+o,none⟩ v:=by
 refine⟨rfl,λj hj=>?_⟩;have h1:v.cells[j]?=((u.cells.toList.drop o).take n)[j]?:=by rw[<-hv,Array.getElem?_toList]
 have hjn:j<n/\o+j<u.cells.size:=by
  have:j<((u.cells.toList.drop o).take n).length:=by rw[<-hv];simpa using hj
  simp at this;omega
 have h2:((u.cells.toList.drop o).take n)[j]?=u.cells[o+j]?:=by rw[List.getElem?_take_of_lt hjn.1,List.getElem?_drop,Array.getElem?_toList]
 have:=hp.2 (o+j) hjn.2;rw[h1,h2,<-this];show w.cell? ⟨b,off+o+j,none⟩=w.cell? ⟨b,off+(o+j),none⟩;rw[Nat.add_assoc]
variable {t:TypeId}
theorem Vb{P:Program}{agg:Bool}{n:Nat}{a:Addr}(ht:tyB P t agg n=true)(hp:E3 w a v)(hc:v.cells.size=n)(hf:if agg then ∃cs,v=.agg cs else v.cells=#[v]):(loadVar t a).run P w=.ok v w:=by
 simp only[loadVar,Sem.run_bind,(K4 (w:=w) ht).1,Result.andThen_ok];cases agg with
 |true=>
  simp only[if_true]at hf;obtain⟨cs,rfl⟩:=hf;simp only[if_true,Sem.run_bind,(K4 (w:=w) ht).2,Result.andThen_ok];rw[<-hc,Wi hp];rfl
 |false=>
  simp only[Bool.false_eq_true,if_false]at hf;have h2:=hf;have h0:=hp.2 0 (by rw[h2];simp);obtain⟨b,o,s⟩:=a;obtain⟨hs,_⟩:=hp;simp only at hs;subst hs;rw[h2]at h0;simp only[Nat.add_zero,List.getElem?_toArray,List.getElem?_cons_zero]at h0;simp [h0]
variable {T:Ty}
theorem A0p{I:Reg}{x:den Y.D T}(h:rp Y.toUS T I w v x):if isU T then ∃cs,v=.agg cs else v.cells=#[v]:=(RT Y.toUS T).form h
variable {f:Fr} {ty:TypeId} {x:Operand}
theorem Aau{I:Reg}{w':World}{y:den Y.D T}{a:Addr}(ht:tyB Y.P t (isU T) (sz Y.toUS T)=true)(hp:E3 w' a v)(hr:rp Y.toUS T I w v y)(hx:ev f x=.pointer (some a)):Yld Y.P f (.load t x) ty v w':=λdst pos af gd=>by simp [execOp,Instr.loadAt,hx,Instr.sureAddr,Vb ht hp (Ano hr) (A0p hr)]
def ldD(t:TypeId)(T:Ty)(d:den Y.D T)(o:Nat)(k:AV Y->Prop):Prop:=match Y.ty t with
 |some T'=>chk (tyB Y.P t (isU T') (sz Y.toUS T')) (match o with
  |0=>match Ty.dec T T' with
   | .isTrue h=>k (.dat T' (h▸d))
   | .isFalse _=>match Ajj T' ((Ao0 T d).take (sz Y.toUS T')) with
    |some y=>k (.dat T' y)
    |none=>False
  |o=>match Ajj T' (((Ao0 T d).drop o).take (sz Y.toUS T')) with
   |some y=>k (.dat T' y)
   |none=>False)
 |none=>False
variable {g:Gst}
theorem Aop{T':Ty}{d:den Y.D T}{y:den Y.D T'}(ht:tyB Y.P t (isU T') (sz Y.toUS T')=true)(hr:rp Y.toUS T g.I g.w u d)(hp:E3 g.w ⟨b,off,none⟩ u)(hb:g.I b)(hx:ev f x=.pointer (some ⟨b,off+o,none⟩))(hy:Ajj T' (((Ao0 T d).drop o).take (sz Y.toUS T'))=some y):∃v,rp Y.toUS T' g.I g.w v y/\∀w',Sx g w'->Yld Y.P f (.load t x) ty v w':=by have hf:=((Aoz hr).drop o).take (sz Y.toUS T');obtain⟨v,hv,hry,_⟩:=Am8 hy hf;refine⟨v,hry,λw' hw'=>?_⟩;have hp':=hw'.points (a:=⟨b,off,none⟩) hb hp;exact Aau ht (Agf hp' (by rw[hv])) hry hx
theorem Aqs{d:den Y.D T}{k:AV Y->Prop}(h:ldD t T d o k)(hr:rp Y.toUS T g.I g.w u d)(hp:E3 g.w ⟨b,off,none⟩ u)(hb:g.I b)(hx:ev f x=.pointer (some ⟨b,off+o,none⟩)):∃v a,k a/\AR g a v/\∀w',Sx g w'->Yld Y.P f (.load t x) ty v w':=by
 unfold ldD at h;split at h
 .rename_i T' hT;obtain⟨ht,h⟩:=Bj h;split at h
  .split at h
   .rename_i e _;subst e;exact⟨u,_,h,hr,λw' hw'=>Aau ht (hw'.points (a:=⟨b,off,none⟩) hb hp) hr hx⟩
   .split at h
    .rename_i y hy;obtain⟨v,h1,h2⟩:=Aop (o:=0) ht hr hp hb hx hy;exact⟨v,_,h,h1,h2⟩
    .exact h.elim
  .split at h
   .rename_i y hy;obtain⟨v,h1,h2⟩:=Aop ht hr hp hb hx hy;exact⟨v,_,h,h1,h2⟩
   .exact h.elim
 .exact h.elim
theorem Ahd:∀(l:List Value)(s off:Nat)(cells:Array Value),off+s+l.length<=cells.size->((l.zipIdx s).foldl (λcs(p:Value×Nat)=>cs.setIfInBounds (off+p.2) p.1) cells).toList=cells.toList.take (off+s)++(l++cells.toList.drop (off+s+l.length))
 | [],s,off,cells,_=>by simp
 |x::l,s,off,cells,h=>by
  simp only[List.length_cons]at h;have ih:=Ahd l (s+1) off (cells.setIfInBounds (off+s) x) (by simp;omega);simp only[List.zipIdx_cons,List.foldl_cons];rw[ih];have hlt:off+s<cells.toList.length:=by simp;omega
  have e1:off+(s+1)=off+s+1:=by omega
  rw[Array.toList_setIfInBounds,e1,List.take_set,List.drop_set];have e2:off+s<off+s+1+l.length:=by omega
  rw[if_pos e2];have e3:(cells.toList.take (off+s+1)).set (off+s) x=cells.toList.take (off+s)++[x]:=by
   rw[List.take_succ_eq_append_getElem hlt,List.set_append_right _ _ (by simp;omega)];have hm:min (off+s) cells.size=off+s:=by simp at hlt;omega
   simp [List.length_take,hm]
  rw[e3,List.append_assoc,List.length_cons];have e4:off+s+1+l.length=off+s+(l.length+1):=by omega
  rw[e4];rfl
def Afh(a:AV Y)(ts:List Ty):Option (List (Lf Y.D)):=match a with
 | .dat (.u m) d=>some (Y.flat m d)
 | .val (.agg cs)=>Pr ts cs.toList
 |a=>match ts with
  | [t]=>match t.leaf,asD t a with
   |true,some x=>some [⟨t,x⟩]
   |_,_=>none
  |_=>none
theorem Ag1{a:AV Y}{ts:List Ty}{l:List (Lf Y.D)}(h:Afh a ts=some l)(ha:AR g a v):F2 (λc(l:Lf Y.D)=>rp Y.toUS l.t g.I g.w c l.x) v.cells.toList l:=by
 unfold Afh at h;split at h
 .cases h;obtain⟨cs,rfl,h2⟩:=Lc.1 ha;exact h2
 .obtain rfl:v=_:=ha;exact Rx h
 .split at h
  .split at h
   .rename_i hl hx;cases h;have hr:=E2 hx ha;rw[(Ph hl hr).1];exact .cons hr .nil
   .cases h
  .cases h
def Ao2(place:Nat->Option (Nat×Nat))(ts:List Ty):List (Lf Y.D)->List (Nat×AV Y)->Option (List (Lf Y.D))
 |ls,[]=>some ls
 |ls,(i,a)::rest=>match place i with
  |none=>none
  |some (off,size)=>match Afh a ((ts.drop off).take size) with
   |some l=>match Nat.beq l.length size&&Nat.ble (off+size) ls.length with
    |true=>Ao2 place ts (ls.take off++(l++ls.drop (off+size))) rest
    |false=>none
   |none=>none
theorem Ao1{g:Gst}{place:Nat->Option (Nat×Nat)}{ts:List Ty}:∀{ps:List (Nat×AV Y)}{qs:List (Nat×Value)}{cells:Array Value}{ls l':List (Lf Y.D)},Ao2 place ts ls ps=some l'->F2 (λc(l:Lf Y.D)=>rp Y.toUS l.t g.I g.w c l.x) cells.toList ls->F2 (λ(p:Nat×AV Y)(q:Nat×Value)=>p.1=q.1/\AR g p.2 q.2) ps qs->∃cells',Instr.fill place cells qs=some cells'/\F2 (λc(l:Lf Y.D)=>rp Y.toUS l.t g.I g.w c l.x) cells'.toList l'
 | [],_,cells,ls,l',h,hc,.nil=>by cases h;exact⟨cells,rfl,hc⟩
 |(i,a)::rest,(i',v)::qs,cells,ls,l',h,hc,.cons ⟨hi,ha⟩ hq=>by
  simp only at hi ha;subst hi;unfold Ao2 at h;unfold Instr.fill;split at h
  .cases h
  .rename_i off size hp;split at h
   .rename_i l hl;split at h
    .rename_i hb;simp only[Bool.and_eq_true,Nat.beq_eq,Nat.ble_eq]at hb;have hv:=Ag1 hl ha;have hsz:v.cells.size=size:=by have:=hv.len;simp only[Array.length_toList]at this;omega
     have hcs:cells.size=ls.length:=by have:=hc.len;simpa using this
     have hn:¬(v.cells.size≠size∨off+v.cells.size>cells.size):=by omega
     simp only[hp,Bool.or_eq_true,decide_eq_true_eq,hn,if_false];refine Ao1 h ?_ hq;have:=Ahd v.cells.toList 0 off cells (by simp;omega);have e:(v.cells.zipIdx.foldl (λcs(x:Value×Nat)=>cs.setIfInBounds (off+x.2) x.1) cells)=(v.cells.toList.zipIdx.foldl (λcs(x:Value×Nat)=>cs.setIfInBounds (off+x.2) x.1) cells):=by rw[<-Array.foldl_toList,Array.toList_zipIdx]
     show F2 _ (v.cells.zipIdx.foldl (λcs(x:Value×Nat)=>cs.setIfInBounds (off+x.2) x.1) cells).toList _;rw[e,this];simp only[Nat.add_zero,Array.length_toList,hsz];exact(hc.take off).app (hv.app (hc.drop _))
    .cases h
   .cases h
def plc(P:Program)(t:TypeId):Option ((Nat->Option (Nat×Nat))×Value):=match P.info? t,P.underlying t with
 |some it,some (.array _ e)=>match it.zero,P.info? e with
  |some z,some ie=>some (λi=>some (i*ie.size,ie.size),z)
  |_,_=>none
 |some it,some (.struct fields)=>match it.zero,fields.toList.mapM (λf=>(P.info? f.type).map λi=>(f.offset,i.size)) with
  |some z,some places=>some ((places.toArray[·]?),z)
  |_,_=>none
 |_,_=>none
theorem Ajv{P:Program}{p:(Nat->Option (Nat×Nat))×Value}(h:plc P t=some p)(parts:List (Nat×Value)):P.built t parts=Instr.fill p.1 p.2.cells parts:=by
 unfold plc at h;unfold Program.built;split at h
 .rename_i it e h1 h2;split at h
  .rename_i z ie h3 h4;cases h;simp only[h1,h2,h3,h4]
  .cases h
 .rename_i it fs h1 h2;split at h
  .rename_i z pl h3 h4;cases h;simp only[h1,h2,h3,h4]
  .cases h
 .cases h
def evP(c:Cf Y):List (Nat×Operand)->Option (List (Nat×AV Y))
 | []=>some []
 |(i,x)::l=>match evA c x,evP c l with
  |some a,some m=>some ((i,a)::m)
  |_,_=>none
theorem Aq2{g0 g:Gst}{T AH A:Own}{c:Cf Y}{f:Fr}(h:RG g0 T c f g AH A):∀{l:List (Nat×Operand)}{m:List (Nat×AV Y)},evP c l=some m->F2 (λ(p:Nat×AV Y)(q:Nat×Value)=>p.1=q.1/\AR g p.2 q.2) m (l.map λp=>(p.1,ev f p.2))
 | [],m,hm=>by cases hm;exact .nil
 |(i,x)::l,m,hm=>by
  unfold evP at hm;split at hm
  .rename_i a m' h1 h2;cases hm;exact .cons ⟨rfl,h.ev h1⟩ (Aq2 h h2)
  .cases hm
def A2k(c:Cf Y)(t:TypeId)(ps:Array (Nat×Operand))(k:AV Y->Prop):Prop:=match Y.ty t,plc Y.P t,evP c ps.toList with
 |some (.u n),some (p,.agg z),some qs=>match Pr (Y:=Y) (Y.sig n) z.toList with
  |some zl=>match (Ao2 p (Y.sig n) zl qs).bind (Y.At3 n) with
   |some x=>k (.dat (.u n) x)
   |none=>False
  |none=>False
 |_,_,_=>False
theorem Atn{g0:Gst}{T AH A:Own}{c:Cf Y}(h:RG g0 T c f g AH A){ps:Array (Nat×Operand)}{k:AV Y->Prop}(hx:A2k c t ps k):∃v a,k a/\AR g a v/\∀w',Yld Y.P f (.build t ps) ty v w':=by
 unfold A2k at hx;split at hx
 .rename_i n p z qs h1 h2 h3;split at hx
  .rename_i zl hz;cases hf:Ao2 p (Y.sig n) zl qs with
   |none=>rw[hf]at hx;exact hx.elim
   |some l'=>
    rw[hf]at hx;simp only[Option.bind_some]at hx;split at hx
    .rename_i x hu;obtain⟨cells,hc1,hc2⟩:=Ao1 (cells:=z) hf (Rx hz) (Aq2 h h3);refine⟨.agg cells,_,hx,Lc.2 ⟨cells.toList,rfl,by rw[Y.Aa3 n _ _ hu];exact hc2⟩,λw' dst pos af gd=>?_⟩;have hb:Y.P.built t (ps.map λ(x:Nat×Operand)=>match x with|(i,x)=>(i,ev f x)).toList=some cells:=by rw[Ajv h2,Array.toList_map];exact hc1
     simp only[execOp,Sem.run_bind];rw[run_build w' t _ cells hb];rfl
    .exact hx.elim
  .exact hx.elim
 .exact hx.elim
end
end
end Go.Y
