/-
  The Y layer, part r: a function: its entry, its results; from 'aex' to 'Wp'. (Merged by program out of 3 texts.)
-/
import Derived.Test.YtcbkbpjlbmalmaaGreatDoorpah
namespace Go.Y
open Go Go.RowKit Go.X
section
section
variable {P:Program} {ops:Array Oper} {R:List PanicEntry->World->Prop} {V:Act->World->Prop} {S S':World->Prop}
theorem Ark(h:∀w,S' w->S w):∀(n:Nat)(l:Array Bool)(a:Act)(w:World),Aia P ops R V S' n l a w->Aia P ops R V S n l a w
 |0,_,_,_,r=>r
 |n+1,_,_,_,r=>⟨r.1,λi hi=>(r.2 i hi).mono λa' w' r'=>⟨h _ r'.1,Ark h n _ a' w' r'.2⟩⟩
theorem Az8{E:List Nat}{w1:World}(h:∀w,S' w->S w):∀(n:Nat)(l:Array Bool)(a:Act)(w:World),Ajh P ops R V S' E w1 n l a w->Ajh P ops R V S E w1 n l a w
 |0,_,_,_,r=>r
 |n+1,_,_,_,r=>⟨r.1,λi hi=>(r.2 i hi).mono λa' w' r'=>by
  by_cases hE:E.contains i=true
  .rw[if_pos hE]at r' ⊢;exact⟨h _ r'.1,Ark h n _ a' w' r'.2⟩
  .rw[if_neg hE]at r' ⊢;exact⟨r'.1,Az8 h n _ a' w' r'.2⟩⟩
theorem Avp{R:Xit->World->Prop}{fn:FK}{N:Nat}{k:List Item}{E:List Nat}{n:Nat}{l:Array Bool}{f:Fr}{w:World}(h:∀w,S' w->S w)(r:WE P fn N ops k R S' E n l f w):WE P fn N ops k R S E n l f w:=λa ha=>Az8 h _ _ _ _ (r a ha)
theorem Bak{R:Xit->World->Prop}{fn:FK}{N:Nat}{k:List Item}{n:Nat}{l:Array Bool}{f:Fr}{w:World}(h:∀w,S' w->S w)(r:WG P fn N ops k R S' n l f w):WG P fn N ops k R S n l f w:=λa ha=>Ark h _ _ _ _ (r a ha)
end
section
variable {Y:Sys}
variable {g g':Gst}
theorem Sx.le(h:Le g g'){w:World}(s:Sx g' w):Sx g w:=⟨let e:=h.ext.trans s.ext;⟨e.os,e.tape,e.output,e.size,λ_ hb=>hb,e.Cq⟩⟩
structure Shd(D:Own)(g:Gst)(w:World):Prop where
 sx:Sx g w
 kp:∀p∈D,w.heap[p.1]?=some p.2
variable {D:Own}
theorem Shd.le(h:Le g g'){w:World}(s:Shd D g' w):Shd D g w:=⟨s.sx.le h,s.kp⟩
variable {g0:Gst} {T AH A:Own} {c:Cf Y} {f:Fr}
theorem RG.shd(h:RG g0 (D++T) c f g AH A):Shd D g g.w:=⟨Sx.refl g,λp hp=>(h.st.own p (List.mem_append_right _ (List.mem_append_right _ (List.mem_append_left _ hp)))).1⟩
theorem RG.A7h(hle:Le g g')(h:RG g0 (D++T) c f g' AH A):Shd D g g'.w:=h.shd.le hle
theorem Kz.more{X:Pan Y}{R:List PanicEntry->World->Prop}(h:Kz g0 T X R):Kz g0 (D++T) X R:=λv w' I' AH' H' t l u h1 h2=>h v w' I' AH' H' t l u h1 (Fv h2)
def rdH(hd:List (Nat×Seg Y))(c:Cf Y):Op->Option (TypeId×Operand×Nat×Nat×List (AV Y))
 | .load t x=>match evA c x with
  |some (.adr i o)=>match lkS hd i with
   |some (.blk cs)=>some (t,x,i,o,cs)
   |_=>none
  |_=>none
 |_=>none
theorem A4b{hid:List (Nat×Seg Y)}{op:Op}{t:TypeId}{x:Operand}{i o:Nat}{cs:List (AV Y)}(h:rdH hid c op=some (t,x,i,o,cs)):op=.load t x/\evA c x=some (.adr i o)/\lkS hid i=some (.blk cs):=by
 unfold rdH at h;split at h
 .split at h
  .split at h
   .rename_i _ _ _ _ h1 _ _ h2;cases h;exact⟨rfl,h1,h2⟩
   .cases h
  .cases h
 .cases h
def isV(c:Cf Y):Op->Bool
 | .move _ | .assign _ | .pick _ _ _ | .nilCheck _ | .fieldAddr _ _ _ | .indexAddr _ _ _ | .binOp _ _ _ _ _ | .unOp _ _ _ | .convert _ _ _ | .extract _ _ | .index _ _ _ | .field _ _ _ | .build _ _ | .makeInterface _ _=>true
 | .load _ x=>match evA c x with
  |some (.del _ _ _)=>true
  |some (.fbx _ _ _)=>true
  |_=>false
 | .call ⟨.builtin .len,_,_⟩ | .call ⟨.builtin .min,_,_⟩ | .call ⟨.builtin .max,_,_⟩=>true
 |_=>false
def A9n:Op->Bool
 | .load _ _=>true
 |_=>false
def A5r(E:Env Y)(o:Op):Bool:=match pfC E o with
 |some _=>false
 |none=>match o with
  | .move _ | .assign _ | .pick _ _ _ | .nilCheck _ | .fieldAddr _ _ _ | .indexAddr _ _ _ | .binOp _ _ _ _ _ | .unOp _ _ _ | .convert _ _ _ | .extract _ _ | .index _ _ _ | .field _ _ _ | .build _ _ | .makeInterface _ _ | .load _ _=>false
  | .call ⟨.builtin .len,_,_⟩ | .call ⟨.builtin .min,_,_⟩ | .call ⟨.builtin .max,_,_⟩=>false
  |_=>true
def prz(c:Cf Y):Op->Cf Y
 | .build t ps=>As7 c t ps
 | .makeInterface _ x=>W6 c x
 |_=>c
theorem Aw0(h:RG g0 T c f g AH A)(o:Op):∃g' A',g'.w=g.w/\Le g g'/\RG g0 T (prz c o) f g' AH A':=by
 unfold prz;split
 .exact Aou h _ _
 .exact Pn h _
 .exact⟨g,A,rfl,Le.refl _,h⟩
def okB(ops:Array Oper)(l:Array Bool)(ef:List Nat)(i:Nat):Bool:=Region.noSelect ops&&Region.free .any ops l i&&(Region.ready .any ops l).contains i&&!(ef.contains i)
def unl(l:Array Bool)(ef:List Nat):List Nat:=ef.filter λe=>!(l.getD e true)
def A45(ops:Array Oper)(l:Array Bool)(ef:List Nat)(i:Nat):Bool:=Av3 .any ops l (unl l ef) i&&A8t l ef (unl l ef)
def grd(ops:Array Oper)(o:Oper)(c:Cf Y)(k:Bool->Cf Y->Prop):Prop:=match o.guard with
 |none=>k true c
 |some (j,b)=>match (ops[j]?).bind (·.dst) with
  |some d=>match A1i (lkF c.fr d) with
   |true=>k false c
   |false=>match (lkF c.fr d).bind asB with
    |some (.kn t)=>k (t==b) c
    |some (.pr p _)=>(p->k (true==b) (c.set d (.val (.bool true))))/\(¬p->k (false==b) (c.set d (.val (.bool false))))
    |none=>False
  |none=>False
theorem Ama(h:RG g0 T c f g AH A){ops:Array Oper}{o:Oper}{k:Bool->Cf Y->Prop}(hk:grd ops o c k):∃t c',k t c'/\RG g0 T c' f g AH A/\Region.wanted o (yl ops f)=t:=by
 unfold grd at hk;split at hk
 .rename_i hg;exact⟨true,c,hk,h,by simp [Region.wanted,hg]⟩
 .rename_i j b hg;split at hk
  .rename_i d hj;have bd:∀{p:BV},(lkF c.fr d).bind asB=some p->f d=.bool p.val:=λ{p}hp=>by
    cases hz:lkF c.fr d with
    |none=>rw[hz]at hp;cases hp
    |some a=>rw[hz]at hp;exact U4 hp (h.fr d a hz)
   have wd:∀{t:Bool},f d=.bool t->Region.wanted o (yl ops f)=(t==b):=λ{t}ht=>by
    have hy:yl ops f j=some t:=by unfold yl;rw[hj];simp only[ht]
    simp [Region.wanted,hg,hy]
   split at hk
   .rename_i hu;exact⟨false,c,hk,h,Aji hg hj (Ast hu λa ha=>h.fr d a ha)⟩
   split at hk
   .rename_i t ht;exact⟨_,c,hk,h,wd (bd ht)⟩
   .rename_i p dp ht;have hv:=bd ht;by_cases hp:p
    .have hv:f d=.bool true:=by rw[hv];show Value.bool (@decide p dp)=_;rw[@decide_eq_true p dp hp]
     exact⟨_,_,hk.1 hp,h.cons (a:=.val (.bool true)) hv,wd hv⟩
    .have hv:f d=.bool false:=by rw[hv];show Value.bool (@decide p dp)=_;rw[@decide_eq_false p dp hp]
     exact⟨_,_,hk.2 hp,h.cons (a:=.val (.bool false)) hv,wd hv⟩
   .exact hk.elim
  .exact hk.elim
def Aw1(E:Env Y)(hid:List (Nat×Seg Y))(ops:Array Oper)(l:Array Bool)(ef:List Nat)(c:Cf Y):List Nat->Option Nat
 | []=>none
 |i::rs=>match ops[i]? with
  |some o=>match okB ops l ef i&&(isV c o.op ||(rdH hid c o.op).isSome ||(pfC E o.op).isSome ||(A9n o.op&&A45 ops l ef i)) with
   |true=>some i
   |false=>Aw1 E hid ops l ef c rs
  |none=>Aw1 E hid ops l ef c rs
def A6j(p:Nat->Prop):List Nat->Prop
 | []=>True
 | [i]=>p i
 |i::l=>p i/\A6j p l
theorem Ath{p:Nat->Prop}:∀{l:List Nat},A6j p l->∀i∈l,p i
 | [],_,i,hi=>by cases hi
 | [j],h,i,hi=>by simp at hi;subst hi;exact h
 |j::k::l,h,i,hi=>by
  rcases List.mem_cons.1 hi with rfl|hi
  .exact h.1
  .exact Ath h.2 i hi
def drw(E:Env Y)(hid:List (Nat×Seg Y))(ops:Array Oper)(ef:List Nat)(k:Cf Y->Prop):Nat->Array Bool->Cf Y->Prop
 |n,l,c=>match Region.ready .any ops l with
  | []=>k c
  |r::rs=>match n with
   |0=>False
   |n+1=>match Aw1 E hid ops l ef c (r::rs) with
    |some i=>match ops[i]? with
     |some o=>match o.dst with
      |some d=>chk (okB ops l ef i&&Nat.blt d E.N) (grd ops o c λt c=>
        let K:AV Y->Cf Y->Prop:=λa c'=>c'.put E.N o.dst a λc''=>drw E hid ops ef k n (l.setIfInBounds i true) c''
        match t with
        |false=>K (.val undef) c
        |true=>match isV c o.op with
         |true=>vop (prz c o.op) o.op K
         |false=>match rdH hid c o.op with
         |some (t,_,_,p,cs)=>rdB t cs p λa=>K a c
         |none=>match pfC E o.op with
          |some r=>pcX c r K
          |none=>match o.op with
           | .load ty x=>match evA c x with
            |some a=>chk (A45 ops l ef i) (Anu c ty a λa c=>rdX (Ae3 c ty a) ty a λb=>K b (Ae3 c ty a))
            |none=>False
           |_=>False)
      |none=>False
     |none=>False
    |none=>A6j (λi=>match ops[i]? with
      |some o=>match ef.contains i with
       |true=>grd ops o c λt c=>match t with
        |true=>xop E {o with guard:=none} c λc''=>drw E hid ops ef k n (l.setIfInBounds i true) c''
        |false=>c.put E.N o.dst (.val undef) λc''=>drw E hid ops ef k n (l.setIfInBounds i true) c''
       |false=>grd ops o c λt c=>match t with
        |false=>c.put E.N o.dst (.val undef) λc''=>drw E hid ops ef k n (l.setIfInBounds i true) c''
        |true=>match o.op with
         | .load ty x=>match evA c x with
           |some a=>Anu c ty a λa c=>rdX (Ae3 c ty a) ty a λb=>(Ae3 c ty a).put E.N o.dst b λc''=>drw E hid ops ef k n (l.setIfInBounds i true) c''
           |none=>False
         |_=>False
      |none=>False) (r::rs)
theorem A6a{E:Env Y}{fn:FK}{gh:Gst}{hid:List (Nat×Seg Y)}(hD:SgR gh hid D){R:Xit->World->Prop}(hR:Kz g0 (D++T) E.X (fn.at R)){ops:Array Oper}{ef:List Nat}{kk:Cf Y->Prop}{k:List Item}:∀(n:Nat){l:Array Bool}{c:Cf Y}{f:Fr}{g:Gst}{AH A:Own},Le gh g->RG g0 (D++T) c f g AH A->drw E hid ops ef kk n l c->(∀c' f' g' AH' A',Le g g'->RG g0 (D++T) c' f' g' AH' A'->kk c'->WT Y.P fn E.N k R f' g'.w)->WE Y.P fn E.N ops k R (Shd D g) ef n l f g.w:=by
 intro n;induction n with
 |zero=>
  intro l c f g AH A hgh h hx next;unfold drw at hx;split at hx
  .rename_i hr;exact Ayz hr (next c f g AH A (Le.refl _) h hx)
  .exact hx.elim
 |succ n ih=>
  intro l c f g AH A hgh h hx next;have wd:∀{o:Oper}{t:Bool},Region.wanted o (yl ops f)=t->True:=λ_=>trivial;have again:∀{c':Cf Y}{f':Fr}{g':Gst}{AH' A':Own}{l':Array Bool},Le g g'->RG g0 (D++T) c' f' g' AH' A'->drw E hid ops ef kk n l' c'->WE Y.P fn E.N ops k R (Shd D g') ef n l' f' g'.w:=λhle hr hd=>ih (hgh.trans hle) hr hd λc2 f2 g2 AH2 A2 hle2 hr2 hk2=>next c2 f2 g2 AH2 A2 (hle.trans hle2) hr2 hk2;unfold drw at hx;split at hx
  .rename_i hr;exact Ayz hr (next c f g AH A (Le.refl _) h hx)
  .rename_i r rs hr;simp only at hx;split at hx
   .rename_i i hi;split at hx
    .rename_i o ho;split at hx
     .rename_i d hd;obtain⟨hb,hx⟩:=Bj hx;simp only[Bool.and_eq_true]at hb;obtain⟨t,c1,hx,h1,hw⟩:=Ama h hx;have lay:∀{c2:Cf Y}{g2:Gst}{A2:Own}{a:AV Y}{v:Value},g2.w=g.w->Le g g2->RG g0 (D++T) c2 f g2 AH A2->AR g2 a v->(c2.put E.N o.dst a λc''=>drw E hid ops ef kk n (l.setIfInBounds i true) c'')->
        (∀w,Shd D g2 w->WL Y.P E.N ops (λ_ _=>False) true (λf' w'=>f'=Go.X.put E.N f o.dst v/\w'=w) [o] f w)->WE Y.P fn E.N ops k R (Shd D g) ef (n+1) l f g.w:=λ{c2 g2 A2 a v}hw2 hle hr2 ha hp hrun=>by
       obtain⟨c3,g3,k1,k2,k3,k4,k5⟩:=hr2.put ha hp
       refine Avp (S':=Shd D g2) (λw hs=>hs.le hle) ?_
       rw[<-hw2]
       refine Tp ho hd hb.2 hb.1 rfl (by have:=hr2.shd;exact this) hrun ?_
       have:=again (hle.trans k4) k5 k1
       rw[k2]at this
       exact Avp (λw hs=>hs.le k4) this
      split at hx
      .exact lay (a:=.val undef) (v:=undef) rfl (Le.refl _) h1 rfl hx λw _=>by simp [WL,hw]
      .obtain⟨dst,op,ty,pos,af,gd⟩:=o;have run:∀{v:Value}{w:World},Yld Y.P f op ty v w->WL Y.P E.N ops (λ_ _=>False) true (λf' w'=>f'=Go.X.put E.N f dst v/\w'=w) [⟨dst,op,ty,pos,af,gd⟩] f w:=λhy=>by simp only[WL,hw,if_true];rw[hy dst pos af gd];exact⟨rfl,rfl⟩
       simp only at hx;split at hx
       .obtain⟨g2,A2,hw2,hle,hr2⟩:=Aw0 h1 op;obtain⟨v,a,c',g3,k1,m1,m2,k2,k3,k4⟩:=Ap2 (ty:=ty) hr2 hx;exact lay (m1.trans hw2) (hle.trans m2) k2 k3 k1 λw hs=>run (k4 w (hs.sx.le m2))
       .split at hx
        .rename_i t2 x2 i2 p2 cs2 hrd;obtain⟨e1,e2,e3⟩:=A4b hrd;have hx9:=hx;clear hx;have e1:op=_:=e1;subst e1;obtain⟨B1,B2,hpm,hin,hsr,_⟩:=hD.take e3;obtain⟨_,b2,h4,h5⟩:=h1.ev e2;obtain⟨v,a,k1,k2,k3⟩:=Ali (ty:=ty) hx9 (hsr.mono hgh hin) h4 h5;exact lay rfl (Le.refl _) h1 k2 k1 λw hs=>run (k3 w λp hp=>hs.kp p (hpm.symm.mem_iff.1 (List.mem_append_left _ hp)))
        split at hx
        .rename_i r hr;obtain⟨v,a,c2,g2,k1,k2,k3,k4,k5,k6⟩:=Aqi h1 hx;obtain⟨c3,g3,m1,m2,m3,m4,m5⟩:=k4.put k5 k1;obtain⟨at2,he⟩:=Aqh hr;subst he;refine Atb ho hd hb.1 h.shd hw (λw hs=>.inr ⟨_,_,Adc r.2.1.can dst ty pos af gd,k6 w hs.sx⟩) ?_;have:=again (k3.trans m4) m5 m1;rw[m2,k2]at this;exact Avp (λw hs=>hs.le (k3.trans m4)) this
        split at hx
        .split at hx
         .rename_i a ha;obtain⟨hm,hx⟩:=Bj hx;simp only[A45,Bool.and_eq_true]at hm;obtain⟨a,c0,g0',AH0,A0,hx,hw0,hle0,hr0,ha0⟩:=Xw h1 hx (h1.ev ha);obtain⟨g2,A2,hw2,hle,hr2⟩:=Afl hr0 _ a;obtain⟨v,b,k1,k2,k3⟩:=Agb (ty:=ty) (k:=λb=>(Ae3 c0 _ a).put E.N dst b λc''=>drw E hid ops ef kk n (l.setIfInBounds i true) c'') hr2 hx (ha0.mono hle);replace hw2:=hw2.trans hw0;replace hle:=hle0.trans hle;obtain⟨c3,g3,m1,m2,m3,m4,m5⟩:=hr2.put k2 k1;refine Avp (S':=Shd D g2) (λw hs=>hs.le hle) ?_;rw[<-hw2];have hb1:=hb.1;simp only[okB,Bool.and_eq_true]at hb1;refine A8u (unl l ef) ho hd hb.2 (by simp only[Bool.and_eq_true];exact⟨⟨hb1,hm.1⟩,hm.2⟩) rfl (run k3) ?_;have:=again (hle.trans m4) m5 m1;rw[m2]at this;exact Avp (λw hs=>hs.le m4) this
         .exact hx.elim
        .exact hx.elim
     .exact hx.elim
    .exact hx.elim
   .refine A8w hr (by simp) λi hi a ha=>?_;have hx:=Ath hx i hi;split at hx
    .rename_i o ho;split at hx
     case h_2 hE=>
      obtain⟨t,c1,hx,h1,hw⟩:=Ama h hx
      rw[hE]
      have fin:∀{c':Cf Y}{f':Fr}{g':Gst}{AH' A':Own},g'.w=g.w->Le g g'->RG g0 (D++T) c' f' g' AH' A'->drw E hid ops ef kk n (l.setIfInBounds i true) c'->WE Y.P fn E.N ops k R (Shd D g) ef n (l.setIfInBounds i true) f' g.w:=λhw' hle hr' hd=>by have:=again hle hr' hd;rw[hw']at this;exact Avp (λw hs=>hs.le hle) this
      refine Xx (K:=λf' w'=>w'=g.w/\WE Y.P fn E.N ops k R (Shd D g) ef n (l.setIfInBounds i true) f' g.w) ha ho (λf' w' a' h1 h2=>⟨h2.1,by rw[h2.1];exact h2.2 a' h1⟩) ?_
      split at hx
      .obtain⟨c2,g2,k1,k2,k3,k4,k5⟩:=h1.put (a:=.val undef) (v:=undef) rfl hx
       exact Art hw ⟨rfl,fin k2 k4 k5 k1⟩
      .obtain⟨dst,op,ty,pos,af,gd⟩:=o
       simp only at hx
       split at hx
       .split at hx
        .rename_i a2 ha2
         obtain⟨a3,c0,g0',AH0,A0,hx,hw0,hle0,hr0,ha0⟩:=Xw h1 hx (h1.ev ha2)
         obtain⟨g2,A2,hw2,hle,hr2⟩:=Afl hr0 _ a3
         obtain⟨v,b,k1,k2,k3⟩:=Agb (ty:=ty) (k:=λb=>(Ae3 c0 _ a3).put E.N dst b λc''=>drw E hid ops ef kk n (l.setIfInBounds i true) c'') hr2 hx (ha0.mono hle)
         obtain⟨c3,g3,m1,m2,m3,m4,m5⟩:=hr2.put k2 k1
         rw[hw2,hw0]at k3
         simp only[WL,hw,if_true]
         rw[k3 dst pos af gd]
         exact⟨rfl,fin (m2.trans (hw2.trans hw0)) (hle0.trans (hle.trans m4)) m5 m1⟩
        .exact hx.elim
       .exact hx.elim
     rename_i hE;rw[hE];simp only[if_true];obtain⟨t,c1,hx,h1,hw⟩:=Ama h hx;have fin:∀c' f' g' AH' A',Le g g'->RG g0 (D++T) c' f' g' AH' A'->drw E hid ops ef kk n (l.setIfInBounds i true) c'->Shd D g g'.w/\WG Y.P fn E.N ops k R (Shd D g) n (l.setIfInBounds i true) f' g'.w:=λc' f' g' AH' A' hle hr' hd=>⟨hr'.A7h hle,Bak (λw hs=>hs.le hle) (Ami ef hr'.shd (again hle hr' hd))⟩
     refine Xx (K:=λf' w'=>Shd D g w'/\WG Y.P fn E.N ops k R (Shd D g) n (l.setIfInBounds i true) f' w') ha ho (λf' w' a' h1 h2=>⟨h2.1,h2.2 a' h1⟩) ?_;split at hx
     .have hwl:=Apy h1 rfl hx (ops:=ops) (R:=fn.at R) (K:=λf' w'=>Shd D g w'/\WG Y.P fn E.N ops k R (Shd D g) n (l.setIfInBounds i true) f' w') (os:=[]) hR fin;cases hg:o.guard with
      |none=>
       have:o={o with guard:=none}:=by rw[<-hg]
       rw[this];exact hwl
      |some q=>
       have he:o={o with guard:=some q}:=by rw[<-hg]
       rw[he]at hw ⊢;exact Av2 hw hwl
     .obtain⟨c2,g2,k1,k2,k3,k4,k5⟩:=h1.put (a:=.val undef) (v:=undef) rfl hx;refine Art hw ?_;have:=fin c2 _ g2 _ _ k4 k5 k1;rw[k2]at this;exact this
    .exact hx.elim
def hdL:List (Nat×List Nat)->Nat->List Nat
 | [],_=>[]
 |p::l,i=>if p.1=i then p.2 else hdL l i
def hdI(c:Cf Y)(ts:List Nat)(i:Nat):Bool:=ts.any λt=>match lkF c.fr t with
 |some (.adr j _)=>Nat.beq j i
 |_=>false
def spS(p:Nat->Bool):List (Nat×Seg Y)->List (Nat×Seg Y)×List (Nat×Seg Y)
 | []=>([],[])
 |s::l=>match p s.1 with
  |true=>(s::(spS p l).1,(spS p l).2)
  |false=>((spS p l).1,s::(spS p l).2)
theorem Awj{g:Gst}{p:Nat->Bool}:∀{l:List (Nat×Seg Y)}{A:Own},SgR g l A->∃A1 A2,A.Perm (A1++A2)/\SgR g (spS p l).1 A1/\SgR g (spS p l).2 A2
 | [],_,h=>⟨[],[],by rw[show _=[] from h];exact List.Perm.refl _,rfl,rfl⟩
 |s::l,A,⟨B1,B2,h1,h2,h3,h4⟩=>by
  obtain⟨C1,C2,k1,k2,k3⟩:=Awj (p:=p) h4;subst h1;unfold spS;cases p s.1 with
  |true=>exact⟨B1++C1,C2,by rw[List.append_assoc];exact k1.append_left B1,⟨B1,C1,rfl,h2,h3,k2⟩,k3⟩
  |false=>exact⟨C1,B1++C2,(k1.append_left B1).trans (List.perm_append_comm_assoc _ _ _),k2,⟨B1,C2,rfl,h2,h3,k3⟩⟩
def drX(E:Env Y)(id:Nat)(ops:Array Oper)(c:Cf Y)(k:Cf Y->Prop):Prop:=
 chk (Y.P.follows .mixedOrders) (match hdL E.hd id with
  | []=>drw E [] ops ((List.range ops.size).filter λi=>match ops[i]? with |some o=>A5r E o.op |none=>false) k ops.size (Array.replicate ops.size false) c
  |t::ts=>cls c λc=>drw E (spS (hdI c (t::ts)) c.sg).1 ops ((List.range ops.size).filter λi=>match ops[i]? with |some o=>A5r E o.op |none=>false) (λc'=>cls c' λc'=>k {c' with sg:=(spS (hdI c (t::ts)) c.sg).1++c'.sg}) ops.size (Array.replicate ops.size false) {c with sg:=(spS (hdI c (t::ts)) c.sg).2})
theorem A6b{E:Env Y}{fn:FK}{R:Xit->World->Prop}(hR:Kz g0 T E.X (fn.at R))(h:RG g0 T c f g AH A){id:Nat}{ops:Array Oper}{kk:Cf Y->Prop}{k:List Item}(hx:drX E id ops c kk)(next:∀c' f' g' AH' A',Le g g'->RG g0 T c' f' g' AH' A'->kk c'->WT Y.P fn E.N k R f' g'.w):WT Y.P fn E.N (.code (.region id ops true)::k) R f g.w:=by
 obtain⟨hm,hx⟩:=Bj hx;have dr:∀{g:Gst}{c:Cf Y}{AH A:Own}{D:Own}{hid:List (Nat×Seg Y)}{kk:Cf Y->Prop},SgR g hid D->RG g0 (D++T) c f g AH A->drw E hid ops ((List.range ops.size).filter λi=>match ops[i]? with|some o=>A5r E o.op|none=>false) kk ops.size (Array.replicate ops.size false) c->
   (∀c' f' g' AH' A',Le g g'->RG g0 (D++T) c' f' g' AH' A'->kk c'->WT Y.P fn E.N k R f' g'.w)->WT Y.P fn E.N (.code (.region id ops true)::k) R f g.w:=λ{g c AH A D hid kk}hD h hx next=>by
  let g1:Gst:={g with w:={g.w with drawn:=g.w.drawn+1}}
  have he:Ext g.I g.w g.I g1.w:=(h.st.drew _).1
  have hle:Le g g1:=⟨he,Nat.le_refl _,λ_ _=>rfl,rfl⟩
  have h1:RG g0 (D++T) c f g1 AH A:=⟨h.n,h.le.trans he,(h.st.drew _).2,h.hr.mono hle,h.sg.mono hle,h.hs.mono hle,hle.pt h.pt,λi a hi=>(h.fr i a hi).mono hle⟩
  exact Arr (Shd D g1) hm rfl rfl (Ami _ h1.shd (A6a hD hR.more _ hle h1 hx λc' f' g' AH' A' hl hr hk=>next c' f' g' AH' A' (hle.trans hl) hr hk))
 split at hx
 .exact dr (D:=[]) (hid:=[]) rfl h hx next
 .rename_i t ts _;obtain⟨c1,g1,AH1,A1,hq,hw1,hle1,h1,_,hop1⟩:=Fi h hx;rw[<-hw1];obtain⟨D,A2,hp,hD,hA2⟩:=Awj (p:=hdI c1 (t::ts)) h1.sg;have hr1:=h1.hr;rw[hop1]at hr1;have h2:RG g0 (D++T) {c1 with sg:=(spS (hdI c1 (t::ts)) c1.sg).2} f g1 AH1 A2:=⟨h1.n,h1.le,h1.st.perm ?_,?_,hA2,h1.hs,h1.pt,h1.fr⟩
  .refine dr hD h2 hq λc' f' g' AH' A' hle hr hx=>?_;obtain⟨c3,g3,AH3,A3,hq3,hw3,hle3,h3,_,hop3⟩:=Fi hr hx;rw[<-hw3];have hr3:=h3.hr;rw[hop3]at hr3;refine next {c3 with sg:=(spS (hdI c1 (t::ts)) c1.sg).1++c3.sg} f' g3 AH3 (D++A3) (hle1.trans (hle.trans hle3)) ⟨h3.n,h3.le,h3.st.perm ?_,?_,?_,h3.hs,h3.pt,h3.fr⟩ hq3
   .refine List.Perm.append_left _ ?_;rw[List.append_assoc];exact List.perm_append_comm_assoc _ _ _
   .show HR g3 c3.H _ AH3 c3.op;rw[hop3];exact hr3
   .exact SgR.app (hD.mono (hle.trans hle3)) h3.sg
  .refine List.Perm.append_left _ ?_;refine(hp.append_right T).trans ?_;rw[List.append_assoc];exact List.perm_append_comm_assoc _ _ _
  .show HR g1 c1.H _ AH1 c1.op;rw[hop1];exact hr1
end
end
section
section
variable {Y:Sys}
structure Ks(Y:Sys) where
 nx:Cf Y->Prop
 ex:List (Nat×(Cf Y->Prop))
 rt:Cf Y->Prop
def lkE:List (Nat×(Cf Y->Prop))->Nat->Option (Cf Y->Prop)
 | [],_=>none
 |p::l,i=>if p.1=i then some p.2 else lkE l i
def lkA:List (Nat×LA)->Nat->Option LA
 | [],_=>none
 |p::l,i=>if p.1=i then some p.2 else lkA l i
def A5n:Code->Nat
 | .seq a _=>A5n a
 | .region id _ _=>id
 | .block _ b=>A5n b
 |_=>0
def jnK(E:Env Y):Operand->Option LA
 | .tmp t=>lkA E.jn t
 |_=>none
def Nx(c:Cf Y):List (Nat×Sh)->Cf Y
 | []=>c
 |(t,.one (.dat (.sl _)))::l=>Nx (W6 c (.tmp t)) l
 |_::l=>Nx c l
theorem Ab8{g0:Gst}{T AH:Own}{f:Fr}:∀(l:List (Nat×Sh)){g:Gst}{A:Own}{c:Cf Y},RG g0 T c f g AH A->∃g' A',g'.w=g.w/\Le g g'/\RG g0 T (Nx c l) f g' AH A'
 | [],g,A,c,h=>⟨g,A,rfl,Le.refl _,h⟩
 |p::l,g,A,c,h=>by
  unfold Nx;split
  .exact⟨g,A,rfl,Le.refl _,h⟩
  .rename_i t e l' heq;cases heq;obtain⟨g1,A1,h1,h2,h3⟩:=Pn h (.tmp t);obtain⟨g2,A2,h4,h5,h6⟩:=Ab8 l h3;exact⟨g2,A2,h4.trans h1,h2.trans h5,h6⟩
  .rename_i heq;cases heq;exact Ab8 l h
def Vu(l m:List Nat):Bool:=l.all λi=>inN i m
theorem Al9{i:Nat}:∀{l:List Nat},inN i l=true↔i∈l
 | []=>by simp [inN]
 |j::l=>by simp [inN,Al9 (l:=l)]
theorem Xr{l m:List Nat}(h:Vu l m=true){t:Nat}(ht:inN t l=true):inN t m=true:=by have:=List.all_eq_true.1 h t (Al9.1 ht);exact this
def A6l(la:LA)(c:Cf Y)(K:VT Y la.vars->HH Y->Prop):Prop:=match Aqy (Nx c la.vars).fr la.vars (Nx c la.vars).sg,(Nx c la.vars).op with
 |some r,none=>K r.1 (Nx c la.vars).H
 |_,_=>False
variable {la:LA} {g0 g:Gst} {T AH A:Own} {c:Cf Y} {f:Fr}
theorem A17(h:RG g0 T c f g AH A){K:VT Y la.vars->HH Y->Prop}(hk:A6l la c K):∃g1 x H A1,g1.w=g.w/\Le g g1/\K x H/\VTR g1.I g1.w f la.vars x A1/\St g1.I g1.w (AH++(A1++T))/\HpR (HK' Y) g1.I g1.w H AH:=by
 obtain⟨g1,A',h1,h2,h3⟩:=Ab8 la.vars h;unfold A6l at hk;split at hk
 .rename_i r hr hop;obtain⟨A1,A2,h4,h5,h6⟩:=Amb h3.fr hr h3.sg;have hH:=h3.hr;rw[hop]at hH;refine⟨g1,r.1,_,A1,h1,h2,hk,h5,?_,hH⟩;have hst:=h3.st.perm ((h4.append_right T).append_left AH);rw[List.append_assoc]at hst;have:St g1.I g1.w ((AH++A1)++(A2++T)):=by simpa [List.append_assoc] using hst
  simpa [List.append_assoc] using Fv this
 .exact hk.elim
def cnv(la:LA)(c:Cf Y)(K:VT Y la.vars->HH Y->Prop):Prop:=cls c λc=>A6l la c K
theorem Azb(h:RG g0 T c f g AH A){K:VT Y la.vars->HH Y->Prop}(hk:cnv la c K):∃g1 x H AH1 A1,g1.w=g.w/\Le g g1/\K x H/\VTR g1.I g1.w f la.vars x A1/\St g1.I g1.w (AH1++(A1++T))/\HpR (HK' Y) g1.I g1.w H AH1:=by obtain⟨c1,g1,AH1,A1,hk,hw,hle,hr,_⟩:=Fi h hk;obtain⟨g2,x,H,A2,h1,h2,h3⟩:=A17 hr hk;exact⟨g2,x,H,AH1,A2,h1.trans hw,hle.trans h2,h3⟩
def wr(pt:List Nat)(q:Cf Y->Prop):Cf Y->Prop:=λc=>chk (Vu pt c.pt) (q {c with pt:=pt})
def wrE(pt:List Nat):List (Nat×(Cf Y->Prop))->List (Nat×(Cf Y->Prop))
 | []=>[]
 |p::l=>(p.1,wr pt p.2)::wrE pt l
theorem AR.phi(φ:Fr){a:AV Y}{v:Value}(h:AR g a v):AR {g with φ:=φ} a v:=by cases a<;>exact h
theorem SR.phi(φ:Fr){i:Nat}{s:Seg Y}(h:SR g i s A):SR {g with φ:=φ} i s A:=by
 cases s with
 |blk cs=>obtain⟨b,arr,e,h1,h2,h3⟩:=h;exact⟨b,arr,e,h1,h2,h3.mono λ_ _ r=>⟨r.1.phi φ,r.2⟩⟩
 |sl t xs=>exact h
 |mp k e m=>exact h
 |tp l=>obtain⟨h1,vs,h2,h3⟩:=h;exact⟨h1,vs,h2,h3.mono λ_ _ r=>r.phi φ⟩
 |ag l=>obtain⟨h1,vs,h2,h3⟩:=h;exact⟨h1,vs,h2,h3.mono λ_ _ r=>⟨r.1.phi φ,r.2⟩⟩
 |clo q l m=>obtain⟨h1,vs,us,h2,h3,h4⟩:=h;exact⟨h1,vs,us,h2,h3.mono λ_ _ r=>r.phi φ,h4.mono λ_ _ r=>r.phi φ⟩
theorem SgR.phi(φ:Fr):∀{l:List (Nat×Seg Y)}{A:Own},SgR g l A->SgR {g with φ:=φ} l A
 | [],_,h=>h
 |_::_,_,⟨A1,A2,h1,h2,h3,h4⟩=>⟨A1,A2,h1,h2,h3.phi φ,h4.phi φ⟩
theorem RG.phi{φ:Fr}{pt:List Nat}(h:RG g0 T c f g AH A)(hp:∀t,inN t pt=true->f t=φ t):RG g0 T {c with pt:=pt} f {g with φ:=φ} AH A:=by
 refine⟨h.n,h.le,h.st,?_,h.sg.phi φ,h.hs,hp,λi a hi=>(h.fr i a hi).phi φ⟩;have:=h.hr;show HR _ _ _ _ c.op;cases ho:c.op with
 |none=>rw[ho]at this;exact this
 |some o=>rw[ho]at this;exact this
def aex(E:Env Y):Code->Cf Y->Ks Y->Prop
 | .skip,c,ks=>ks.nx c
 | .label _,c,ks=>ks.nx c
 | .seq a b,c,ks=>aex E a c {ks with nx:=λc'=>aex E b c' ks}
 | .region id ops d,c,ks=>match d with
  |false=>Afq E ops ops.toList c ks.nx
  |true=>drX E id ops c ks.nx
 | .cond x a b,c,ks=>match (evA c x).bind asB with
  |some (.kn true)=>aex E a c ks
  |some (.kn false)=>aex E b c ks
  |some (.pr p _)=>match jnK E x with
   |none=>(p->aex E a (kno c x true) ks)/\(¬p->aex E b (kno c x false) ks)
   |some la=>cls c λc=>∃M:VT Y la.vars->HH Y->Prop,(∀x H,M x H->ks.nx {hdC c la x H with pt:=c.pt})/\
    (p->aex E a {c with pt:=la.Cq++c.pt} {nx:=λc'=>chk (Vu (la.Cq++c.pt) c'.pt) (cnv la c' M),ex:=wrE c.pt ks.ex,rt:=ks.rt})/\
    (¬p->aex E b {c with pt:=la.Cq++c.pt} {nx:=λc'=>chk (Vu (la.Cq++c.pt) c'.pt) (cnv la c' M),ex:=wrE c.pt ks.ex,rt:=ks.rt})
  |none=>False
 | .block id b,c,ks=>aex E b c {ks with ex:=(id,ks.nx)::ks.ex}
 | .exit id,c,ks=>match lkE ks.ex id with
  |some q=>q c
  |none=>False
 | .ret,c,ks=>ks.rt c
 | .scope b,c,ks=>aex E b c ks
 | .loop b,c,ks=>cls c λc=>match lkA E.lp (A5n b) with
  |some la=>match la.heap with
   |true=>∃V:Nat->VT Y la.vars->HH Y->Prop,(∃n,cnv la c (V n))/\∀n x H,V n x H->aex E b (hdC c la x H) {nx:=λc'=>chk (Vu (la.Cq++c.pt) c'.pt) (∃m,m<n/\cnv la c' (V m)),ex:=wrE c.pt ks.ex,rt:=ks.rt}
   |false=>∃V:Nat->VT Y la.vars->Prop,(∃n,cnv la c (λx H=>H=c.H/\V n x))/\∀n x,V n x->aex E b (hdC c la x c.H) {nx:=λc'=>chk (Vu (la.Cq++c.pt) c'.pt) (∃m,m<n/\cnv la c' (λx H=>H=c.H/\V m x)),ex:=wrE c.pt ks.ex,rt:=ks.rt}
  |none=>False
 |_,_,_=>False
structure Avu(Y:Sys)(fn:FK)(N:Nat)(g0:Gst)(T:Own)(R:Xit->World->Prop)(φ:Fr)(gb:Gst)(ks:Ks Y)(k:List Item):Prop where
 nx:∀c f g AH A,g.φ=φ->Lx gb g->RG g0 T c f g AH A->ks.nx c->WT Y.P fn N k R f g.w
 ex:∀id q,lkE ks.ex id=some q->∃k',exitTo id k=some k'/\∀c f g AH A,g.φ=φ->Lx gb g->RG g0 T c f g AH A->q c->WT Y.P fn N k' R f g.w
 rt:∀c f g AH A k',Lx gb g->RG g0 T c f g AH A->ks.rt c->WT Y.P fn N (.code .ret::k') R f g.w
theorem Ax3{pt:List Nat}{id:Nat}{q:Cf Y->Prop}:∀{l:List (Nat×(Cf Y->Prop))},lkE (wrE pt l) id=some q->∃q',lkE l id=some q'/\q=wr pt q'
 | [],h=>by simp [wrE,lkE]at h
 |p::l,h=>by
  simp only[wrE,lkE]at h;simp only[lkE];by_cases he:p.1=id
  .rw[if_pos he]at h ⊢;cases h;exact⟨_,rfl,rfl⟩
  .rw[if_neg he]at h ⊢;exact Ax3 h
theorem Avu.inner{fn:FK}{N:Nat}{gb g1:Gst}{R:Xit->World->Prop}{φ φ':Fr}{ks:Ks Y}{k k2:List Item}{pt:List Nat}{nx:Cf Y->Prop}(h:Avu Y fn N g0 T R φ gb ks k)(hb:Lx gb g1)(hpt:∀t,inN t pt=true->φ' t=φ t)(hk:∀id,exitTo id k2=exitTo id k)(hnx:∀c f g AH A,g.φ=φ'->Lx g1 g->RG g0 T c f g AH A->nx c->WT Y.P fn N k2 R f g.w):Avu Y fn N g0 T R φ' g1 {nx:=nx,ex:=wrE pt ks.ex,rt:=ks.rt} k2:=by refine⟨hnx,λid q hq=>?_,λc f g AH A k' hl hr hx=>h.rt c f g AH A k' (hb.trans hl) hr hx⟩;obtain⟨q',h1,rfl⟩:=Ax3 hq;obtain⟨k',h2,h3⟩:=h.ex id q' h1;refine⟨k',by rw[hk];exact h2,λc f g AH A hφ hlx hr hx=>?_⟩;obtain⟨hs,hx⟩:=Bj hx;exact h3 _ f {g with φ:=φ} AH A rfl (hb.trans ⟨hlx.ext,hlx.n,hlx.μ⟩) (hr.phi λt ht=>by rw[hr.pt t (Xr hs ht),hφ,hpt t ht]) hx
theorem Azc{g':Gst}{AH' A':Own}{c':Cf Y}{f':Fr}(h:RG g0 T c f g AH A)(hlx:Lx g g')(hφ:g'.φ=f)(hr:RG g0 T c' f' g' AH' A')(hpt:Vu (la.Cq++c.pt) c'.pt=true){K:VT Y la.vars->HH Y->Prop}(hk:cnv la c' K):∃g2 x H AH2 A2,g2.w=g'.w/\g2.φ=f/\Lx g g2/\K x H/\RG g0 T (hdC c la x H) f' g2 AH2 A2:=by obtain⟨g1,x,H,AH1,A1,h1,h2,h3,h4,h5,h6⟩:=Azb hr hk;have hl:=hlx.trans h2.lx;obtain⟨g2,k1,k2,k3,k4⟩:=Ayk h hl.ext hl.μ (λt ht=>by rw[hr.pt t (Xr hpt ht),hφ]) h4 h5 h6;exact⟨g2,x,H,AH1,A1,k1.trans h1,k2,k3,h3,k4⟩
theorem Ky{E:Env Y}{fn:FK}{g0:Gst}{T:Own}{R:Xit->World->Prop}(hR:Kz g0 T E.X (fn.at R)):∀(code:Code){ks:Ks Y}{k:List Item}{c:Cf Y}{f:Fr}{g gb:Gst}{AH A:Own},Avu Y fn E.N g0 T R g.φ gb ks k->Lx gb g->RG g0 T c f g AH A->aex E code c ks->WT Y.P fn E.N (.code code::k) R f g.w
 | .skip,ks,k,c,f,g,gb,AH,A,hk,hb,h,hx=>Aax (hk.nx c f g AH A rfl hb h hx)
 | .label _,ks,k,c,f,g,gb,AH,A,hk,hb,h,hx=>Am2 (hk.nx c f g AH A rfl hb h hx)
 | .seq a b,ks,k,c,f,g,gb,AH,A,hk,hb,h,hx=>by refine Fo (Ky hR a (gb:=gb) (ks:={ks with nx:=λc'=>aex E b c' ks}) ⟨λc' f' g' AH' A' hφ hlx hr hx'=>Ky hR b (by rw[hφ];exact hk) hlx hr hx',λid q hq=>?_,hk.rt⟩ hb h hx);obtain⟨k',h1,h2⟩:=hk.ex id q hq;exact⟨k',h1,h2⟩
 | .region id ops d,ks,k,c,f,g,gb,AH,A,hk,hb,h,hx=>by
  cases d with
  |false=>exact Ef (Aav hR _ h hx λc' f' g' AH' A' hle hr hx'=>hk.nx c' f' g' AH' A' hle.φ (hb.trans hle.lx) hr hx')
  |true=>exact A6b hR h hx λc' f' g' AH' A' hle hr hx'=>hk.nx c' f' g' AH' A' hle.φ (hb.trans hle.lx) hr hx'
 | .cond x a b,ks,k,c,f,g,gb,AH,A,hk,hb,h,hx=>by
  simp only[aex]at hx;have bd:∀{p:BV},(evA c x).bind asB=some p->ev f x=.bool p.val:=λ{p}hp=>by
   cases hz:evA c x with
   |none=>rw[hz]at hp;cases hp
   |some a=>rw[hz]at hp;exact U4 hp (h.ev hz)
  split at hx
  .rename_i hbb;exact Aaw (bd hbb) (Ky hR a hk hb h hx)
  .rename_i hbb;exact V3 (bd hbb) (Ky hR b hk hb h hx)
  .rename_i p d hbb;have hv:=bd hbb;have way:(p->WT Y.P fn E.N (.code a::k) R f g.w)->(¬p->WT Y.P fn E.N (.code b::k) R f g.w)->WT Y.P fn E.N (.code (.cond x a b)::k) R f g.w:=λh1 h2=>@Am3 _ _ _ _ _ _ _ _ _ _ p d hv h1 h2;have way':∀w,w=g.w->(p->WT Y.P fn E.N (.code a::k) R f w)->(¬p->WT Y.P fn E.N (.code b::k) R f w)->WT Y.P fn E.N (.code (.cond x a b)::k) R f g.w:=λw e=>by rw[e];exact way
   split at hx
   .exact way (λhp=>Ky hR a hk hb (Al6 h (by rw[hv];exact congrArg _ (decide_eq_true hp))) (hx.1 hp)) (λhp=>Ky hR b hk hb (Al6 h (by rw[hv];exact congrArg _ (decide_eq_false hp))) (hx.2 hp))
   .rename_i la hla;obtain⟨c,g1,AH,A,⟨M,h1,h2,h3⟩,hw,hle,h,_⟩:=Fi h hx;rw[<-hle.φ]at hk;replace hb:=hb.trans hle.lx;have way:=way' g1.w hw;have hin:RG g0 T {c with pt:=la.Cq++c.pt} f {g1 with φ:=f} AH A:=h.phi λt _=>rfl;have hlx:Lx g1 {g1 with φ:=f}:=⟨Ext.refl _ _,Nat.le_refl _,λ_ _=>rfl⟩
    have hks:Avu Y fn E.N g0 T R f {g1 with φ:=f} {nx:=λc'=>chk (Vu (la.Cq++c.pt) c'.pt) (cnv la c' M),ex:=wrE c.pt ks.ex,rt:=ks.rt} k:=hk.inner (hb.trans hlx) (λt ht=>h.pt t ht) (λ_=>rfl) λc' f' g1' AH' A' hφ hl hr hx'=>by obtain⟨hs,hx'⟩:=Bj hx';obtain⟨g2,x,H,AH2,A2,k1,k2,k3,k4,k5⟩:=Azc h ⟨hl.ext,hl.n,hl.μ⟩ hφ hr hs hx';have:=hk.nx _ f' {g2 with φ:=g1.φ} AH2 A2 rfl (hb.trans ⟨k3.ext,k3.n,k3.μ⟩) (k5.phi λt ht=>by rw[k5.pt t (Ads ht),k2];exact h.pt t ht) (h1 x H k4);rw[<-k1];exact this
    exact way (λhp=>Ky hR a (g:={g1 with φ:=f}) hks (Lx.refl _) hin (h2 hp)) (λhp=>Ky hR b (g:={g1 with φ:=f}) hks (Lx.refl _) hin (h3 hp))
  .exact hx.elim
 | .block id b,ks,k,c,f,g,gb,AH,A,hk,hb,h,hx=>by
  refine Q8 (Ky hR b (gb:=gb) (ks:={ks with ex:=(id,ks.nx)::ks.ex}) ⟨λc' f' g' AH' A' hφ hlx hr hx'=>Q7 (hk.nx c' f' g' AH' A' hφ hlx hr hx'),λid' q hq=>?_,hk.rt⟩ hb h hx);simp only[lkE]at hq;by_cases he:id=id'
  .rw[if_pos he]at hq;cases hq;subst he;exact⟨k,by simp [exitTo],hk.nx⟩
  .rw[if_neg he]at hq;obtain⟨k',h1,h2⟩:=hk.ex id' q hq;exact⟨k',by simp [exitTo,he,h1],h2⟩
 | .exit id,ks,k,c,f,g,gb,AH,A,hk,hb,h,hx=>by
  simp only[aex]at hx;split at hx
  .rename_i q hq;obtain⟨k',h1,h2⟩:=hk.ex id q hq;exact Afa h1 (h2 c f g AH A rfl hb h hx)
  .exact hx.elim
 | .ret,ks,k,c,f,g,gb,AH,A,hk,hb,h,hx=>hk.rt c f g AH A k hb h hx
 | .loop b,ks,k,c,f,g,gb,AH,A,hk,hb,h0,hx=>by
  simp only[aex]at hx;obtain⟨c,g1,AH,A,hx,hw,hle,h,_⟩:=Fi h0 hx;rw[<-hle.φ]at hk;replace hb:=hb.trans hle.lx;rw[<-hw];have key:∀(la:LA)(V:Nat->VT Y la.vars->HH Y->Prop),(∃n,cnv la c (V n))->(∀n x H,V n x H->aex E b (hdC c la x H) {nx:=λc'=>chk (Vu (la.Cq++c.pt) c'.pt) (∃m,m<n/\cnv la c' (V m)),ex:=wrE c.pt ks.ex,rt:=ks.rt})->
    WT Y.P fn E.N (.code (.loop b)::k) R f g1.w:=λla V⟨n,h0⟩hstep=>by
   have hin:RG g0 T {c with pt:=la.Cq++c.pt} f {g1 with φ:=f} AH A:=h.phi λt _=>rfl
   have start:∃g2 x H AH2 A2,g2.w=g1.w/\g2.φ=f/\Lx g1 g2/\V n x H/\RG g0 T (hdC c la x H) f g2 AH2 A2:=by obtain⟨g5,x,H,AH1,A1,h1,h2,h3,h4,h5,h6⟩:=Azb h h0;obtain⟨g2,k1,k2,k3,k4⟩:=Ayk h h2.ext h2.μ (λt ht=>rfl) h4 h5 h6;exact⟨g2,x,H,AH1,A1,k1.trans h1,k2,k3,h3,k4⟩
   refine Aky (λn f' w'=>∃g2 x H AH2 A2,g2.w=w'/\g2.φ=f/\Lx g1 g2/\V n x H/\RG g0 T (hdC c la x H) f' g2 AH2 A2) n ?_ ?_
   .exact start
   .rintro n f' w' ⟨g2,x,H,AH2,A2,rfl,k2,k3,k4,k5⟩ ih
    have hks:Avu Y fn E.N g0 T R g2.φ g2 {nx:=λc'=>chk (Vu (la.Cq++c.pt) c'.pt) (∃m,m<n/\cnv la c' (V m)),ex:=wrE c.pt ks.ex,rt:=ks.rt} (.inLoop b::k):=by rw[k2];refine hk.inner (hb.trans k3) (λt ht=>h.pt t ht) (λ_=>rfl) λc' f2 g1' AH' A' hφ hl hr hx'=>?_;obtain⟨hs,m,hm,hx'⟩:=Bj hx';obtain⟨g3,x',H',AH3,A3,m1,m2,m3,m4,m5⟩:=Azc h (k3.trans hl) hφ hr hs hx';exact ih.out m f2 g1'.w hm ⟨g3,x',H',AH3,A3,m1,m2,m3,m4,m5⟩
    exact Ky hR b hks (Lx.refl _) k5 (hstep n x H k4)
  split at hx
  .rename_i la hla;split at hx
   .obtain⟨V,h0,hs⟩:=hx;exact key la V h0 hs
   .obtain⟨V,h0,hs⟩:=hx;exact key la (λn x H=>H=c.H/\V n x) h0 λn x H⟨he,hv⟩=>by subst he;exact hs n x hv
  .exact hx.elim
 | .rangeFunc _ _ _ _,_,_,_,_,_,_,_,_,_,_,_,hx=>hx.elim
 | .scope b,ks,k,c,f,g,gb,AH,A,hk,hb,h,hx=>by refine Avy (Ky hR b (gb:=gb) (ks:=ks) ⟨λc' f' g' AH' A' hφ hlx hr hx'=>Apz (hk.nx c' f' g' AH' A' hφ hlx hr hx'),λid q hq=>?_,hk.rt⟩ hb h hx);obtain⟨k',h1,h2⟩:=hk.ex id q hq;exact⟨k',by simp [exitTo,h1],h2⟩
 | .goto _,_,_,_,_,_,_,_,_,_,_,_,hx=>hx.elim
 | .refuse _,_,_,_,_,_,_,_,_,_,_,_,hx=>hx.elim
end
end
section
section
variable {Y:Sys}
def P6:(l:List AK)->N8 Y l->Nat->Nat->List (Nat×AV Y)×List (Nat×Seg Y)×Nat
 | [],_,_,n=>([],[],n)
 | .dat .ptr::l,x,i,n=>let r:=P6 l x.2 (i+1) (n+1);((i,.ptr n x.1)::r.1,r.2.1,r.2.2)
 | .dat (.int k)::l,x,i,n=>let r:=P6 l x.2 (i+1) n;((i,.dat (.int k) x.1)::r.1,r.2.1,r.2.2)
 | .dat .bool::l,x,i,n=>let r:=P6 l x.2 (i+1) n;((i,.dat .bool x.1)::r.1,r.2.1,r.2.2)
 | .dat .str::l,x,i,n=>let r:=P6 l x.2 (i+1) n;((i,.dat .str x.1)::r.1,r.2.1,r.2.2)
 | .dat .mref::l,x,i,n=>let r:=P6 l x.2 (i+1) n;((i,.dat .mref x.1)::r.1,r.2.1,r.2.2)
 | .dat (.sl e)::l,x,i,n=>let r:=P6 l x.2 (i+1) n;((i,.dat (.sl e) x.1)::r.1,r.2.1,r.2.2)
 | .dat (.u m)::l,x,i,n=>let r:=P6 l x.2 (i+1) n;((i,.dat (.u m) x.1)::r.1,r.2.1,r.2.2)
 | .own t::l,x,i,n=>let r:=P6 l x.2 (i+1) (n+1);((i,.own n)::r.1,(n,.sl t x.1)::r.2.1,r.2.2)
 | .map k e::l,x,i,n=>let r:=P6 l x.2 (i+1) (n+1);((i,.own n)::r.1,(n,.mp k e x.1)::r.2.1,r.2.2)
 | .mob::l,x,i,n=>let r:=P6 l x.2 (i+1) n;((i,.mob x.1)::r.1,r.2.1,r.2.2)
 | .del t::l,x,i,n=>let r:=P6 l x.2 (i+1) n;((i,.del t x.1 0)::r.1,r.2.1,r.2.2)
 | .fn as rs::l,x,i,n=>let r:=P6 l x.2 (i+1) n;((i,.fn as rs x.1)::r.1,r.2.1,r.2.2)
 | .fbx as rs::l,x,i,n=>let r:=P6 l x.2 (i+1) n;((i,.fbx as rs x.1)::r.1,r.2.1,r.2.2)
def NmR(g:Gst):List AK->Nat->List Value->Prop
 | [],_,_=>True
 | .own _::l,n,vs=>(∃v vs',vs=v::vs'/\n<g.n/\g.μ n=v)/\NmR g l (n+1) vs.tail
 | .map _ _::l,n,vs=>(∃v vs',vs=v::vs'/\n<g.n/\g.μ n=v)/\NmR g l (n+1) vs.tail
 | .dat .ptr::l,n,vs=>NmR g l (n+1) vs.tail
 | .dat (.int _)::l,n,vs=>NmR g l n vs.tail
 | .dat .bool::l,n,vs=>NmR g l n vs.tail
 | .dat .str::l,n,vs=>NmR g l n vs.tail
 | .dat .mref::l,n,vs=>NmR g l n vs.tail
 | .dat (.sl _)::l,n,vs=>NmR g l n vs.tail
 | .dat (.u _)::l,n,vs=>NmR g l n vs.tail
 | .mob::l,n,vs=>NmR g l n vs.tail
 | .del _::l,n,vs=>NmR g l n vs.tail
 | .fn _ _::l,n,vs=>NmR g l n vs.tail
 | .fbx _ _::l,n,vs=>NmR g l n vs.tail
theorem NmR.mono{g g':Gst}(h:Lx g g'):∀{l:List AK}{n:Nat}{vs:List Value},NmR g l n vs->NmR g' l n vs
 | [],_,_,_=>trivial
 | .own _::l,n,vs,⟨⟨v,vs',h1,h2,h3⟩,h4⟩=>⟨⟨v,vs',h1,Nat.lt_of_lt_of_le h2 h.n,by rw[h.μ _ h2];exact h3⟩,NmR.mono h h4⟩
 | .map _ _::l,n,vs,⟨⟨v,vs',h1,h2,h3⟩,h4⟩=>⟨⟨v,vs',h1,Nat.lt_of_lt_of_le h2 h.n,by rw[h.μ _ h2];exact h3⟩,NmR.mono h h4⟩
 | .dat .ptr::l,n,vs,r=>NmR.mono (l:=l) h r
 | .dat (.int _)::l,n,vs,r=>NmR.mono (l:=l) h r
 | .dat .bool::l,n,vs,r=>NmR.mono (l:=l) h r
 | .dat .str::l,n,vs,r=>NmR.mono (l:=l) h r
 | .dat .mref::l,n,vs,r=>NmR.mono (l:=l) h r
 | .dat (.sl _)::l,n,vs,r=>NmR.mono (l:=l) h r
 | .dat (.u _)::l,n,vs,r=>NmR.mono (l:=l) h r
 | .mob::l,n,vs,r=>NmR.mono (l:=l) h r
 | .del _::l,n,vs,r=>NmR.mono (l:=l) h r
 | .fn _ _::l,n,vs,r=>NmR.mono (l:=l) h r
 | .fbx _ _::l,n,vs,r=>NmR.mono (l:=l) h r
theorem Ab2{p:Nat×AV Y}{l:List (Nat×AV Y)}{Q:Nat->AV Y->Prop}(h0:Q p.1 p.2)(h:∀j a,lkF l j=some a->Q j a):∀j a,lkF (p::l) j=some a->Q j a:=λj a hj=>by
 unfold lkF at hj;by_cases he:p.1=j
 .rw[if_pos he]at hj;cases hj;subst he;exact h0
 .rw[if_neg he]at hj;exact h j a hj
theorem Afi{f:Fr}:∀{l:List AK}{x:N8 Y l}{i:Nat}{g:Gst}{vs:List Value}{A:Own},ArR Y g.I g.w l x vs A->(∀j v,vs[j]?=some v->f (i+j)=v)->∃g',Le g g'/\g'.w=g.w/\g'.I=g.I/\g'.n=(P6 l x i g.n).2.2/\(∀j a,lkF (P6 l x i g.n).1 j=some a->AR g' a (f j))/\SgR g' (P6 l x i g.n).2.1 A/\NmR g' l g.n vs
 | [],x,i,g,vs,A,⟨h1,h2⟩,hf=>by subst h1 h2;exact⟨g,Le.refl _,rfl,rfl,rfl,by intro j a h;simp [P6,lkF]at h,rfl,trivial⟩
 |k::l,x,i,g,vs,A,h,hf=>by
  have tl:∀{v:Value}{vs':List Value},vs=v::vs'->f i=v/\∀j u,vs'[j]?=some u->f (i+1+j)=u:=λe=>by subst e;refine⟨hf 0 _ rfl,λj u hu=>?_⟩;have:=hf (j+1) u (by simpa using hu);rwa [Nat.add_assoc,Nat.add_comm 1 j]
  have plain:∀{a:AV Y}{x':N8 Y l}{v:Value}{vs':List Value},vs=v::vs'->AR g a v->ArR Y g.I g.w l x' vs' A->∃g',Le g g'/\g'.w=g.w/\g'.I=g.I/\g'.n=(P6 l x' (i+1) g.n).2.2/\(∀j b,lkF ((i,a)::(P6 l x' (i+1) g.n).1) j=some b->AR g' b (f j))/\SgR g' (P6 l x' (i+1) g.n).2.1 A/\NmR g' l g.n vs.tail:=λe ha hr=>by obtain⟨g',k1,k2,k3,k4,k5,k6,k7⟩:=Afi hr (tl e).2;exact⟨g',k1,k2,k3,k4,Ab2 (Q:=λj b=>AR g' b (f j)) (by show AR g' _ (f i);rw[(tl e).1];exact ha.mono k1) k5,k6,by rw[e];exact k7⟩
  have named:∀{a:AV Y}{s:List (Nat×Seg Y)}{x':N8 Y l}{v:Value}{vs':List Value}{A1 A2:Own},vs=v::vs'->A=A1++A2->(∀g',Le (g.new g.w v) g'->AR g' a v/\SgR g' s A1)->ArR Y g.I g.w l x' vs' A2->
    ∃g',Le g g'/\g'.w=g.w/\g'.I=g.I/\g'.n=(P6 l x' (i+1) (g.n+1)).2.2/\(∀j b,lkF ((i,a)::(P6 l x' (i+1) (g.n+1)).1) j=some b->AR g' b (f j))/\SgR g' (s++(P6 l x' (i+1) (g.n+1)).2.1) A/\NmR g' l (g.n+1) vs.tail/\g.n<g'.n/\g'.μ g.n=v:=λ{a s x' v vs' A1 A2}e eA ha hr=>by
   subst eA
   obtain⟨g',k1,k2,k3,k4,k5,k6,k7⟩:=Afi (g:=g.new g.w v) hr (tl e).2
   exact⟨g',(Le.new (Ext.refl _ _)).trans k1,k2,k3,k4,Ab2 (Q:=λj b=>AR g' b (f j)) (by show AR g' _ (f i);rw[(tl e).1];exact(ha g' k1).1) k5,(ha g' k1).2.app k6,by rw[e];exact k7,Nat.lt_of_lt_of_le (Nat.lt_succ_self _) k1.n,by rw[k1.μ _ (Nat.lt_succ_self _),g.Cz]⟩
  have lt:∀{v:Value},g.n<(g.new g.w v).n:=Nat.lt_succ_self _;cases k with
  |dat t=>
   obtain⟨v,vs',h1,h2,h3⟩:=h;cases t with
   |ptr=>
    obtain⟨g',k1,k2,k3,k4,k5,k6,k7,_,_⟩:=named (a:=.ptr g.n x.1) (s:=[]) (A1:=[]) h1 rfl (λg' hle=>⟨⟨Nat.lt_of_lt_of_le lt hle.n,by rw[hle.μ _ lt,g.Cz],Re.1 h2⟩,rfl⟩) h3;exact⟨g',k1,k2,k3,k4,k5,k6,k7⟩
   |int k=>exact plain (a:=.dat (.int k) x.1) h1 h2 h3
   |bool=>exact plain (a:=.dat .bool x.1) h1 h2 h3
   |str=>exact plain (a:=.dat .str x.1) h1 h2 h3
   |mref=>exact plain (a:=.dat .mref x.1) h1 h2 h3
   |sl e=>exact plain (a:=.dat (.sl e) x.1) h1 h2 h3
   |u m=>exact plain (a:=.dat (.u m) x.1) h1 h2 h3
  |own t=>
   obtain⟨v,vs',A1,A2,h1,h2,h3,h4⟩:=h;obtain⟨g',k1,k2,k3,k4,k5,k6,k7,k8,k9⟩:=named (a:=.own g.n) (s:=[(g.n,.sl t x.1)]) h1 h2 (λg' hle=>⟨(J0 rfl:AR (g.new g.w v) (.own g.n) v).mono hle,A1,[],by simp,Nat.lt_of_lt_of_le lt hle.n,SR.mono hle lt (by show OSl Y t _ _ _ _ _;rw[g.Cz];exact h3),rfl⟩) h4;exact⟨g',k1,k2,k3,k4,k5,k6,⟨v,vs',h1,k8,k9⟩,k7⟩
  |map k e=>
   obtain⟨v,vs',A1,A2,h1,h2,h3,h4⟩:=h;obtain⟨g',k1,k2,k3,k4,k5,k6,k7,k8,k9⟩:=named (a:=.own g.n) (s:=[(g.n,.mp k e x.1)]) h1 h2 (λg' hle=>⟨(J0 rfl:AR (g.new g.w v) (.own g.n) v).mono hle,A1,[],by simp,Nat.lt_of_lt_of_le lt hle.n,SR.mono hle lt (by show OMp Y k e _ _ _ _ _;rw[g.Cz];exact h3),rfl⟩) h4;exact⟨g',k1,k2,k3,k4,k5,k6,⟨v,vs',h1,k8,k9⟩,k7⟩
  |mob=>obtain⟨v,vs',h1,h2,h3⟩:=h;exact plain (a:=.mob x.1) h1 h2 h3
  |del t=>obtain⟨v,vs',h1,h2,h3⟩:=h;exact plain (a:=.del t x.1 0) h1 h2 h3
  |fn as rs=>obtain⟨v,vs',h1,h2,h3⟩:=h;exact plain (a:=.fn as rs x.1) h1 h2 h3
  |fbx as rs=>obtain⟨v,vs',h1,h2,h3⟩:=h;exact plain (a:=.fbx as rs x.1) h1 h2 h3
def ini(l:List AK)(x:N8 Y l)(H:HH Y):Cf Y:={fr:=(P6 l x 0 0).1,sg:=(P6 l x 0 0).2.1,nx:=(P6 l x 0 0).2.2,H:=H,op:=none,hs:=[],pt:=[]}
def Ahb(c:Cf Y):List ResultVar->List RK->Cf Y
 | .tmp t::l,.dat _::ks=>Ahb (W6 c (.tmp t)) l ks
 | .cell a ty::l,.dat _::ks=>Ahb (match lkF c.fr a with |some p=>Ae3 c ty p |none=>c) l ks
 |_::l,_::ks=>Ahb c l ks
 |_,_=>c
theorem As4{g0:Gst}{T AH:Own}{f:Fr}:∀(l:List ResultVar)(ks:List RK){g:Gst}{A:Own}{c:Cf Y},RG g0 T c f g AH A->∃g' A',g'.w=g.w/\Le g g'/\RG g0 T (Ahb c l ks) f g' AH A'
 | [],ks,g,A,c,h=>⟨g,A,rfl,Le.refl _,by unfold Ahb;exact h⟩
 |r::l,[],g,A,c,h=>⟨g,A,rfl,Le.refl _,by cases r<;>exact h⟩
 |r::l,k::ks,g,A,c,h=>by
  have go:∀{c1:Cf Y}{g1:Gst}{A1:Own},g1.w=g.w->Le g g1->RG g0 T c1 f g1 AH A1->∃g' A',g'.w=g.w/\Le g g'/\RG g0 T (Ahb c1 l ks) f g' AH A':=λh1 h2 h3=>by obtain⟨g2,A2,h4,h5,h6⟩:=As4 l ks h3;exact⟨g2,A2,h4.trans h1,h2.trans h5,h6⟩
  cases r with
  |tmp t=>
   cases k with
   |dat ty=>obtain⟨g1,A1,h1,h2,h3⟩:=Pn h (.tmp t);exact go h1 h2 h3
   |own ty=>exact go rfl (Le.refl _) h
   |map k e=>exact go rfl (Le.refl _) h
   |ownO ty=>exact go rfl (Le.refl _) h
  |cell a ty=>
   cases k with
   |dat t=>
    unfold Ahb;split
    .rename_i p _;obtain⟨g1,A1,h1,h2,h3⟩:=Afl h ty p;exact go h1 h2 h3
    .exact go rfl (Le.refl _) h
   |own t=>exact go rfl (Le.refl _) h
   |map k e=>exact go rfl (Le.refl _) h
   |ownO ty=>exact go rfl (Le.refl _) h
def Y4(c:Cf Y):List ResultVar->(List (AV Y)->Prop)->Prop
 | [],k=>k []
 | .tmp t::l,k=>match lkF c.fr t with
  |some a=>Y4 c l λas=>k (a::as)
  |none=>False
 | .cell a ty::l,k=>match lkF c.fr a with
  |some (.adr i o)=>rdX c ty (.adr i o) λb=>Y4 c l λas=>k (b::as)
  |some (.del T d o)=>ldD ty T d o λb=>Y4 c l λas=>k (b::as)
  |_=>False
def Y3(tmps:Array Value):ResultVar->Sem Value
 | .tmp t=>pure (tmps.getD t undef)
 | .cell a t=>do loadVar t (<- asAddr (tmps.getD a undef))
variable {w:World}
theorem Amy{P:Program}{f:Fr}{t ty:TypeId}{a:Nat}{v:Value}{p:Addr}(h:Yld P f (.load t (.tmp a)) ty v w)(hp:f a=.pointer (some p)):(loadVar t p).run P w=.ok v w:=by
 have:=h none "" #[] none;simp only[execOp,Instr.loadAt,X.ev,hp,Instr.sureAddr,Sem.run_bind,Sem.run_pure,Result.andThen_ok]at this;cases hl:(loadVar t p).run P w with
 |ok u w'=>rw[hl]at this;simp only[Result.andThen_ok,Result.ok.injEq,Next.value.injEq]at this;rw[this.1,this.2]
 |halt x w'=>rw[hl]at this;simp [Result.andThen]at this
theorem Wm{g0 g:Gst}{T AH A:Own}{c:Cf Y}{f:Fr}(h:RG g0 T c f g AH A){N:Nat}:∀{l:List ResultVar}{k:List (AV Y)->Prop},Y4 c l k->∃as vs,k as/\F2 (AR g) as vs/\∀a,Is N a f->(l.mapM (Y3 a)).run Y.P g.w=.ok vs g.w
 | [],k,hk=>⟨[],[],hk,.nil,λ_ _=>rfl⟩
 | .tmp t::l,k,hk=>by
  unfold Y4 at hk;split at hk
  .rename_i a ha;obtain⟨as,vs,h1,h2,h3⟩:=Wm (N:=N) h hk;refine⟨a::as,f t::vs,h1,.cons (h.fr t a ha) h2,λarr harr=>?_⟩;have:=harr.2 t;simp [List.mapM_cons,Y3,h3 arr harr];simpa [Array.getD_eq_getD_getElem?] using this
  .exact hk.elim
 | .cell a ty::l,k,hk=>by
  have fin:∀{b:AV Y}{v:Value}{p:Addr},f a=.pointer (some p)->AR g b v->Yld Y.P f (.load ty (.tmp a)) 0 v g.w->(Y4 c l λas=>k (b::as))->∃as vs,k as/\F2 (AR g) as vs/\∀a',Is N a' f->((ResultVar.cell a ty::l).mapM (Y3 a')).run Y.P g.w=.ok vs g.w:=λ{b v p}hp hb hy hk=>by
   obtain⟨as,vs,h1,h2,h3⟩:=Wm (N:=N) h hk;refine⟨b::as,v::vs,h1,.cons hb h2,λarr harr=>?_⟩;have hl:=Amy hy hp;have ht:arr.getD a undef=.pointer (some p):=by rw[harr.2 a,hp]
   simp [List.mapM_cons,Y3,ht,asAddr,hl,h3 arr harr]
  unfold Y4 at hk;split at hk
  .rename_i i o ha;obtain⟨v,b,h1,h2,h3⟩:=Agb (ty:=0) (x:=.tmp a) h hk (h.fr a _ ha);obtain⟨_,bb,_,hp⟩:=h.fr a _ ha;exact fin hp h2 h3 h1
  .rename_i T' d o ha;obtain⟨bb,off,u,k1,k2,k3,k4⟩:=h.fr a _ ha;obtain⟨v,b,h1,h2,h3⟩:=Aqs (ty:=0) (x:=.tmp a) hk k1 k2 k3 k4;exact fin k4 h2 (h3 _ (Sx.refl _)) h1
  .exact hk.elim
variable {F:Func}
theorem Kh{P:Program}{a:Array Value}{vs:List Value}(h:(F.results.toList.mapM (Y3 a)).run P w=.ok vs w):(results F a).run P w=.ok (Qe vs) w:=by
 have e:results F a=(F.results.mapM (Y3 a) >>=λvs=>pure (if h:vs.size=1 then vs[0] else .tuple vs)):=by unfold results;congr 1
 rw[e,Array.mapM_eq_mapM_toList];simp only[Sem.run_bind,map_eq_pure_bind,h,Result.andThen_ok,Sem.run_pure,bind_assoc,pure_bind];cases vs with
 |nil=>rfl
 |cons v vs=>
  cases vs with
  |nil=>rfl
  |cons u vs=>simp [Qe]
def mkR:(l:List RK)->List (AV Y)->List (Nat×Seg Y)->Option (R2 Y l×List (Nat×Seg Y))
 | [],[],sg=>some ((),sg)
 | .dat t::l,a::as,sg=>match asD t a,mkR l as sg with
  |some x,some r=>some ((x,r.1),r.2)
  |_,_=>none
 | .own t::l,a::as,sg=>match Au8 (.own t) a sg with
  |some q=>match mkR l as q.2 with
   |some r=>some ((q.1,r.1),r.2)
   |none=>none
  |none=>none
 | .map k e::l,a::as,sg=>match getM k e a sg with
  |some q=>match mkR l as q.2 with
   |some r=>some ((q.1,r.1),r.2)
   |none=>none
  |none=>none
 |_,_,_=>none
theorem Aly{g:Gst}:∀{l:List RK}{as:List (AV Y)}{sg:List (Nat×Seg Y)}{r:R2 Y l×List (Nat×Seg Y)}{vs:List Value}{A:Own},mkR l as sg=some r->SgR g sg A->F2 (AR g) as vs->∃A1 A2,A.Perm (A1++A2)/\ReR Y g.I g.w l r.1 vs A1/\SgR g r.2 A2
 | [],[],sg,r,_,A,h,hs,.nil=>by cases h;exact⟨[],A,List.Perm.refl _,⟨rfl,rfl⟩,hs⟩
 | .dat t::l,a::as,sg,r,v::vs,A,h,hs,.cons h1 h2=>by
  unfold mkR at h;split at h
  .rename_i x r' hx hr;cases h;obtain⟨A1,A2,h3,h4,h5⟩:=Aly hr hs h2;exact⟨A1,A2,h3,⟨v,vs,rfl,E2 hx h1,h4⟩,h5⟩
  .cases h
 | .own t::l,a::as,sg,r,v::vs,A,h,hs,.cons h1 h2=>by
  unfold mkR at h;split at h
  .rename_i q hq;split at h
   .rename_i r' hr;cases h;obtain⟨B1,B2,k1,k2,k3⟩:=Afk hq hs h1;obtain⟨A1,A2,h3,h4,h5⟩:=Aly hr k3 h2;exact⟨B1++A1,A2,perm_cons k1 h3,⟨v,vs,B1,A1,rfl,rfl,k2,h4⟩,h5⟩
   .cases h
  .cases h
 | .map k e::l,a::as,sg,r,v::vs,A,h,hs,.cons h1 h2=>by
  unfold mkR at h;split at h
  .rename_i q hq;split at h
   .rename_i r' hr;cases h;obtain⟨B1,B2,k1,k2,k3⟩:=Amc (s:=.map k e) hq hs h1;obtain⟨A1,A2,h3,h4,h5⟩:=Aly hr k3 h2;exact⟨B1++A1,A2,perm_cons k1 h3,⟨v,vs,B1,A1,rfl,rfl,k2,h4⟩,h5⟩
   .cases h
  .cases h
 | .ownO _::_,_::_,_,_,_,_,h,_,_=>by simp [mkR]at h
 | [],_::_,_,_,_,_,h,_,_=>by simp [mkR]at h
 |_::_,[],_,_,_,_,h,_,_=>by simp [mkR]at h
def mkI:(l:List AK)->Nat->List (Nat×Seg Y)->Option (U6 Y l×List (Nat×Seg Y))
 | [],_,sg=>some ((),sg)
 | .own t::l,n,sg=>match Au8 (.own t) (.own n) sg with
  |some q=>match mkI l (n+1) q.2 with
   |some r=>some ((q.1,r.1),r.2)
   |none=>none
  |none=>none
 | .map k e::l,n,sg=>match getM k e (.own n) sg with
  |some q=>match mkI l (n+1) q.2 with
   |some r=>some ((q.1,r.1),r.2)
   |none=>none
  |none=>none
 | .dat .ptr::l,n,sg=>mkI l (n+1) sg
 | .dat (.int _)::l,n,sg=>mkI l n sg
 | .dat .bool::l,n,sg=>mkI l n sg
 | .dat .str::l,n,sg=>mkI l n sg
 | .dat .mref::l,n,sg=>mkI l n sg
 | .dat (.sl _)::l,n,sg=>mkI l n sg
 | .dat (.u _)::l,n,sg=>mkI l n sg
 | .mob::l,n,sg=>mkI l n sg
 | .del _::l,n,sg=>mkI l n sg
 | .fn _ _::l,n,sg=>mkI l n sg
 | .fbx _ _::l,n,sg=>mkI l n sg
theorem Wy{g:Gst}:∀{l:List AK}{n:Nat}{vs:List Value}{sg:List (Nat×Seg Y)}{r:U6 Y l×List (Nat×Seg Y)}{A:Own},mkI l n sg=some r->NmR g l n vs->SgR g sg A->∃A1 A2,A.Perm (A1++A2)/\IoR Y g.I g.w l r.1 vs A1/\SgR g r.2 A2
 | [],n,vs,sg,r,A,h,_,hs=>by cases h;exact⟨[],A,List.Perm.refl _,rfl,hs⟩
 | .own t::l,n,vs,sg,r,A,h,⟨⟨v,vs',h1,h2,h3⟩,h4⟩,hs=>by
  simp only[mkI]at h;split at h
  .rename_i q hq;split at h
   .rename_i r' hr;cases h;subst h1;obtain⟨B1,B2,k1,k2,k3⟩:=Afk hq hs (show AR g (.own n) v from ⟨h2,h3.symm⟩);obtain⟨A1,A2,k4,k5,k6⟩:=Wy hr h4 k3;exact⟨B1++A1,A2,perm_cons k1 k4,⟨v,vs',B1,A1,rfl,rfl,k2,k5⟩,k6⟩
   .cases h
  .cases h
 | .map k e::l,n,vs,sg,r,A,h,⟨⟨v,vs',h1,h2,h3⟩,h4⟩,hs=>by
  simp only[mkI]at h;split at h
  .rename_i q hq;split at h
   .rename_i r' hr;cases h;subst h1;obtain⟨B1,B2,k1,k2,k3⟩:=Amc (s:=.map k e) (a:=.own n) (r:=q) hq hs (show AR g (.own n) v from ⟨h2,h3.symm⟩);obtain⟨A1,A2,k4,k5,k6⟩:=Wy hr h4 k3;exact⟨B1++A1,A2,perm_cons k1 k4,⟨v,vs',B1,A1,rfl,rfl,k2,k5⟩,k6⟩
   .cases h
  .cases h
 | .dat t::l,n,vs,sg,r,A,h,hn,hs=>by cases t<;>exact Wy (l:=l) (vs:=vs.tail) h hn hs
 | .mob::l,n,vs,sg,r,A,h,hn,hs=>Wy (l:=l) (vs:=vs.tail) h hn hs
 | .del _::l,n,vs,sg,r,A,h,hn,hs=>Wy (l:=l) (vs:=vs.tail) h hn hs
 | .fn _ _::l,n,vs,sg,r,A,h,hn,hs=>Wy (l:=l) (vs:=vs.tail) h hn hs
 | .fbx _ _::l,n,vs,sg,r,A,h,hn,hs=>Wy (l:=l) (vs:=vs.tail) h hn hs
def rtY(res:List ResultVar)(σ:Sig)(Q:R2 Y σ.res->U6 Y σ.args->HH Y->Prop)(c:Cf Y):Prop:=
 Y4 (Ahb c res σ.res) res λas=>match mkR σ.res as (Ahb c res σ.res).sg,(Ahb c res σ.res).op with
  |some r,none=>match mkI σ.args 0 r.2 with
   |some q=>Q r.1 q.1 (Ahb c res σ.res).H
   |none=>False
  |_,_=>False
def rtX(res:List ResultVar)(σ:Sig)(Q:R2 Y σ.res->U6 Y σ.args->HH Y->Prop)(c:Cf Y):Prop:=cls c (rtY res σ Q)
theorem Amu{I:Reg}:∀{l:List AK}{x:N8 Y l}{vs:List Value}{A:Own},ArR Y I w l x vs A->vs.length=l.length:=by
 intro l;induction l with
 |nil=>intro x vs A h;rw[h.1];rfl
 |cons k l ih=>
  intro x vs A h;cases k with
  |dat t=>obtain⟨v,vs',h1,_,h3⟩:=h;rw[h1];simp [ih h3]
  |own t=>obtain⟨v,vs',A1,A2,h1,_,_,h3⟩:=h;rw[h1];simp [ih h3]
  |map k e=>obtain⟨v,vs',A1,A2,h1,_,_,h3⟩:=h;rw[h1];simp [ih h3]
  |mob=>obtain⟨v,vs',h1,_,h3⟩:=h;rw[h1];simp [ih h3]
  |del t=>obtain⟨v,vs',h1,_,h3⟩:=h;rw[h1];simp [ih h3]
  |fn as rs=>obtain⟨v,vs',h1,_,h3⟩:=h;rw[h1];simp [ih h3]
  |fbx as rs=>obtain⟨v,vs',h1,_,h3⟩:=h;rw[h1];simp [ih h3]
theorem Awp{gi g:Gst}{σ:Sig}{N:Nat}{Q:R2 Y σ.res->U6 Y σ.args->HH Y->Prop}{vs:List Value}(k7:NmR g σ.args 0 vs){T:Own}{c:Cf Y}{f:Fr}{g':Gst}{AH' A':Own}(hlx:Lx g g')(hr:RG gi T c f g' AH' A')(hx:rtX F.results.toList σ Q c):∃v,(∀a,Is N a f->(results F a).run Y.P g'.w=.ok v g'.w)/\((∃v' I',Ending.returned v=.returned v'/\Ext gi.I gi.w I' g'.w/\∃AH' A' H',St I' g'.w (AH'++(A'++T))/\HpR (HK' Y) I' g'.w H' AH'/\∃b io us A1 A2,A'=A1++A2/\v'=Qe us/\ReR Y I' g'.w σ.res b us A1/\IoR Y I' g'.w σ.args io vs A2/\Q b io H')):=by
 have fin0:∀(c:Cf Y)(f:Fr)(g':Gst)(AH' A':Own),Lx g g'->RG gi T c f g' AH' A'->rtY F.results.toList σ Q c->∃v,(∀a,Is N a f->(results F a).run Y.P g'.w=.ok v g'.w)/\
   ((∃v' I',Ending.returned v=.returned v'/\Ext gi.I gi.w I' g'.w/\∃AH' A' H',St I' g'.w (AH'++(A'++T))/\HpR (HK' Y) I' g'.w H' AH'/\∃b io us A1 A2,A'=A1++A2/\v'=Qe us/\ReR Y I' g'.w σ.res b us A1/\IoR Y I' g'.w σ.args io vs A2/\Q b io H')):=λc f g' AH' A' hlx hr hx=>by
  obtain⟨g1,A1,m1,m2,m3⟩:=As4 F.results.toList σ.res hr
  obtain⟨as,us,n1,n2,n3⟩:=Wm (N:=N) m3 hx
  split at n1
  .rename_i r hr' hop
   split at n1
   .rename_i q' hq'
    obtain⟨B1,B2,p1,p2,p3⟩:=Aly hr' m3.sg n2
    obtain⟨C1,C2,q1,q2,q3⟩:=Wy hq' (k7.mono (hlx.trans m2.lx)) p3
    have hH':=m3.hr
    rw[hop]at hH'
    refine⟨Qe us,λa ha=>by rw[<-m1];exact Kh (n3 a ha),Qe us,g1.I,rfl,by rw[<-m1];exact m3.le,AH',B1++C1,_,?_,by rw[<-m1];exact hH',r.1,q'.1,us,B1,C1,rfl,rfl,by rw[<-m1];exact p2,by rw[<-m1];exact q2,n1⟩
    rw[<-m1]
    have hp:A1.Perm ((B1++C1)++C2):=perm_cons p1 q1
    have h1:=m3.st.perm ((hp.append_right T).append_left AH')
    rw[List.append_assoc]at h1
    have:St g1.I g1.w ((AH'++(B1++C1))++(C2++T)):=by simpa [List.append_assoc] using h1
    simpa [List.append_assoc] using Fv this
   .exact n1.elim
  .exact n1.elim
 obtain⟨c1,g1,AH1,A1,hq,hw,hle,hr1,_,_⟩:=Fi hr hx;rw[<-hw];exact fin0 c1 f g1 AH1 A1 (hlx.trans hle.lx) hr1 hq
theorem At2{E:Env Y}{q:FuncId}{σ:Sig}{code:Code}{a:N8 Y σ.args}{H:HH Y}{Q:R2 Y σ.res->U6 Y σ.args->HH Y->Prop}(hf:Y.P.funcs[q]?=some F)(hb:F.body=some code)(hN:F.ntmps=E.N)(hl:Nat.ble σ.args.length E.N=true)(h:aex E code (ini σ.args a H) {nx:=rtX F.results.toList σ Q,ex:=[],rt:=rtX F.results.toList σ Q}):Wp Y q σ a H Q E.X:=by
 intro I w T A AH vs hargs hH hst;refine Zz hf hb hN (by rw[Amu hargs];exact hl) ?_;let gi:Gst:={I:=I,w:=w,n:=0,μ:=λ_=>undef,φ:=fr0 vs}
 obtain⟨g,k1,k2,k3,k4,k5,k6,k7⟩:=Afi (g:=gi) (i:=0) (f:=fr0 vs) hargs (λj v hj=>by rw[Nat.zero_add,<-Sg,hj];rfl);have hr:RG gi T (ini σ.args a H) (fr0 vs) g AH A:=⟨k4,k1.ext,by rw[k2,k3];exact hst,by show HpR _ _ _ _ _;rw[k2,k3];exact hH,k6,λx hx=>(by cases hx),λt ht=>(by simp [ini,inN]at ht),k5⟩
 have fin:∀(c:Cf Y)(f:Fr)(g':Gst)(AH' A':Own),Lx g g'->RG gi T c f g' AH' A'->rtX F.results.toList σ Q c->_:=λc f g' AH' A' hlx hr hx=>Awp (N:=E.N) k7 hlx hr hx;have hR:Kz gi T E.X ((⟨q,none,[]⟩:FK).at (Avq Y.P F E.N λe w'=>(∃v I',e=.returned v/\Ext I w I' w'/\∃AH' A' H',St I' w' (AH'++(A'++T))/\HpR (HK' Y) I' w' H' AH'/\∃b io us A1 A2,A'=A1++A2/\v=Qe us/\ReR Y I' w' σ.res b us A1/\IoR Y I' w' σ.args io vs A2/\Q b io H') ∨
   (∃v I',e=.panicked [{v,recovered:=false}]/\Ext I w I' w'/\∃AH' H' t l u,St I' w' (AH'++T)/\HpR (HK' Y) I' w' H' AH'/\v=.iface t u/\rp Y.toUS l.t I' w' u l.x/\E.X t l H'))):=λv w' I' AH' H' t l u h1 h2 h3 h4 h5 h6 _=>.inr ⟨v,I',rfl,h1,AH',H',t,l,u,h2,h3,h4,h5,h6⟩
 have:=Ky (fn:=⟨q,none,[]⟩) (gb:=g) hR code (k:=[]) ⟨λc f g' AH' A' _ hlx hr hx=>?_,λid q hq=>by simp [lkE]at hq,λc f g' AH' A' k' hlx hr hx=>?_⟩ (Lx.refl g) hr h
 .rw[k2]at this;exact this
 .obtain⟨v,h1,v',I',h2,h3,h4⟩:=fin c f g' AH' A' hlx hr hx;exact Acz ⟨v,h1,.inl ⟨v',I',h2,h3,h4⟩⟩
 .obtain⟨v,h1,v',I',h2,h3,h4⟩:=fin c f g' AH' A' hlx hr hx;exact Ui ⟨v,h1,.inl ⟨v',I',h2,h3,h4⟩⟩
end
end
end Go.Y
