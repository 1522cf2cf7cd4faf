/- Lean texts of the claim. -/
import Derived.Test.YtpbchbcdgikonaaGreatQ03
import Derived.Sort.Grow
namespace Go.Proofs.YtpbchbcdgikonaaGreat
set_option linter.unusedVariables false
set_option linter.unusedSimpArgs false
set_option maxRecDepth 100000
set_option maxHeartbeats 4000000
open Go.RowKit
theorem ah (A:Option Addr) (cap n:Nat) (l:List (Int×Int)) (w:World) (hl:n<=9223372036854775807) (hcap:n<=cap) (hs:SpS w A n l) (hc:¬Bf l n=0) :
 Calls Tryz.prog 86 #[.slice A n cap] w fun e w'=>e=.returned (.tuple #[.slice none 0 0,.int .i64 (Bf l n)])/\Below w.heap.size w w':=by
 have q:(Bf l n != 0)=true:=by rw[bne_iff_ne];exact hc
 clear hc;go_enter Tryz.func86,Tryz.ntmps86
 go_wp2_with (go_at_call 33;refine(Cz _ _ _ l _ hl hcap hs).mono ?_;rintro e w1 ⟨rfl,hb1⟩)
 go_ret2
 exact⟨rfl,hb1⟩
theorem gz (A:Option Addr) (cap n:Nat) (l:List (Int×Int)) (w:World) (hl:n<=9223372036854775807) (hcap:n<=cap) (hs:SpS w A n l) (hc:¬Bf l n=0) :
 Calls Tryz.prog 59 #[.slice A n cap] w fun e w'=>e=.returned (.tuple #[.slice none 0 0,.int .i64 (Bf l n)])/\Below w.heap.size w w':=by
 have q:(Bf l n != 0)=true:=by rw[bne_iff_ne];exact hc
 have hno:=ah A cap n l w hl hcap hs hc;have HNO:=Lib.hid hno;clear hno hc;go_enter Tryz.func59,Tryz.ntmps59
 go_wp2_with (go_at_call 86;refine HNO.out.mono ?_;rintro e w1 ⟨rfl,hb1⟩)
 go_ret2
 exact⟨rfl,hb1⟩
theorem D9 {l:List (Int×Int)} {n:Nat} (h:Bf l n=0):3<=n/\n<=40:=by
 refine⟨?_,?_⟩
 ·rcases Nat.lt_or_ge n 3 with h1|h1
  ·rw[Mj h1] at h;omega
  ·exact h1
 ·rcases Nat.lt_or_ge 40 n with h1|h1
  ·rw[J9 h1] at h;omega
  ·exact h1
def Aaq (w:World) (l:List (Int×Int)) (n:Nat) (e:Ending) (w':World):Prop :=
 Below w.heap.size w w'/\((¬Bf l n=0/\e=.returned (.tuple #[.slice none 0 0,.int .i64 (Bf l n)])) \/
  (Bf l n=0/\C6 (Cm l n).length (Cm l n) []=none/\e=.returned (.tuple #[.slice none 0 0,.int .i64 11])) \/
  (Bf l n=0/\∃ts v,C6 (Cm l n).length (Cm l n) []=some ts/\e=.returned (.tuple #[v,.int .i64 0])/\H6 w' w.heap.size v ts))
theorem ia (A:Option Addr) (cap n:Nat) (l:List (Int×Int)) (w:World) (hl:n<=9223372036854775807) (hcap:n<=cap) (hs:SpS w A n l) :
 Calls Tryz.prog 59 #[.slice A n cap] w (Aaq w l n):=by
 by_cases hc:Bf l n=0
 ·have hn:=D9 hc
  obtain⟨b,off,rfl,-,-⟩:=hs.at_ (k:=0) (by omega)
  refine(uw b off cap n l w (by omega) hcap hs hc).mono ?_
  intro e w' h;obtain⟨h1,h2⟩:=h;refine⟨h1,.inr ?_⟩;cases hsp:C6 (Cm l n).length (Cm l n) [] with
  | none=>rw[hsp] at h2;exact .inl ⟨hc,rfl,h2⟩
  | some ts =>
    rw[hsp] at h2;obtain⟨v,h3,h4⟩:=h2;exact .inr ⟨hc,ts,v,rfl,h3,h4⟩
 ·exact(gz A cap n l w hl hcap hs hc).mono fun e w' ⟨he,hb⟩=>⟨hb,.inl ⟨hc,he⟩⟩
theorem Mi (x y:Int) (w:World):Calls Tryz.prog 81 #[.int .i64 x,.int .i64 y] w fun e w'=>e=.returned (.int .i64 (Er x y))/\w=w':=by
 go_enter Tryz.func81,Tryz.ntmps81
 go_wp2_with (go_at_call 118;refine(Tp _ _).mono ?_;rintro e w' ⟨rfl,rfl⟩)
 all_goals go_ret
 all_goals exact⟨Bh (by unfold Er;(repeat split)<;>omega),rfl⟩
def orI:List Int->Int
 | []=>0
 | x::l=>if x != 0 then x else orI l
theorem Ac8 {l:List Int} {k:Nat} {x:Int} (h:∀j,j<k->l[j]? = some 0) (hk:l[k]? = some x) (hx:(x != 0)=true):orI l=x:=by
 induction l generalizing k with
 | nil=>simp at hk
 | cons a l ih =>
   cases k with
   | zero=>simp at hk;subst hk;unfold orI;rw[if_pos hx]
   | succ k =>
     have h0:=h 0 (by omega)
     simp at h0;subst h0;rw[show orI (0::l)=orI l from rfl]
     exact ih (k:=k) (fun j hj=>by simpa using h (j+1) (by omega)) (by simpa using hk)
theorem xp {l:List Int} (h:∀j,j<l.length->l[j]? = some 0):orI l=0:=by
 induction l with
 | nil=>rfl
 | cons a l ih =>
   have h0:=h 0 (by simp)
   simp at h0;subst h0;rw[show orI (0::l)=orI l from rfl]
   exact ih (fun j hj=>by simpa using h (j+1) (by simp;omega))
theorem Abh (b cap n:Nat) (l:List Int) (w:World) (hn:l.length=n) (hl:n<=1000) (hc:∀(k:Nat) (x:Int),l[k]? = some x->w.cell? ⟨b,k,none⟩=some (.int .i64 x)) :
 Calls Tryz.prog 133 #[.slice (some ⟨b,0,none⟩) n cap] w fun e w'=>e=.returned (.int .i64 (orI l))/\w=w':=by
 have HN:=Lib.hid hn;have HCC:=Lib.hid hc;clear hn hc;go_enter Tryz.func133,Tryz.ntmps133;go_wp2_with fail
 go_loop [8] (fun i=>∃k:Nat,k<=n/\i=.int .i64 k/\Hid (∀j,j<k->l[j]? = some 0)) (fun i=>n-(intOf i).toNat)
 case atStart=>exact⟨0,Nat.zero_le _,rfl,fun j hj=>absurd hj (by omega)⟩
 case round =>
  obtain⟨k,hk,rfl,hp⟩:=hrel;by_cases hlt:k<n
  ·obtain⟨x,hx⟩:∃x,l[k]? = some x:=⟨_,List.getElem?_eq_getElem (by rw[HN.out];exact hlt)⟩
   have h1:=HCC.out k x hx;have HX:=Lib.hid hx;clear hx;by_cases h0:(x != 0)=true
   ·go_wp2_with fail
    go_ret;exact⟨Bh (Ac8 hp.out HX.out h0).symm,rfl⟩
   ·have h0':(x != 0)=false:=by simpa using h0
    have hx0:x=0:=by simpa using h0'
    have HX0:=Lib.hid hx0;clear h0 hx0;go_wp2_with fail
    go_round
    case rel =>
     refine⟨k+1,by omega,by go_num,fun j hj=>?_⟩
     rcases Nat.lt_or_ge j k with hj'|hj'
     ·exact hp.out j hj'
     ·have:j=k:=by omega
      rw[this,HX.out,HX0.out]
    case measure=>simp[intOf];omega
  ·obtain rfl:n=k:=by omega
   go_wp2_with fail;go_ret;exact⟨Bh (xp (fun j hj=>hp.out j (by rw[HN.out] at hj;exact hj))).symm,rfl⟩
def G1 (p q:Int×Int):Int:=orI [Er p.1 q.1,Er p.2 q.2]
theorem Wc (ax ay bx bY:Int):orI [Er ax bx,Er ay bY]=G1 (ax,ay) (bx,bY):=rfl
def GrW (w:World) (w':World):Prop:=∃q os,w'=Sort.grow (w.drewN q) os
theorem GrW.refl (w:World):GrW w w:=⟨0,#[],by rw[Sort.grow_empty];rfl⟩
theorem GrW.alloc {w w':World} (h:GrW w w') (o:Obj):GrW w (w'.alloc o):=by
 obtain⟨q,os,rfl⟩:=h;exact⟨q,os++#[o],by rw[Sort.alloc_eq_grow,Sort.grow_grow]⟩
theorem GrW.drew {w w':World} (h:GrW w w'):GrW w w'.drew:=by
 obtain⟨q,os,rfl⟩:=h;exact⟨q+1,os,rfl⟩
theorem GrW.below {w w':World} (h:GrW w w'):Below w.heap.size w w':=by
 obtain⟨q,os,rfl⟩:=h;refine⟨rfl,rfl,rfl,by simp[Sort.grow],fun k hk=>?_⟩
 show (w.heap++os)[k]? = _
 rw[Array.getElem?_append_left hk]
theorem or2 (b:Nat) (tb:TypeId) (x y:Int) (w:World) (h:Bb w b tb #[.int .i64 x,.int .i64 y]) :
 Calls Tryz.prog 133 #[.slice (some ⟨b,0,none⟩) 2 2] w fun e w'=>e=.returned (.int .i64 (orI [x,y]))/\w=w' :=
 Abh b 2 2 [x,y] w rfl (by omega) (fun k z hz=>by
  match k,hz with
  | 0,hz=>simp at hz;subst hz;exact h.cell 0
  | 1,hz=>simp at hz;subst hz;exact h.cell 1)
theorem Br {P:Program} {id:Nat} {Q:Exit->Act->World->Prop} {a:Act} {w:World} {l:List Oper} (n:Nat) (hm:P.follows .mixedOrders=true) (hB:Region.lexTailB .any l.toArray n=true)
 (h:wpStill P l.toArray w.drew (fun a'=>wpList P l.toArray Q (l.drop n) a' w.drew) (l.take n) a):(Code.region id l.toArray true).wp P Q a w:=wp_region_still_tail n hm hB h
theorem Dl (x y:Int) (w:World):Calls Tryz.prog 81 #[.int .i64 x,.int .i64 y] w fun e w'=>e=.returned (.int .i64 (Er x y))/\w'=w :=
 (Mi x y w).mono fun _ _ ⟨h1,h2⟩=>⟨h1,h2.symm⟩
theorem Nt (ax ay bx bY:Int) (w:World) :
 Calls Tryz.prog 184 #[.agg #[.int .i64 ax,.int .i64 ay],.agg #[.int .i64 bx,.int .i64 bY]] w fun e w'=>e=.returned (.int .i64 (G1 (ax,ay) (bx,bY)))/\GrW w w':=by
 go_enter Tryz.func184,Tryz.ntmps184;go_wp2_with fail;refine Br 10 (by kernel_rfl) (by kernel_rfl) ?_
 simp only[List.take_succ_cons,List.take_zero,List.drop_succ_cons,List.drop_zero]
 repeat still_step
 still_call (Dl _ _ _)
 repeat still_step
 still_call (Dl _ _ _)
 refine wpStill_nil ?_
 go_wp2_with (go_at_call 133;refine(or2 _ _ _ _ _ (Bb.drew (Bb.new3 _ _ _ _ _))).mono ?_;rintro e w1 ⟨rfl,rfl⟩)
 go_ret;exact⟨Bh (Wc _ _ _ _),GrW.drew (GrW.alloc (GrW.alloc (GrW.alloc (GrW.refl _) _) _) _)⟩
theorem zz (ax ay bx bY:Int) (w:World) :
 Calls Tryz.prog 244 #[.agg #[.int .i64 ax,.int .i64 ay],.agg #[.int .i64 bx,.int .i64 bY]] w fun e w'=>e=.returned (.int .i64 (G1 (ax,ay) (bx,bY)))/\GrW w w':=by
 go_enter Tryz.func244,Tryz.ntmps244;go_wp2_with fail;refine Br 10 (by kernel_rfl) (by kernel_rfl) ?_
 simp only[List.take_succ_cons,List.take_zero,List.drop_succ_cons,List.drop_zero]
 repeat still_step
 still_call (Dl _ _ _)
 repeat still_step
 still_call (Dl _ _ _)
 refine wpStill_nil ?_
 go_wp2_with (go_at_call 133;refine(or2 _ _ _ _ _ (Bb.drew (Bb.new3 _ _ _ _ _))).mono ?_;rintro e w1 ⟨rfl,rfl⟩)
 go_ret;exact⟨Bh (Wc _ _ _ _),GrW.drew (GrW.alloc (GrW.alloc (GrW.alloc (GrW.refl _) _) _) _)⟩
theorem yu (ax ay bx bY:Int) (w:World) :
 Calls Tryz.prog 132 #[.agg #[.int .i64 ax,.int .i64 ay],.agg #[.int .i64 bx,.int .i64 bY]] w fun e w'=>e=.returned (.int .i64 (G1 (ax,ay) (bx,bY)))/\GrW w w':=by
 go_enter Tryz.func132,Tryz.ntmps132;go_wp2_with fail;refine Br 10 (by kernel_rfl) (by kernel_rfl) ?_
 simp only[List.take_succ_cons,List.take_zero,List.drop_succ_cons,List.drop_zero]
 repeat still_step
 still_call (Dl _ _ _)
 repeat still_step
 still_call (Dl _ _ _)
 refine wpStill_nil ?_
 go_wp2_with (go_at_call 133;refine(or2 _ _ _ _ _ (Bb.drew (Bb.new3 _ _ _ _ _))).mono ?_;rintro e w1 ⟨rfl,rfl⟩)
 go_ret;exact⟨Bh (Wc _ _ _ _),GrW.drew (GrW.alloc (GrW.alloc (GrW.alloc (GrW.refl _) _) _) _)⟩
def Km (p q:Int×Int) (b:List (Int×Int)):Nat->Int
 | 0 => -1
 | k+1=>max (Km p q b k) (Er (Bo p q (gt b k)) 0)
def Gy (a b:List (Int×Int)) (na nb:Nat):Nat->Int
 | 0=>1
 | k+1=>min (Gy a b na nb k) (Km (gt a k) (gt a ((k+1) % na)) b nb)
def Xl (a b:List (Int×Int)):Int:=Gy a b a.length b.length a.length
def Dv (a b:List (Int×Int)):Int:=min (Xl a b) (Xl b a)
theorem Sy (A B:Option Addr) (ca cb na nb:Nat) (a b:List (Int×Int)) (w:World) (hna:na<=1000000) (hnb:nb<=1000000) (hsA:SpS w A na a) (hsB:SpS w B nb b) :
 Calls Tryz.prog 93 #[.slice A na ca,.slice B nb cb] w fun e w'=>e=.returned (.int .i64 (Gy a b na nb na))/\Below w.heap.size w w':=by
 go_enter Tryz.func93,Tryz.ntmps93;go_wp2_with fail;go_loopw [5,15] (fun r i wr=>∃k:Nat,k<=na/\i=.int .i64 k/\r=.int .i64 (Gy a b na nb k)/\Below w.heap.size w wr) (fun _ i _=>na-(intOf i).toNat)
 case atStart=>exact⟨0,Nat.zero_le _,rfl,rfl,Below.refl _ _⟩
 case round =>
  obtain⟨k,hk,rfl,rfl,hb⟩:=hrel;by_cases hlt:k<na
  ·obtain⟨ba,oa,rfl,hbl,hc⟩:=(hsA.keep hb).at_ hlt
   have hm1:(k+1) % na<na:=Nat.mod_lt _ (by omega)
   obtain⟨h1,h2⟩:=hc k hlt;obtain⟨h3,h4⟩:=hc _ hm1;clear hc;have m1:=(X4 ((k:Int)+1) (k+1) na rfl (by omega)).2
   go_wp2_with fail;clear h1 h2 h3 h4 m1;have hC0:Cls w [(⟨wr.heap.size,0,none⟩,.int .i64 (gt a k).1),(⟨wr.heap.size,1,none⟩,.int .i64 (gt a k).2),(⟨wr.heap.size+1,0,none⟩,.int .i64 (gt a ((k+1) % na)).1),(⟨wr.heap.size+1,1,none⟩,.int .i64 (gt a ((k+1) % na)).2)] ((wr.alloc (.cells #[.int .i64 (gt a k).1,.int .i64 (gt a k).2] 49)).alloc (.cells #[.int .i64 (gt a ((k+1) % na)).1,.int .i64 (gt a ((k+1) % na)).2] 49)):=⟨An (An hb _) _,by simp only[List.mem_cons,List.not_mem_nil,forall_eq_or_imp,or_false,forall_eq];go_simp⟩
   obtain⟨B0,hB0⟩:∃B0,B0=wr.heap.size:=⟨_,rfl⟩
   rw[<-hB0] at hC0 ⊢;have HC0:=Lib.hid hC0;clear hC0;go_loopw [9,30] (fun r i wx=>∃j:Nat,j<=nb/\i=.int .i64 j/\r=.int .i64 (Km (gt a k) (gt a ((k+1) % na)) b j)/\Cls w [(⟨B0,0,none⟩,.int .i64 (gt a k).1),(⟨B0,1,none⟩,.int .i64 (gt a k).2),(⟨B0+1,0,none⟩,.int .i64 (gt a ((k+1) % na)).1),(⟨B0+1,1,none⟩,.int .i64 (gt a ((k+1) % na)).2)] wx) (fun _ i _=>nb-(intOf i).toNat)
   case atStart=>exact⟨0,Nat.zero_le _,rfl,rfl,HC0.out⟩
   case round =>
    clear HC0 hB0 hb hbl;obtain⟨j,hj,rfl,rfl,hC⟩:=hrel;have hx:=hC.2;simp only[List.mem_cons,List.not_mem_nil,forall_eq_or_imp,or_false,forall_eq] at hx;have hBl0:B0<wr.heap.size:=Bj hx.1;have hBl1:B0+1<wr.heap.size:=Bj hx.2.2.1;by_cases hjn:j<nb
    ·obtain⟨bb,ob,rfl,hbb,hc⟩:=(hsB.keep hC.1).at_ hjn
     obtain⟨h1,h2⟩:=hc j hjn;clear hc
     go_wp2_with (go_at_call 81;refine(Mi _ _ _).mono ?_;rintro e w1 ⟨rfl,rfl⟩)
     all_goals exact⟨⟨j+1,by omega,by go_num,by simp only[Km,Bo];congr 1;omega,An hC.1 _,fun x hx'=>(hC.call (An (Below.refl _ _) _)).2 x hx'⟩,by simp[intOf];omega⟩
    ·obtain rfl:nb=j:=by omega
     go_wp2_with fail;all_goals exact⟨⟨k+1,by omega,by go_num,by simp only[Gy];congr 1;omega,hC.1⟩,by simp[intOf];omega⟩
  ·obtain rfl:na=k:=by omega
   go_wp2_with fail;go_ret;exact⟨rfl,hb⟩
theorem V9 (A B:Option Addr) (ca cb na nb:Nat) (a b:List (Int×Int)) (w:World) (hna:na<=1000000) (hnb:nb<=1000000) (hsA:SpS w A na a) (hsB:SpS w B nb b) :
 Calls Tryz.prog 60 #[.slice A na ca,.slice B nb cb] w fun e w'=>e=.returned (.int .i64 (Dv a b))/\Below w.heap.size w w':=by
 have e1:=Lib.hid (show Dv a b=min (Gy a b na nb na) (Gy b a nb na nb) by unfold Dv Xl;rw[hsA.1,hsB.1])
 go_enter Tryz.func60,Tryz.ntmps60
 go_wp2_with (go_at_call 93;first|(refine(Sy _ _ _ _ _ _ b a _ hnb hna (hsB.keep hb1) (hsA.keep hb1)).mono ?_;rintro e w2 ⟨rfl,hb2⟩)|(refine(Sy _ _ _ _ _ _ a b _ hna hnb hsA hsB).mono ?_;rintro e w1 ⟨rfl,hb1⟩))
 all_goals go_ret
 all_goals exact⟨Bh (by rw[e1.out];omega),Ao hb1 hb2⟩
def lt_ (ls:List (List (Int×Int))) (k:Nat):List (Int×Int):=ls.getD k []
theorem N7 {ls:List (List (Int×Int))} {k:Nat} (h:k<ls.length):ls[k]? = some (lt_ ls k):=by
 unfold lt_;rw[List.getD,List.getElem?_eq_getElem h];rfl
def Ab7 (w:World) (A:Option Addr) (n:Nat) (ls:List (List (Int×Int))):Prop :=
 ls.length=n/\(n=0\/∃b off,A=some ⟨b,off,none⟩/\∀k,k<n->∃Ak ck,w.cell? ⟨b,off+k,none⟩=some (.slice Ak (lt_ ls k).length ck)/\(lt_ ls k).length<=ck/\SpS w Ak (lt_ ls k).length (lt_ ls k)/\(Ak=none->ck=0))
theorem Ab7.at_ {w:World} {A:Option Addr} {n:Nat} {ls:List (List (Int×Int))} (h:Ab7 w A n ls) {k:Nat} (hk:k<n):∃b off Ak ck,A=some ⟨b,off,none⟩/\b<w.heap.size/\w.cell? ⟨b,off+k,none⟩=some (.slice Ak (lt_ ls k).length ck)/\(lt_ ls k).length<=ck/\SpS w Ak (lt_ ls k).length (lt_ ls k)/\(Ak=none->ck=0):=by
 obtain⟨h1,h⟩:=h;rcases h with rfl|⟨b,off,rfl,h⟩
 ·omega
 ·obtain⟨Ak,ck,e1,e2,e3,e4⟩:=h k hk
  exact⟨b,off,Ak,ck,rfl,Bj e1,e1,e2,e3,e4⟩
theorem Ab7.keep {w w':World} {A:Option Addr} {n:Nat} {ls:List (List (Int×Int))} (h:Ab7 w A n ls) (hb:Below w.heap.size w w'):Ab7 w' A n ls:=by
 refine⟨h.1,?_⟩;obtain⟨h1,h⟩:=h;rcases h with rfl|⟨b,off,rfl,h⟩
 ·exact .inl rfl
 ·refine .inr ⟨b,off,rfl,fun k hk=>?_⟩
  obtain⟨Ak,ck,e1,e2,e3,e4⟩:=h k hk;exact⟨Ak,ck,Aq hb e1,e2,e3.keep hb,e4⟩
theorem H6.spss {w:World} {base:Nat} {v:Value} {ls:List (List (Int×Int))} (h:H6 w base v ls):∃A c,v=.slice A ls.length c/\ls.length<=c/\Ab7 w A ls.length ls/\(A=none->c=0):=by
 obtain⟨vs,h1,h2,h3,h4⟩:=h;rcases OwG.form h1 with ⟨rfl,rfl⟩|⟨g,cap,rfl,g1,g2,g3,g4⟩
 ·have:ls=[]:=List.eq_nil_of_length_eq_zero (by rw[<-h2];rfl)
  subst this;exact⟨none,0,rfl,Nat.le_refl _,⟨rfl,.inl rfl⟩,fun _=>rfl⟩
 ·refine⟨_,cap,by rw[<-h2],by rw[<-h2];exact g3,⟨rfl,.inr ⟨g,0,rfl,fun k hk=>?_⟩⟩,fun h=>by cases h⟩
  have hkv:k<vs.length:=by rw[h2];exact hk
  obtain⟨u,hu⟩:∃u,vs[k]? = some u:=⟨_,List.getElem?_eq_getElem hkv⟩
  have c0:=OwG.cells h1 k (by omega)
  have f0:=Bp Ri vs k 0 u hu (by omega)
  rw[Nat.mul_one,Nat.add_zero] at f0;rw[f0] at c0;obtain⟨Ak,ck,rfl,e2,e3,e4,_⟩:=h4 k u (lt_ ls k) hu (N7 hk);exact⟨Ak,ck,by rw[Nat.zero_add];exact c0,e2,e3,e4⟩
def Jp (s:List (Int×Int)) (ts:List (List (Int×Int))) (c0:Int):Nat->Int
 | 0=>c0
 | k+1=>max (Jp s ts c0 k) (Dv s (lt_ ts k))
def Fq (ss ts:List (List (Int×Int))):Nat->Int
 | 0 => -1
 | k+1=>Jp (lt_ ss k) ts (Fq ss ts k) ts.length
def Ba (l:List (Int×Int)):Int×List (List (Int×Int)) :=
 if Bf l l.length=0 then (match C6 (Cm l l.length).length (Cm l l.length) [] with|none=>(11,[])|some ts=>(0,ts)) else (Bf l l.length,[])
def tc (w:World) (r:Int×List (List (Int×Int))) (e:Ending) (w':World):Prop :=
 ∃v,e=.returned (.tuple #[v,.int .i64 r.1])/\H6 w' w.heap.size v r.2/\Below w.heap.size w w'
theorem D8 (A:Option Addr) (cap n:Nat) (l:List (Int×Int)) (w:World) (hl:n<=9223372036854775807) (hcap:n<=cap) (hs:SpS w A n l) :
 Calls Tryz.prog 59 #[.slice A n cap] w (tc w (Ba l)):=by
 refine(ia A cap n l w hl hcap hs).mono ?_;rintro e w' ⟨hb,⟨h1,rfl⟩|⟨h1,h2,rfl⟩|⟨h1,ts,v,h2,rfl,h3⟩⟩
 ·refine⟨.slice none 0 0,?_,?_,hb⟩
  ·unfold Ba;rw[hs.1,if_neg h1]
  ·unfold Ba;rw[hs.1,if_neg h1];exact H6.nil
 ·refine⟨.slice none 0 0,?_,?_,hb⟩
  ·unfold Ba;rw[hs.1,if_pos h1,h2]
  ·unfold Ba;rw[hs.1,if_pos h1,h2];exact H6.nil
 ·refine⟨v,?_,?_,hb⟩
  ·unfold Ba;rw[hs.1,if_pos h1,h2]
  ·unfold Ba;rw[hs.1,if_pos h1,h2];exact h3
theorem Sn:∀(f:Nat) (cur:List (Int×Int)) (ts r:List (List (Int×Int))),cur.length<=f+3->(∀t∈ts,t.length<=3)->C6 f cur ts=some r->r.length<=ts.length+f+1/\∀t∈r,t.length<=3:=by
 intro f;induction f with
 | zero =>
   intro cur ts r hc ht h;rw[show C6 0 cur ts=some (ts++[cur]) from rfl] at h
   injection h with h;subst h
   refine⟨by simp,fun t h=>?_⟩
   rcases List.mem_append.1 h with h|h
   ·exact ht t h
   ·simp at h;subst h;omega
 | succ f ih =>
   intro cur ts r hc ht h;by_cases h3:cur.length<=3
   ·rw[Pd h3] at h
    injection h with h;subst h
    refine⟨by simp,fun t h=>?_⟩
    rcases List.mem_append.1 h with h|h
    ·exact ht t h
    ·simp at h;subst h;omega
   ·rcases Hs (Sh cur cur.length) cur.length with h1|⟨i,hi,h1⟩
    ·rcases Hs (F0 cur cur.length) cur.length with h2|⟨i,hi,h2⟩
     ·rw[Nh rfl h3 (by rw[h1];omega) (by rw[h2];omega)] at h;cases h
     ·rw[Pe rfl h3 (by rw[h1];omega) h2] at h
      obtain⟨g1,g2⟩:=ih _ _ _ (by rw[List.length_eraseIdx_of_lt hi];omega) (fun t h=>by
       rcases List.mem_append.1 h with h|h
       ·exact ht t h
       ·simp at h;subst h;simp[Aax]) h
      refine⟨by rw[List.length_append] at g1;simp at g1;omega,g2⟩
    ·rw[Pc rfl h3 h1] at h
     obtain⟨g1,g2⟩:=ih _ _ _ (by rw[List.length_eraseIdx_of_lt hi];omega) ht h
     exact⟨by omega,g2⟩
theorem C8 (l:List (Int×Int)):(Ba l).2.length<=41/\∀t∈(Ba l).2,t.length<=3:=by
 unfold Ba;by_cases hc:Bf l l.length=0
 ·rw[if_pos hc]
  cases h:C6 (Cm l l.length).length (Cm l l.length) [] with
  | none=>simp
  | some ts =>
    have h1:=Sn _ _ _ _ (by omega) (by simp) h
    have h2:=ky l l.length;have h3:=D9 hc;refine⟨?_,h1.2⟩;have:=h1.1;simp at this
    show ts.length<=41
    omega
 ·rw[if_neg hc];simp
theorem It {ls:List (List (Int×Int))} {k:Nat} (h:k<ls.length):lt_ ls k∈ls:=List.mem_of_getElem? (N7 h)
def Sw (a b:List (Int×Int)):Int×Int :=
 if (Ba a).1≠0 then (0,(Ba a).1) else if (Ba b).1≠0 then (0,(Ba b).1) else (Fq (Ba a).2 (Ba b).2 (Ba a).2.length,0)
def Ej (a b:List (Int×Int)):Bool×Int:=((Sw a b).2 == 0&&(Sw a b).1 == 1,(Sw a b).2)
theorem Abc {a b:List (Int×Int)} (h:¬(Ba a).1=0):Sw a b=(0,(Ba a).1):=by unfold Sw;rw[if_pos h]
theorem Abb {a b:List (Int×Int)} (h:(Ba a).1=0) (h2:¬(Ba b).1=0):Sw a b=(0,(Ba b).1):=by unfold Sw;rw[if_neg (by simpa using h),if_pos h2]
theorem jh {a b:List (Int×Int)} (h:(Ba a).1=0) (h2:(Ba b).1=0):Sw a b=(Fq (Ba a).2 (Ba b).2 (Ba a).2.length,0):=by unfold Sw;rw[if_neg (by simpa using h),if_neg (by simpa using h2)]
theorem Md (A B:Option Addr) (ca cb na nb:Nat) (a b:List (Int×Int)) (w:World) (hna:na<=9223372036854775807) (hnb:nb<=9223372036854775807) (hca:na<=ca) (hcb:nb<=cb) (hsA:SpS w A na a) (hsB:SpS w B nb b) :
 Calls Tryz.prog 34 #[.slice A na ca,.slice B nb cb] w fun e w'=>e=.returned (.tuple #[.int .i64 (Sw a b).1,.int .i64 (Sw a b).2])/\Below w.heap.size w w':=by
 by_cases h1:(Ba a).1=0
 ·by_cases h2:(Ba b).1=0
  ·have hrel0:=Lib.hid (jh h1 h2)
   have sA:=C8 a;have sB:=C8 b;have HA:=Lib.hid sA.2;have HB:=Lib.hid sB.2;replace sA:=sA.1;replace sB:=sB.1;obtain⟨ss,hss⟩:∃ss,(Ba a).2=ss:=⟨_,rfl⟩
   obtain⟨ts,hts⟩:∃ts,(Ba b).2=ts:=⟨_,rfl⟩
   rw[hss] at hrel0 HA sA;rw[hts] at hrel0 HB sB;have HSS:=Lib.hid hss;have HTS:=Lib.hid hts;clear hss hts;go_enter Tryz.func34,Tryz.ntmps34
   go_upto_region 8 with (go_at_call 59;first|(refine(D8 _ _ _ b _ hnb hcb (hsB.keep hb1)).mono ?_;rintro e w2 ⟨v2,rfl,ho2,hb2⟩;rw[HTS.out] at ho2)|(refine(D8 _ _ _ a _ hna hca hsA).mono ?_;rintro e w1 ⟨v1,rfl,ho1,hb1⟩;rw[HSS.out] at ho1))
   obtain⟨A1,c1,rfl,hc1,hS1,-⟩:=(ho1.keep hb2).spss;obtain⟨A2,c2,rfl,hc2,hS2,-⟩:=ho2.spss;have hb:=Ao hb1 hb2;clear ho1 ho2 hb1 hb2;obtain⟨ns,hns⟩:∃ns,ss.length=ns:=⟨_,rfl⟩
   obtain⟨nt,hnt⟩:∃nt,ts.length=nt:=⟨_,rfl⟩
   rw[hns] at hS1 hc1 sA ⊢;rw[hnt] at hS2 hc2 sB ⊢;have HNS:=Lib.hid hns;have HNT:=Lib.hid hnt;clear hns hnt;go_wp2_with fail;go_loopw [9,32] (fun r i wr=>∃k:Nat,k<=ns/\i=.int .i64 k/\r=.int .i64 (Fq ss ts k)/\Below w2.heap.size w2 wr) (fun _ i _=>ns-(intOf i).toNat)
   case atStart=>exact⟨0,Nat.zero_le _,rfl,rfl,Below.refl _ _⟩
   case round =>
    obtain⟨k,hk,rfl,rfl,hbr⟩:=hrel;by_cases hlt:k<ns
    ·obtain⟨b1,o1,Ak,ck,rfl,hbl,e1,e2,e3,e4⟩:=(hS1.keep hbr).at_ hlt
     have l1:(lt_ ss k).length<=3:=HA.out _ (It (by rw[HNS.out];exact hlt))
     obtain⟨nk,hnk⟩:∃nk,(lt_ ss k).length=nk:=⟨_,rfl⟩
     rw[hnk] at e1 e2 e3 l1;clear hnk;go_wp2_with fail;clear e1;obtain⟨wo,rfl⟩:∃wo:World,wo=wr:=⟨_,rfl⟩
     go_loopw [9,38] (fun r i wx=>∃j:Nat,j<=nt/\i=.int .i64 j/\r=.int .i64 (Jp (lt_ ss k) ts (Fq ss ts k) j)/\Below wo.heap.size wo wx) (fun _ i _=>nt-(intOf i).toNat)
     case atStart=>exact⟨0,Nat.zero_le _,rfl,rfl,Below.refl _ _⟩
     case round =>
      obtain⟨j,hj,rfl,rfl,hbx⟩:=hrel;by_cases hjn:j<nt
      ·obtain⟨b2,o2,Aj,cj,rfl,hbl2,g1,g2,g3,g4⟩:=(hS2.keep (Ao hbr hbx)).at_ hjn
       have l2:(lt_ ts j).length<=3:=HB.out _ (It (by rw[HNT.out];exact hjn))
       obtain⟨nj,hnj⟩:∃nj,(lt_ ts j).length=nj:=⟨_,rfl⟩
       rw[hnj] at g1 g2 g3 l2;clear hnj
       go_wp2_with (go_at_call 60;refine(V9 _ _ _ _ _ _ (lt_ ss k) (lt_ ts j) _ (by omega) (by omega) (e3.keep hbx) g3).mono ?_;rintro e w5 ⟨rfl,hb5⟩)
       all_goals exact⟨⟨j+1,by omega,by go_num,by simp only[Jp];congr 1;omega,Ao hbx hb5⟩,by simp[intOf];omega⟩
      ·obtain rfl:nt=j:=by omega
       have e9:=Lib.hid (show Fq ss ts (k+1)=Jp (lt_ ss k) ts (Fq ss ts k) nt by simp only[Fq];rw[HNT.out])
       go_wp2_with fail;exact⟨⟨k+1,by omega,by go_num,by rw[e9.out],Ao hbr hbx⟩,by simp[intOf];omega⟩
    ·obtain rfl:ns=k:=by omega
     go_wp2_with fail
     go_ret2
     exact⟨by rw[hrel0.out,HNS.out];rfl,Ao hb hbr⟩
  ·have hr:=Lib.hid (Abb h1 h2)
   have q2:((Ba b).1 != 0)=true:=by simpa using h2
   go_enter Tryz.func34,Tryz.ntmps34
   go_wp2_with (go_at_call 59;first|(refine(D8 _ _ _ b _ hnb hcb (hsB.keep hb1)).mono ?_;rintro e w2 ⟨v2,rfl,ho2,hb2⟩)|(refine(D8 _ _ _ a _ hna hca hsA).mono ?_;rintro e w1 ⟨v1,rfl,ho1,hb1⟩))
   go_ret2
   exact⟨by rw[hr.out];rfl,Ao hb1 hb2⟩
 ·have hr:=Lib.hid (Abc (b:=b) h1)
  have q2:((Ba a).1 != 0)=true:=by simpa using h1
  go_enter Tryz.func34,Tryz.ntmps34
  go_wp2_with (go_at_call 59;refine(D8 _ _ _ a _ hna hca hsA).mono ?_;rintro e w1 ⟨v1,rfl,ho1,hb1⟩)
  go_ret2
  exact⟨by rw[hr.out];rfl,hb1⟩
theorem Ez (A B:Option Addr) (ca cb na nb:Nat) (a b:List (Int×Int)) (w:World) (hna:na<=9223372036854775807) (hnb:nb<=9223372036854775807) (hca:na<=ca) (hcb:nb<=cb) (hsA:SpS w A na a) (hsB:SpS w B nb b) :
 Calls Tryz.prog 18 #[.slice A na ca,.slice B nb cb] w fun e w'=>e=.returned (.tuple #[.bool (Ej a b).1,.int .i64 (Ej a b).2])/\Below w.heap.size w w':=by
 by_cases h:(Sw a b).2=0
 ·have q:((Sw a b).2 == 0)=true:=by simpa using h
  have e1:=Lib.hid (show Ej a b=((Sw a b).1 == 1,(Sw a b).2) by unfold Ej;rw[q,Bool.true_and])
  clear h;go_enter Tryz.func18,Tryz.ntmps18
  go_wp2_with (go_at_call 34;refine(Md _ _ _ _ _ _ a b _ hna hnb hca hcb hsA hsB).mono ?_;rintro e w1 ⟨rfl,hb1⟩)
  all_goals go_ret2
  all_goals exact⟨by rw[e1.out];rfl,hb1⟩
 ·have q:((Sw a b).2 == 0)=false:=by simpa using h
  have e1:=Lib.hid (show Ej a b=(false,(Sw a b).2) by unfold Ej;rw[q,Bool.false_and])
  clear h;go_enter Tryz.func18,Tryz.ntmps18
  go_wp2_with (go_at_call 34;refine(Md _ _ _ _ _ _ a b _ hna hnb hca hcb hsA hsB).mono ?_;rintro e w1 ⟨rfl,hb1⟩)
  all_goals go_ret2
  all_goals exact⟨by rw[e1.out];rfl,hb1⟩
def Adt (r:List (Int×Int)) (n:Nat) (d:Int×Int) (i:Nat):Bool:=decide (0<Bo (gt r i) (gt r ((i+1) % n)) d)
def Hf (r:List (Int×Int)) (d:Int×Int):Bool:=Jq (Adt r r.length d) r.length&&decide (0<r.length)
theorem Tq (A:Option Addr) (cap n:Nat) (l:List (Int×Int)) (x y:Int) (w:World) (hn:n<=1000000) (hs:SpS w A n l) :
 Calls Tryz.prog 224 #[.slice A n cap,.agg #[.int .i64 x,.int .i64 y]] w fun e w'=>e=.returned (.bool (Hf l (x,y)))/\Below w.heap.size w w':=by
 have hI:=Lib.hid (show Hf l (x,y)=(Jq (Adt l n (x,y)) n&&decide (0<n)) by unfold Hf;rw[hs.1])
 go_enter Tryz.func224,Tryz.ntmps224;go_wp2_with fail;go_loopw [10] (fun i wr=>∃k:Nat,k<=n/\i=.int .i64 k/\Hid (Jq (Adt l n (x,y)) k=true)/\Cls w [(⟨w.heap.size,0,none⟩,.int .i64 x),(⟨w.heap.size,1,none⟩,.int .i64 y)] wr) (fun i _=>n-(intOf i).toNat)
 case atStart=>exact⟨0,Nat.zero_le _,rfl,Jq.zero _,(An (Below.refl _ _) _),by simp only[List.mem_cons,List.not_mem_nil,forall_eq_or_imp,or_false,forall_eq];go_simp⟩
 case round =>
  obtain⟨k,hk,rfl,hp,hC⟩:=hrel;by_cases hlt:k<n
  ·obtain⟨ba,oa,rfl,hbl,hc⟩:=(hs.keep hC.1).at_ hlt
   have hm1:(k+1) % n<n:=Nat.mod_lt _ (by omega)
   obtain⟨h1,h2⟩:=hc k hlt;obtain⟨h3,h4⟩:=hc _ hm1;clear hc;have hx:=hC.2;simp only[List.mem_cons,List.not_mem_nil,forall_eq_or_imp,or_false,forall_eq] at hx;have hwl:w.heap.size<wr.heap.size:=Bj hx.1;have m1:=(X4 ((k:Int)+1) (k+1) n rfl (by omega)).2
   by_cases hcr:Bo ((gt l k).1,(gt l k).2) ((gt l ((k+1) % n)).1,(gt l ((k+1) % n)).2) (x,y)<=0
   ·have HC:=Lib.hid hcr
    clear hcr;have hq:=HC.out;unfold Bo at hq;go_wp2_with fail;go_ret;have e:Adt l n (x,y) k=false:=by unfold Adt;have:=HC.out;simp at this ⊢;omega
    exact⟨Bn (by rw[hI.out,Jq.no hlt e];rfl),An (An hC.1 _) _⟩
   ·have HC:=Lib.hid hcr
    clear hcr;have hq:=HC.out;unfold Bo at hq;go_wp2_with fail;have e:Adt l n (x,y) k=true:=by unfold Adt;have:=HC.out;simp at this ⊢;omega
    exact⟨⟨k+1,by omega,by go_num,Jq.succ hp.out e,hC.call (An (An (Below.refl _ _) _) _)⟩,by simp[intOf];omega⟩
  ·obtain rfl:n=k:=by omega
   go_wp2_with fail;go_ret;exact⟨Bn (by rw[hI.out,hp.out];simp),hC.1⟩
def Cj (rs:List (List (Int×Int))) (d:Int×Int):Bool:=!Ce 2097152 d&&Bq (fun i=>Hf (lt_ rs i) d) rs.length
theorem Ou (A:Option Addr) (cap n:Nat) (ls:List (List (Int×Int))) (x y:Int) (w:World) (hn:n<=1000000) (hl:∀t∈ls,t.length<=1000000) (hs:Ab7 w A n ls) :
 Calls Tryz.prog 183 #[.slice A n cap,.agg #[.int .i64 x,.int .i64 y]] w fun e w'=>e=.returned (.bool (Cj ls (x,y)))/\Below w.heap.size w w':=by
 have hB:=Lib.hid (show Cj ls (x,y)=(!Ce 2097152 (x,y)&&Bq (fun i=>Hf (lt_ ls i) (x,y)) n) by unfold Cj;rw[hs.1])
 have HL:=Lib.hid hl;have HN:=Lib.hid hs.1;clear hl;by_cases ho:Ce 2097152 (x,y)=true
 ·have hq:=ho
  unfold Ce at hq;simp only[Bool.or_eq_true,decide_eq_true_eq] at hq;have HO:=Lib.hid ho;clear ho;go_enter Tryz.func183,Tryz.ntmps183;go_upto_region 3 with fail
  all_goals first
   | (go_ret;exact⟨Bn (by rw[hB.out,HO.out];rfl),An (Below.refl _ _) _⟩)
   | (exfalso;omega)
 ·have hq:=ho
  unfold Ce at hq;simp only[Bool.or_eq_true,decide_eq_true_eq,not_or] at hq;have HO:=Lib.hid (show Ce 2097152 (x,y)=false by simpa using ho)
  clear ho;go_enter Tryz.func183,Tryz.ntmps183;go_wp2_with fail;go_loopw [27] (fun i wr=>∃k:Nat,k<=n/\i=.int .i64 k/\Hid (Bq (fun i=>Hf (lt_ ls i) (x,y)) k=false)/\Cls w [(⟨w.heap.size,0,none⟩,.int .i64 x),(⟨w.heap.size,1,none⟩,.int .i64 y)] wr) (fun i _=>n-(intOf i).toNat)
  case atStart=>exact⟨0,Nat.zero_le _,rfl,Bq.zero _,(An (Below.refl _ _) _),by simp only[List.mem_cons,List.not_mem_nil,forall_eq_or_imp,or_false,forall_eq];go_simp⟩
  case round =>
   obtain⟨k,hk,rfl,hp,hC⟩:=hrel;by_cases hlt:k<n
   ·obtain⟨b1,o1,Ak,ck,rfl,hbl,e1,e2,e3,e4⟩:=(hs.keep hC.1).at_ hlt
    have l1:(lt_ ls k).length<=1000000:=HL.out _ (It (by rw[HN.out];exact hlt))
    obtain⟨nk,hnk⟩:∃nk,(lt_ ls k).length=nk:=⟨_,rfl⟩
    rw[hnk] at e1 e2 e3 l1;clear hnk;have hx:=hC.2;simp only[List.mem_cons,List.not_mem_nil,forall_eq_or_imp,or_false,forall_eq] at hx
    go_wp2_with (go_at_call 224;refine(Tq _ _ _ (lt_ ls k) _ _ _ (by omega) e3).mono ?_;rintro e w1 ⟨rfl,hb1⟩)
    ·go_ret
     exact⟨Bn (by rw[hB.out,HO.out,Bq.yes hlt (by assumption)];rfl),Ao hC.1 hb1⟩
    ·exact⟨⟨k+1,by omega,by go_num,Bq.succ hp.out (by simpa using ‹_›),hC.call hb1⟩,by simp[intOf];omega⟩
   ·obtain rfl:n=k:=by omega
    go_wp2_with fail;go_ret;exact⟨Bn (by rw[hB.out,hp.out];simp),hC.1⟩
theorem dv (ad:Addr) (cap n:Nat) (l:List (Int×Int)) (w:World) (hn:n<=1000000) (hs:SpS w (some ad) n l) :
 Calls Tryz.prog 243 #[.slice (some ad) n cap] w (Zk w l):=by
 have heq:=fun (w:World)=>Lib.run_eql_slice_nil (P:=Tryz.prog) w 54 49 (some ad) n cap 0 0 Tryz.underlying54
 have hE:OwS (w.alloc (.cells #[] 49)) w.heap.size (.slice (some ⟨w.heap.size,0,none⟩) 0 0) []:=World.ownsRow_lit w #[] 0 (Nat.le_refl _) (Nat.zero_le _) rfl;go_enter Tryz.func243,Tryz.ntmps243
 go_wp2_with (at_builtin;refine Ff rfl _ _ rfl w.heap.size _ [] rfl hE (some ad) n cap l rfl (hs.keep (An (Below.refl _ _) _)) (fun h=>by cases h) (by simp;omega) (An (Below.refl _ _) _).size ?_;intro v' w' ho' hg' hat')
 go_ret;exact⟨v',rfl,by simpa using ho',Bm (An (Below.refl _ _) _) hE hg'⟩
def O0 (l:List (Int×Int)):List (Int×Int):=l.map fun p=>(wrap64 (-p.1),wrap64 (-p.2))
theorem Q3 (l:List (Int×Int)):(O0 l).length=l.length:=by simp[O0]
theorem au (n:Nat):(madeCells (Value.agg #[Value.int IntKind.i64 0,Value.int IntKind.i64 0]).cells (n*2)).toList=(List.replicate n ((0:Int),(0:Int))).flatMap enS:=by
 apply List.ext_getElem?;intro j;rcases Nat.lt_or_ge j (n*2) with hj|hj
 ·have h:=Bp Ci (List.replicate n ((0:Int),(0:Int))) (j / 2) (j % 2) (0,0) (by rw[List.getElem?_replicate,if_pos (by omega)]) (by omega)
  rw[show j / 2*2+j % 2=j by omega] at h
  rw[h];have e:(Value.agg #[Value.int IntKind.i64 0,Value.int IntKind.i64 0]).cells=#[.int .i64 0,.int .i64 0]:=by kernel_rfl
  rw[e];unfold madeCells;rw[Array.getElem?_toList,Array.getElem?_map,Array.getElem?_range,if_pos hj];rcases Nat.mod_two_eq_zero_or_one j with h2|h2<;>simp[h2,enS]
 ·rw[List.getElem?_eq_none (by rw[Array.length_toList,size_madeCells];exact hj),List.getElem?_eq_none (by rw[Cy Ci];simpa using hj)]
theorem He (n:Nat) (hn:n<=1000000):∃Z:Array Value,(∀w,(Instr.makeSlice 54 (.int .i64 (n:Int)) (.int .i64 (n:Int))).run Tryz.prog w=.ok (.slice (some ⟨w.heap.size,0,none⟩) n n) (w.alloc (.cells Z 49)))/\∀w:World,OwS (w.alloc (.cells Z 49)) w.heap.size (.slice (some ⟨w.heap.size,0,none⟩) n n) (List.replicate n (0,0)):=by
 obtain⟨i,hi,hz0,hz1,hz2⟩:=info_parts Vq;refine⟨madeCells (Value.agg #[Value.int IntKind.i64 0,Value.int IntKind.i64 0]).cells (n*2),fun w=>?_,fun w=>?_⟩
 ·have hr:=run_make (P:=Tryz.prog) w 54 49 i (.agg #[.int .i64 0,.int .i64 0]) Tryz.underlying54 hi hz0 .i64 .i64 n n (by omega) (by omega) (by rw[hz2];omega) (by omega)
  rw[hz1] at hr;simpa using hr
 ·unfold OwS OwG
  rw[List.length_replicate,<-au];exact World.ownsRow_lit w _ n (Nat.le_refl _) (by unfold maxLen;omega) (size_madeCells _ _)
theorem Adg {l:List (Int×Int)} {p:Nat} (hp:p<l.length):gt (O0 l) p=(wrap64 (-(gt l p).1),wrap64 (-(gt l p).2)):=by
 unfold gt O0;rw[List.getD,List.getElem?_map,List.getD,List.getElem?_eq_getElem hp];rfl
theorem Ps (A:Option Addr) (cap n:Nat) (l:List (Int×Int)) (w:World) (hn:n<=1000000) (hs:SpS w A n l) :
 Calls Tryz.prog 217 #[.slice A n cap] w (Zk w (O0 l)):=by
 obtain⟨Z,hmk,hZ⟩:=He n hn;go_enter Tryz.func217,Tryz.ntmps217;go_wp2_with fail;go_loopw [11] (fun i wr=>∃(k:Nat) (z:List (Int×Int)),k<=n/\i=.int .i64 k/\z.length=n/\(∀p,p<k->gt z p=(wrap64 (-(gt l p).1),wrap64 (-(gt l p).2)))/\OwS wr w.heap.size (.slice (some ⟨w.heap.size,0,none⟩) n n) z/\Below w.heap.size w wr) (fun i _=>n-(intOf i).toNat)
 case atStart=>exact⟨0,_,Nat.zero_le _,rfl,List.length_replicate,fun p hp=>absurd hp (Nat.not_lt_zero _),hZ w,An (Below.refl _ _) _⟩
 case round =>
  clear hmk hZ;obtain⟨k,z,hk,rfl,hz,hp,ho,hb⟩:=hrel;by_cases hlt:k<n
  ·obtain⟨b,off,rfl,hbl,hc⟩:=(hs.keep hb).at_ hlt
   obtain⟨h1,h2⟩:=hc k hlt;clear hc;obtain⟨c1,c2,f1,f2⟩:=ho.cells hz hlt;have hgl:w.heap.size<wr.heap.size:=Bj c1;go_wp2_with fail;refine⟨⟨k+1,z.set k (wrap64 (-(gt l k).1),wrap64 (-(gt l k).2)),by omega,by go_num,by rw[List.length_set];exact hz,fun p h=>?_,(ho.store hz hlt _ _).alloc _,An (Bc (Bc hb (p:=⟨w.heap.size,k*2,none⟩) (Nat.le_refl _) _) (p:=⟨w.heap.size,k*2+1,none⟩) (Nat.le_refl _) _) _⟩,by simp[intOf];omega⟩
   rw[Kq (by rw[hz];exact hlt)]
   by_cases h2:k=p
   ·rw[if_pos h2,h2]
   ·rw[if_neg h2];exact hp p (by omega)
  ·obtain rfl:n=k:=by omega
   go_wp2_with fail;go_ret;refine⟨_,rfl,?_,hb⟩;rw[show O0 l=z from Fz (by rw[Q3,hs.1,hz]) (fun p h=>by rw[Q3] at h;rw[Adg h,hp p (by rw[<-hs.1];exact h)])]
   exact ho
end Go.Proofs.YtpbchbcdgikonaaGreat
