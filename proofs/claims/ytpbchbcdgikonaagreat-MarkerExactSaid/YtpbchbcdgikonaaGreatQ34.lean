/- Lean texts of the claim. -/
import Derived.Test.YtpbchbcdgikonaaGreatQ30
import Derived.Test.YtpbchbcdgikonaaGreatQ33
namespace Go.Proofs.YtpbchbcdgikonaaGreat
set_option linter.unusedVariables false
set_option linter.unusedSimpArgs false
set_option maxRecDepth 100000
set_option maxHeartbeats 4000000
open Go.RowKit
def Zn:Array Value:=#[.string ⟨#[]⟩,.slice none 0 0,.int .i64 0,.slice none 0 0,.slice none 0 0,.slice none 0 0,.bool false]
def zPc:PieceP:=⟨⟨#[]⟩,[],0,[],[],[],false⟩
theorem Afs (w:World):PcV w Zn zPc:=⟨none,0,none,0,none,0,none,0,rfl,⟨Nat.le_refl _,by omega,rfl,.inl rfl⟩,⟨Nat.le_refl _,by omega,rfl,.inl rfl⟩,⟨Nat.le_refl _,by omega,rfl,.inl rfl⟩,Nat.le_refl _,by omega,rfl,.inl rfl⟩
def R5 (w:World) (r:List EdgeP×Int) (p:PieceP) (e:Ending) (w':World):Prop:=∃A c vs p',e=.returned (.tuple #[.slice A r.1.length c,.agg vs,.int .i64 r.2])/\r.1.length<=c/\c<=9223372036854775807/\EdS w' A r.1.length r.1/\PcV w' vs p'/\(r.2=0->p'=p)/\Below w.heap.size w w'
theorem R5.none_ {w w':World} {x:Int} {p:PieceP} (hx:x≠0) (hb:Below w.heap.size w w'):R5 w ([],x) p (.returned (.tuple #[.slice none 0 0,.agg Zn,.int .i64 x])) w':=⟨none,0,Zn,zPc,rfl,Nat.le_refl _,by omega,⟨rfl,.inl rfl⟩,Afs _,fun h=>absurd h hx,hb⟩
theorem Afb {w:World} {g base:Nat} {w0:World} (h:Below base w0 w) (hg:base<=g) (a b c d e f k:Value):Below base w0 (((((((w.setCell ⟨g,0,none⟩ a).setCell ⟨g,1,none⟩ b).setCell ⟨g,2,none⟩ c).setCell ⟨g,3,none⟩ d).setCell ⟨g,4,none⟩ e).setCell ⟨g,5,none⟩ f).setCell ⟨g,6,none⟩ k) :=
 Below.setCell (Below.setCell (Below.setCell (Below.setCell (Below.setCell (Below.setCell (Below.setCell h hg _) hg _) hg _) hg _) hg _) hg _) hg _
theorem Dq (w:World) (g o:Nat) (u:Value) {j:Nat} (h:j≠g):(w.setCell ⟨g,o,none⟩ u).heap[j]? = w.heap[j]? := Below.heap_setCell w ⟨g,o,none⟩ u j h
theorem Ajr (w:World) (j:Nat):w.drew.heap[j]? = w.heap[j]? := rfl
theorem Ajs (w:World) (g:Nat) (a b c d e f k:Value) {j:Nat} (h:j≠g):(World.drew (((((((w.setCell ⟨g,0,none⟩ a).setCell ⟨g,1,none⟩ b).setCell ⟨g,2,none⟩ c).setCell ⟨g,3,none⟩ d).setCell ⟨g,4,none⟩ e).setCell ⟨g,5,none⟩ f).setCell ⟨g,6,none⟩ k)).heap[j]? = w.heap[j]? := by
 rw[Ajr,Dq _ _ _ _ h,Dq _ _ _ _ h,Dq _ _ _ _ h,Dq _ _ _ _ h,Dq _ _ _ _ h,Dq _ _ _ _ h,Dq _ _ _ _ h]
theorem Alb (vs:Array Value) (s:StyleP) (z u:Int) (w:World) (hsm:SmS s) (hv:StV w vs s) (h:Bt s≠0):Calls Tryz.prog 28 #[.agg vs,.int .i64 z,.int .i64 u] w (R5 w ([],Bt s) (Cl s u)):=by
 obtain⟨c,hc⟩:∃c,Bt s=c:=⟨_,rfl⟩
 rw[hc] at h ⊢;have HC:=Lib.hid hc;have HN:=Lib.hid h;have hne:(c != 0)=true:=by simpa using h
 clear hc h;have hv0:=hv;obtain⟨A1,c1,A2,c2,A3,c3,A4,c4,A5,c5,A6,c6,rfl,⟨v1,v2,v3⟩,⟨v4,v5,v6⟩,⟨v7,v8,v9⟩,⟨v10,v11,v12⟩,⟨v13,v14,v15⟩,v16,v17⟩:=hv;go_enter Tryz.func28,Tryz.ntmps28;go_upto_region 1 with fail;refine Ar (fun X=>Below w.heap.size w X/\Bb X w.heap.size 29 #[.string s.nm,.slice A1 s.sz.length c1,.slice A2 s.mu.length c2,.slice A3 s.pc.length c3,.slice A4 s.us.length c4,.slice A5 s.se.length c5,.slice A6 s.no c6]/\Bb X (w.heap.size+1) 64 #[.string ⟨#[]⟩,.slice none 0 0,.int .i64 0,.slice none 0 0,.slice none 0 0,.slice none 0 0,.bool false]) ⟨An (An (Below.refl _ _) _) _,(Bb.new _ _ _).alloc _,Bb.new2 _ _ _ _⟩ ?_
 rintro X ⟨hbX,hP,hR⟩;obtain⟨p0,p1,p2,p3,p4,p5,p6⟩:=st7 hP
 go_wp2_with (go_at_call 42;refine(Dj _ s _ hsm (hv0.keep hbX)).mono ?_;rintro e w1 ⟨rfl,hb1⟩;rw[HC.out];have hR1:=hR.keep hb1;have g0:=hR1.frozen 0;have g1:=hR1.frozen 1;have g2:=hR1.frozen 2;have g3:=hR1.frozen 3;have g4:=hR1.frozen 4;have g5:=hR1.frozen 5;have g6:=hR1.frozen 6;obtain⟨q0,q1,q2,q3,q4,q5,q6⟩:=st7 hR1)
 obtain⟨s0,s1,s2,s3,s4,s5,s6⟩:=st7 (((((((hR1.set_ 0 (.string ⟨#[]⟩)).set_ 1 (.slice none 0 0)).set_ 2 (.int .i64 0)).set_ 3 (.slice none 0 0)).set_ 4 (.slice none 0 0)).set_ 5 (.slice none 0 0)).set_ 6 (.bool false));exact bodyPost_ret (v:=.tuple #[.slice none 0 0,.agg Zn,.int .i64 c]) (by simp[results,Tryz.results28,go_sem,s0,s1,s2,s3,s4,s5,s6,Zn]) rfl (R5.none_ HN.out (Afb (Ao hbX hb1) (by omega) _ _ _ _ _ _ _))
theorem Wv {s:StyleP} (h:Bt s=0):s.mu.length=s.sz.length/\∀i,i<s.us.length->0<=(use s.us i).pc/\(use s.us i).pc<s.pc.length/\1<=(use s.us i).ct/\(use s.us i).ct<=4:=by
 unfold Bt at h;split at h
 ·rename_i g;exact absurd h g
 ·rename_i g1
  split at h
  ·rename_i g;exact absurd h g
  ·split at h
   ·cases h
   ·rename_i g3
    constructor
    ·have g1':Ct s=0:=by simpa using g1
     unfold Ct at g1';split at g1'
     ·cases g1'
     ·split at g1'
      ·cases g1'
      ·split at g1'
       ·cases g1'
       ·rename_i k;refine Classical.byContradiction fun hc=>k (Or.inl hc)
    ·intro i hi
     cases hu:Us s i with
     | true=>exact absurd (Bq.yes (f:=Us s) hi hu) g3
     | false=>unfold Us at hu;simp at hu;omega
theorem Ala (vs:Array Value) (s:StyleP) (z u:Int) (w:World) (hsm:SmS s) (hv:StV w vs s) (h:Bt s=0) (hb:z<0\/(s.sz.length:Int)<=z\/u<0\/(s.us.length:Int)<=u):Calls Tryz.prog 28 #[.agg vs,.int .i64 z,.int .i64 u] w (R5 w ([],3) (Cl s u)):=by
 have HC:=Lib.hid h;have HB:=Lib.hid hb;clear h hb;have hv0:=hv;obtain⟨A1,c1,A2,c2,A3,c3,A4,c4,A5,c5,A6,c6,rfl,⟨v1,v2,v3⟩,⟨v4,v5,v6⟩,⟨v7,v8,v9⟩,⟨v10,v11,v12⟩,⟨v13,v14,v15⟩,v16,v17⟩:=hv;go_enter Tryz.func28,Tryz.ntmps28;go_upto_region 1 with fail;refine Ar (fun X=>Below w.heap.size w X/\Bb X w.heap.size 29 #[.string s.nm,.slice A1 s.sz.length c1,.slice A2 s.mu.length c2,.slice A3 s.pc.length c3,.slice A4 s.us.length c4,.slice A5 s.se.length c5,.slice A6 s.no c6]/\Bb X (w.heap.size+1) 64 #[.string ⟨#[]⟩,.slice none 0 0,.int .i64 0,.slice none 0 0,.slice none 0 0,.slice none 0 0,.bool false]) ⟨An (An (Below.refl _ _) _) _,(Bb.new _ _ _).alloc _,Bb.new2 _ _ _ _⟩ ?_
 rintro X ⟨hbX,hP,hR⟩;obtain⟨p0,p1,p2,p3,p4,p5,p6⟩:=st7 hP;have hz1:=hsm.sz;have hz4:=hsm.us;have hvX:=hv0.keep hbX;have HSM:=Lib.hid hsm;obtain⟨n1,hn1⟩:∃n,s.sz.length=n:=⟨_,rfl⟩
 obtain⟨n4,hn4⟩:∃n,s.us.length=n:=⟨_,rfl⟩
 have HV:=Lib.hid hvX;have hB:=HB.out;rw[hn1,hn4] at hB;have HX:=Lib.hid (show StV X #[.string s.nm,.slice A1 n1 c1,.slice A2 s.mu.length c2,.slice A3 s.pc.length c3,.slice A4 n4 c4,.slice A5 s.se.length c5,.slice A6 s.no c6] s by rw[<-hn1,<-hn4];exact hvX)
 rw[hn1] at p1 hz1 v1;rw[hn4] at p4 hz4 v10;rw[hn1,hn4] at hP;clear hn1 hn4 hvX hv0 hsm v3 v6 v9 v12 v15;have HL:∀(t:Prop),Hid (R5 w ([],3) (Cl s u)=R5 w ([],3) (Cl s u)):=fun _=>Lib.hid rfl
 by_cases h1:z<0
 ·go_wp2_with (go_at_call 42;refine(Dj _ s _ HSM.out HX.out).mono ?_;rintro e w1 ⟨rfl,hb1⟩;rw[HC.out];obtain⟨x0,x1,x2,x3,x4,x5,x6⟩:=st7 (hP.keep hb1);have hR1:=hR.keep hb1;have g0:=hR1.frozen 0;have g1:=hR1.frozen 1;have g2:=hR1.frozen 2;have g3:=hR1.frozen 3;have g4:=hR1.frozen 4;have g5:=hR1.frozen 5;have g6:=hR1.frozen 6;obtain⟨q0,q1,q2,q3,q4,q5,q6⟩:=st7 hR1)
  all_goals obtain⟨s0,s1,s2,s3,s4,s5,s6⟩:=st7 (((((((hR1.set_ 0 (.string ⟨#[]⟩)).set_ 1 (.slice none 0 0)).set_ 2 (.int .i64 0)).set_ 3 (.slice none 0 0)).set_ 4 (.slice none 0 0)).set_ 5 (.slice none 0 0)).set_ 6 (.bool false))
  all_goals exact bodyPost_ret (v:=.tuple #[.slice none 0 0,.agg Zn,.int .i64 3]) (by simp[results,Tryz.results28,go_sem,s0,s1,s2,s3,s4,s5,s6,Zn]) rfl (R5.none_ (by decide) (Afb (Ao hbX hb1) (by omega) _ _ _ _ _ _ _))
 ·obtain⟨z,rfl⟩:∃j:Nat,z=j:=⟨z.toNat,by omega⟩
  by_cases h2:(n1:Int)<=(z:Int)
  ·go_wp2_with (go_at_call 42;refine(Dj _ s _ HSM.out HX.out).mono ?_;rintro e w1 ⟨rfl,hb1⟩;rw[HC.out];obtain⟨x0,x1,x2,x3,x4,x5,x6⟩:=st7 (hP.keep hb1);have hR1:=hR.keep hb1;have g0:=hR1.frozen 0;have g1:=hR1.frozen 1;have g2:=hR1.frozen 2;have g3:=hR1.frozen 3;have g4:=hR1.frozen 4;have g5:=hR1.frozen 5;have g6:=hR1.frozen 6;obtain⟨q0,q1,q2,q3,q4,q5,q6⟩:=st7 hR1)
   all_goals obtain⟨s0,s1,s2,s3,s4,s5,s6⟩:=st7 (((((((hR1.set_ 0 (.string ⟨#[]⟩)).set_ 1 (.slice none 0 0)).set_ 2 (.int .i64 0)).set_ 3 (.slice none 0 0)).set_ 4 (.slice none 0 0)).set_ 5 (.slice none 0 0)).set_ 6 (.bool false))
   all_goals exact bodyPost_ret (v:=.tuple #[.slice none 0 0,.agg Zn,.int .i64 3]) (by simp[results,Tryz.results28,go_sem,s0,s1,s2,s3,s4,s5,s6,Zn]) rfl (R5.none_ (by decide) (Afb (Ao hbX hb1) (by omega) _ _ _ _ _ _ _))
  ·by_cases h3:u<0
   ·go_wp2_with (go_at_call 42;refine(Dj _ s _ HSM.out HX.out).mono ?_;rintro e w1 ⟨rfl,hb1⟩;rw[HC.out];obtain⟨x0,x1,x2,x3,x4,x5,x6⟩:=st7 (hP.keep hb1);have hR1:=hR.keep hb1;have g0:=hR1.frozen 0;have g1:=hR1.frozen 1;have g2:=hR1.frozen 2;have g3:=hR1.frozen 3;have g4:=hR1.frozen 4;have g5:=hR1.frozen 5;have g6:=hR1.frozen 6;obtain⟨q0,q1,q2,q3,q4,q5,q6⟩:=st7 hR1)
    all_goals obtain⟨s0,s1,s2,s3,s4,s5,s6⟩:=st7 (((((((hR1.set_ 0 (.string ⟨#[]⟩)).set_ 1 (.slice none 0 0)).set_ 2 (.int .i64 0)).set_ 3 (.slice none 0 0)).set_ 4 (.slice none 0 0)).set_ 5 (.slice none 0 0)).set_ 6 (.bool false))
    all_goals exact bodyPost_ret (v:=.tuple #[.slice none 0 0,.agg Zn,.int .i64 3]) (by simp[results,Tryz.results28,go_sem,s0,s1,s2,s3,s4,s5,s6,Zn]) rfl (R5.none_ (by decide) (Afb (Ao hbX hb1) (by omega) _ _ _ _ _ _ _))
   ·obtain⟨u,rfl⟩:∃j:Nat,u=j:=⟨u.toNat,by omega⟩
    have h4:(n4:Int)<=(u:Int):=by omega
    go_wp2_with (go_at_call 42;refine(Dj _ s _ HSM.out HX.out).mono ?_;rintro e w1 ⟨rfl,hb1⟩;rw[HC.out];obtain⟨x0,x1,x2,x3,x4,x5,x6⟩:=st7 (hP.keep hb1);have hR1:=hR.keep hb1;have g0:=hR1.frozen 0;have g1:=hR1.frozen 1;have g2:=hR1.frozen 2;have g3:=hR1.frozen 3;have g4:=hR1.frozen 4;have g5:=hR1.frozen 5;have g6:=hR1.frozen 6;obtain⟨q0,q1,q2,q3,q4,q5,q6⟩:=st7 hR1)
    all_goals obtain⟨s0,s1,s2,s3,s4,s5,s6⟩:=st7 (((((((hR1.set_ 0 (.string ⟨#[]⟩)).set_ 1 (.slice none 0 0)).set_ 2 (.int .i64 0)).set_ 3 (.slice none 0 0)).set_ 4 (.slice none 0 0)).set_ 5 (.slice none 0 0)).set_ 6 (.bool false))
    all_goals exact bodyPost_ret (v:=.tuple #[.slice none 0 0,.agg Zn,.int .i64 3]) (by simp[results,Tryz.results28,go_sem,s0,s1,s2,s3,s4,s5,s6,Zn]) rfl (R5.none_ (by decide) (Afb (Ao hbX hb1) (by omega) _ _ _ _ _ _ _))
theorem Ak9 (vs:Array Value) (s:StyleP) (z u:Nat) (w:World) (hsm:SmS s) (hv:StV w vs s) (h:Bt s=0) (hz:z<s.sz.length) (hu:u<s.us.length):Calls Tryz.prog 28 #[.agg vs,.int .i64 (z:Int),.int .i64 (u:Int)] w (R5 w (Cn (Cl s u) (gi s.mu z)) (Cl s u)):=by
 have HC:=Lib.hid h;have HSM:=Lib.hid hsm;obtain⟨k1,k2⟩:=Wv h;have k3:=k2 u hu;have HU:=Lib.hid k3;have HM:=Lib.hid k1;have hz2:z<s.mu.length:=by omega
 have y1:=hsm.sz;have y3:=hsm.pc;have y4:=hsm.us;clear h hsm k1 k2 k3;have hv0:=hv;obtain⟨A1,c1,A2,c2,A3,c3,A4,c4,A5,c5,A6,c6,rfl,⟨v1,v2,v3⟩,⟨v4,v5,v6⟩,⟨v7,v8,v9⟩,⟨v10,v11,v12⟩,⟨v13,v14,v15⟩,v16,v17⟩:=hv;go_enter Tryz.func28,Tryz.ntmps28;go_upto_region 1 with fail;refine Ar (fun X=>Below w.heap.size w X/\Bb X w.heap.size 29 #[.string s.nm,.slice A1 s.sz.length c1,.slice A2 s.mu.length c2,.slice A3 s.pc.length c3,.slice A4 s.us.length c4,.slice A5 s.se.length c5,.slice A6 s.no c6]/\Bb X (w.heap.size+1) 64 #[.string ⟨#[]⟩,.slice none 0 0,.int .i64 0,.slice none 0 0,.slice none 0 0,.slice none 0 0,.bool false]) ⟨An (An (Below.refl _ _) _) _,(Bb.new _ _ _).alloc _,Bb.new2 _ _ _ _⟩ ?_
 rintro X ⟨hbX,hP,hR⟩;obtain⟨p0,p1,p2,p3,p4,p5,p6⟩:=st7 hP;have HX:=Lib.hid (hv0.keep hbX);have v6X:=v6.keep hbX;have v12X:=v12.keep hbX;have HUX:=Lib.hid HU.out;obtain⟨n1,hn1⟩:∃n,s.sz.length=n:=⟨_,rfl⟩
 obtain⟨n2,hn2⟩:∃n,s.mu.length=n:=⟨_,rfl⟩
 obtain⟨n3,hn3⟩:∃n,s.pc.length=n:=⟨_,rfl⟩
 obtain⟨n4,hn4⟩:∃n,s.us.length=n:=⟨_,rfl⟩
 rw[hn1,hn2,hn3,hn4] at HX hP;rw[hn1] at p1 hz y1 v1;rw[hn2] at p2 hz2 v6X v4;rw[hn3] at p3 v9 HUX v7 y3;rw[hn4] at p4 hu v12X v10 y4;clear hn1 hn2 hn3 hn4 hv0 v3 v6 v12 v15;have B1:(z:Int)<(n1:Int):=by omega
 have B2:(u:Int)<(n4:Int):=by omega
 have B3:(z:Int)<(n2:Int):=by omega
 have hP0:=hP;have hR0:=hR
 go_upto_region 6 with (go_at_call 42;refine(Dj _ s _ HSM.out HX.out).mono ?_;rintro e w1 ⟨rfl,hb1⟩;rw[HC.out];obtain⟨x0,x1,x2,x3,x4,x5,x6⟩:=st7 (hP0.keep hb1))
 have hP1:=hP.keep hb1;have hR1:=hR.keep hb1;have v6W:=v6X.keep hb1;have v12W:=v12X.keep hb1;have hbW:=Ao hbX hb1;clear x0 x1 x2 x3 x4 x5 x6 p0 p1 p2 p3 p4 p5 p6 hP hP0 hR hR0 v6X v12X hb1;obtain⟨b2,o2,rfl,e2⟩:=v6W.at_ hz2;obtain⟨b4,o4,rfl,e4,-,-⟩:=v12W.at_ hu;obtain⟨i,hi⟩:∃i:Nat,(use s.us u).pc=i:=⟨(use s.us u).pc.toNat,by have:=HUX.out;omega⟩
 have hi3:i<n3:=by have:=HUX.out.2.1;rw[hi] at this;omega
 have HPO:=Lib.hid (show Cl s u=pce s.pc i by unfold Cl;rw[show ((u:Int)).toNat=u by omega,hi];rfl)
 rw[hi] at e4;obtain⟨b3,o3,rfl,vs2,hvs2,hc⟩:=v9.at_ hi3;obtain⟨pk,hpk⟩:∃p,pce s.pc i=p:=⟨_,rfl⟩
 rw[hpk] at hvs2 HPO;obtain⟨E1,d1,E2,d2,E3,d3,E4,d4,rfl,hvr⟩:=hvs2;have hpv0:PcV w #[.string pk.nm,.slice E1 pk.ed.length d1,.int .i64 pk.gr,.slice E2 pk.nt.length d2,.slice E3 pk.cr.length d3,.slice E4 pk.wd.length d4,.bool pk.mt] pk:=⟨E1,d1,E2,d2,E3,d3,E4,d4,rfl,hvr⟩;have hpv:=hpv0.keep hbW;have k0:=Aq hbW (hc 0 _ rfl);rw[Nat.add_zero] at k0;have k1:=Aq hbW (hc 1 _ rfl);have k2:=Aq hbW (hc 2 _ rfl);have k3:=Aq hbW (hc 3 _ rfl);have k4:=Aq hbW (hc 4 _ rfl);have k5:=Aq hbW (hc 5 _ rfl);have k6:=Aq hbW (hc 6 _ rfl);have HMU:Hid (gi s.mu z=gi s.mu z):=Lib.hid rfl;obtain⟨mm,hmm⟩:∃m,gi s.mu z=m:=⟨_,rfl⟩
 rw[hmm] at e2 ⊢;have HMM:=Lib.hid hmm;have B4:(i:Int)<(n3:Int):=by omega
 clear hc hpk hi hmm hvr HMU v6W v9 v12W
 have KF:∀W',Below w1.heap.size w1 W'->(W'.cell? ⟨w.heap.size,2,none⟩=some (.slice (some ⟨b2,o2,none⟩) n2 c2)/\W'.cell? ⟨w.heap.size,3,none⟩=some (.slice (some ⟨b3,o3,none⟩) n3 c3)/\W'.cell? ⟨w.heap.size,4,none⟩=some (.slice (some ⟨b4,o4,none⟩) n4 c4)/\W'.cell? ⟨b4,o4+u*3,none⟩=some (.int .i64 (i:Int))/\W'.cell? ⟨b2,o2+z,none⟩=some (.int .i64 mm)/\W'.cell? ⟨b3,o3+i*7,none⟩=some (.string pk.nm)/\W'.cell? ⟨b3,o3+i*7+1,none⟩=some (.slice E1 pk.ed.length d1)/\W'.cell? ⟨b3,o3+i*7+2,none⟩=some (.int .i64 pk.gr)/\W'.cell? ⟨b3,o3+i*7+3,none⟩=some (.slice E2 pk.nt.length d2)/\W'.cell? ⟨b3,o3+i*7+4,none⟩=some (.slice E3 pk.cr.length d3)/\W'.cell? ⟨b3,o3+i*7+5,none⟩=some (.slice E4 pk.wd.length d4)/\W'.cell? ⟨b3,o3+i*7+6,none⟩=some (.bool pk.mt)):=fun W' hb=>by
  obtain⟨-,-,j2,j3,j4,-,-⟩:=st7 (hP1.keep hb);exact⟨j2,j3,j4,Aq hb e4,Aq hb e2,Aq hb k0,Aq hb k1,Aq hb k2,Aq hb k3,Aq hb k4,Aq hb k5,Aq hb k6⟩
 have hbD:=Aw (Below.refl w1.heap.size w1);clear e2 e4 k0 k1 k2 k3 k4 k5 k6;go_cut [10] (fun v10 wx=>v10=.pointer (some ⟨w1.heap.size,0,none⟩)/\Below w1.heap.size w1 wx/\Bb wx w1.heap.size 64 #[.string pk.nm,.slice E1 pk.ed.length d1,.int .i64 pk.gr,.slice E2 pk.nt.length d2,.slice E3 pk.cr.length d3,.slice E4 pk.wd.length d4,.bool pk.mt])
 case first =>
  go_region_held3 (fun W'=>W'.cell? ⟨w.heap.size,2,none⟩=some (.slice (some ⟨b2,o2,none⟩) n2 c2)/\W'.cell? ⟨w.heap.size,3,none⟩=some (.slice (some ⟨b3,o3,none⟩) n3 c3)/\W'.cell? ⟨w.heap.size,4,none⟩=some (.slice (some ⟨b4,o4,none⟩) n4 c4)/\W'.cell? ⟨b4,o4+u*3,none⟩=some (.int .i64 (i:Int))/\W'.cell? ⟨b2,o2+z,none⟩=some (.int .i64 mm)/\W'.cell? ⟨b3,o3+i*7,none⟩=some (.string pk.nm)/\W'.cell? ⟨b3,o3+i*7+1,none⟩=some (.slice E1 pk.ed.length d1)/\W'.cell? ⟨b3,o3+i*7+2,none⟩=some (.int .i64 pk.gr)/\W'.cell? ⟨b3,o3+i*7+3,none⟩=some (.slice E2 pk.nt.length d2)/\W'.cell? ⟨b3,o3+i*7+4,none⟩=some (.slice E3 pk.cr.length d3)/\W'.cell? ⟨b3,o3+i*7+5,none⟩=some (.slice E4 pk.wd.length d4)/\W'.cell? ⟨b3,o3+i*7+6,none⟩=some (.bool pk.mt))
   (first
    | with_reducible exact KF _ hbD
    | with_reducible exact KF _ (Aw (An (Below.refl _ _) _)))
   (fail)
  all_goals go_wp2_with fail
  all_goals go_meet
  all_goals exact⟨rfl,Aw (An (Below.refl _ _) _),Bb.drew (Bb.new _ _ _)⟩
 case rest =>
  obtain⟨rfl,hbY,hQ⟩:=hcut;have hpvY:=hpv.keep hbY;have hP2:=hP1.keep hbY;have hR2:=hR1.keep hbY;have hRlt:=hR2.lt;have e2Y:=(KF _ hbY).2.2.2.2.1;have hbWY:=Ao hbW hbY;have hBQ:w.heap.size<=w1.heap.size:=hbW.size;obtain⟨BQ,hBQe⟩:∃B,w1.heap.size=B:=⟨_,rfl⟩
  rw[hBQe] at hQ hBQ ⊢
  have KF2:∀W',Below wc.heap.size wc W'->(W'.cell? ⟨BQ,0,none⟩=some (.string pk.nm)/\W'.cell? ⟨BQ,1,none⟩=some (.slice E1 pk.ed.length d1)/\W'.cell? ⟨BQ,2,none⟩=some (.int .i64 pk.gr)/\W'.cell? ⟨BQ,3,none⟩=some (.slice E2 pk.nt.length d2)/\W'.cell? ⟨BQ,4,none⟩=some (.slice E3 pk.cr.length d3)/\W'.cell? ⟨BQ,5,none⟩=some (.slice E4 pk.wd.length d4)/\W'.cell? ⟨BQ,6,none⟩=some (.bool pk.mt)/\W'.cell? ⟨w.heap.size,2,none⟩=some (.slice (some ⟨b2,o2,none⟩) n2 c2)/\W'.cell? ⟨b2,o2+z,none⟩=some (.int .i64 mm)):=fun W' hb=>by
   obtain⟨j0,j1,j2,j3,j4,j5,j6⟩:=pc7 (hQ.keep hb);exact⟨j0,j1,j2,j3,j4,j5,j6,(st7 (hP2.keep hb)).2.2.1,Aq hb e2Y⟩
  have hbE:=Aw (Below.refl wc.heap.size wc);clear hpv hP1 hR1 KF hbD hbW hbY e2Y hBQe;go_upto_region 7 with fail
  go_region_held3 (fun W'=>W'.cell? ⟨BQ,0,none⟩=some (.string pk.nm)/\W'.cell? ⟨BQ,1,none⟩=some (.slice E1 pk.ed.length d1)/\W'.cell? ⟨BQ,2,none⟩=some (.int .i64 pk.gr)/\W'.cell? ⟨BQ,3,none⟩=some (.slice E2 pk.nt.length d2)/\W'.cell? ⟨BQ,4,none⟩=some (.slice E3 pk.cr.length d3)/\W'.cell? ⟨BQ,5,none⟩=some (.slice E4 pk.wd.length d4)/\W'.cell? ⟨BQ,6,none⟩=some (.bool pk.mt)/\W'.cell? ⟨w.heap.size,2,none⟩=some (.slice (some ⟨b2,o2,none⟩) n2 c2)/\W'.cell? ⟨b2,o2+z,none⟩=some (.int .i64 mm))
   (with_reducible exact KF2 _ hbE)
   ((go_at_call 48;(with_reducible refine(Cc _ pk mm _ (hpvY.keep hbE)).mono ?_);rintro e w5 ⟨A7,c7,rfl,⟨i1,i4⟩,i2,-,hb5⟩;replace hbE:=Ao hbE hb5))
  have hQ5:=hQ.keep hbE;have hR5:=hR2.keep hbE;obtain⟨j0,j1,j2,j3,j4,j5,j6⟩:=pc7 hQ5;have g0:=hR5.frozen 0;have g1:=hR5.frozen 1;have g2:=hR5.frozen 2;have g3:=hR5.frozen 3;have g4:=hR5.frozen 4;have g5:=hR5.frozen 5;have g6:=hR5.frozen 6;obtain⟨q0,q1,q2,q3,q4,q5,q6⟩:=st7 hR5;have hpv5:=hpvY.keep hbE;have hbW5:=Ao hbWY hbE;obtain⟨G,hG⟩:∃G,Cn pk mm=G:=⟨_,rfl⟩
  have HG:=Lib.hid hG;rw[hG] at i1 i4 ⊢;clear KF2 hbE hQ hR2 hP2 hpvY hbWY;go_wp2_with fail
  go_region
  all_goals go_wp2_with fail
  obtain⟨s0,s1,s2,s3,s4,s5,s6⟩:=st7 (Bb.drew (((((((hR5.set_ 0 (.string pk.nm)).set_ 1 (.slice E1 pk.ed.length d1)).set_ 2 (.int .i64 pk.gr)).set_ 3 (.slice E2 pk.nt.length d2)).set_ 4 (.slice E3 pk.cr.length d3)).set_ 5 (.slice E4 pk.wd.length d4)).set_ 6 (.bool pk.mt)));have hbZ:=Aw (Afb hbW5 (show w.heap.size<=w.heap.size+1 by omega) (.string pk.nm) (.slice E1 pk.ed.length d1) (.int .i64 pk.gr) (.slice E2 pk.nt.length d2) (.slice E3 pk.cr.length d3) (.slice E4 pk.wd.length d4) (.bool pk.mt))
  have hlt:w.heap.size+1<wc.drew.heap.size:=hRlt;refine bodyPost_ret (v:=.tuple #[.slice A7 G.1.length c7,.agg #[.string pk.nm,.slice E1 pk.ed.length d1,.int .i64 pk.gr,.slice E2 pk.nt.length d2,.slice E3 pk.cr.length d3,.slice E4 pk.wd.length d4,.bool pk.mt],.int .i64 G.2]) (by simp[results,Tryz.results28,go_sem,s0,s1,s2,s3,s4,s5,s6]) rfl ?_
  rw[HPO.out,HMM.out,HG.out];refine⟨A7,c7,_,pk,rfl,i1,i2,(i4.keepAbove fun k hk=>?_).edsA,hpv0.keep hbZ,fun _=>rfl,hbZ⟩
  have hne:k≠w.heap.size+1:=by omega
  exact Ajs w5 (w.heap.size+1) _ _ _ _ _ _ _ hne
theorem Xt (vs:Array Value) (s:StyleP) (z u:Int) (w:World) (hsm:SmS s) (hv:StV w vs s):Calls Tryz.prog 28 #[.agg vs,.int .i64 z,.int .i64 u] w (R5 w (Ki s z u) (Cl s u)):=by
 unfold Ki;by_cases h:Bt s=0
 ·rw[if_neg (by rw[h];simp)]
  by_cases hb:z<0\/(s.sz.length:Int)<=z\/u<0\/(s.us.length:Int)<=u
  ·rw[if_pos hb];exact Ala vs s z u w hsm hv h hb
  ·rw[if_neg hb]
   obtain⟨z,rfl⟩:∃j:Nat,z=j:=⟨z.toNat,by omega⟩
   obtain⟨u,rfl⟩:∃j:Nat,u=j:=⟨u.toNat,by omega⟩
   rw[Int.toNat_natCast];exact Ak9 vs s z u w hsm hv h (by omega) (by omega)
 ·rw[if_pos h];exact Alb vs s z u w hsm hv h
def ew (c:PlcP):List Value:=[.int .i64 c.ga,.int .i64 c.us,.int .i64 c.cp,.bool c.fl,.int .i64 c.qu,.int .i64 c.x,.int .i64 c.y]
theorem Rj (c:PlcP):(ew c).length=7:=rfl
theorem Yq (c:PlcP):∀u∈ew c,u.oneCell'=true:=by
 intro u hu;simp[ew] at hu;rcases hu with rfl|rfl|rfl|rfl|rfl|rfl|rfl<;>rfl
theorem Abq:(Tryz.prog.info? 51).map (fun i=>(i.zero,i.size,i.bytes))=some (some (.agg #[.int .i64 0,.int .i64 0,.int .i64 0,.bool false,.int .i64 0,.int .i64 0,.int .i64 0]),7,56):=by kernel_rfl
def R4 (w:World) (base:Nat) (v:Value) (l:List PlcP):Prop:=OwG 51 7 ew w base v l
def Afo (w:World) (b o:Nat) (c:PlcP):Prop:=w.cell? ⟨b,o,none⟩=some (.int .i64 c.ga)/\w.cell? ⟨b,o+1,none⟩=some (.int .i64 c.us)/\w.cell? ⟨b,o+2,none⟩=some (.int .i64 c.cp)/\w.cell? ⟨b,o+3,none⟩=some (.bool c.fl)/\w.cell? ⟨b,o+4,none⟩=some (.int .i64 c.qu)/\w.cell? ⟨b,o+5,none⟩=some (.int .i64 c.x)/\w.cell? ⟨b,o+6,none⟩=some (.int .i64 c.y)
def PlS (w:World) (A:Option Addr) (n:Nat) (l:List PlcP):Prop:=l.length=n/\(n=0\/∃b off,A=some ⟨b,off,none⟩/\∀k,k<n->Afo w b (off+k*7) (plc l k))
theorem Afo.keep {w w':World} {b o:Nat} {c:PlcP} (h:Afo w b o c) (hb:Below w.heap.size w w'):Afo w' b o c :=
 ⟨Aq hb h.1,Aq hb h.2.1,Aq hb h.2.2.1,Aq hb h.2.2.2.1,Aq hb h.2.2.2.2.1,Aq hb h.2.2.2.2.2.1,Aq hb h.2.2.2.2.2.2⟩
theorem PlS.keep {w w':World} {A:Option Addr} {n:Nat} {l:List PlcP} (h:PlS w A n l) (hb:Below w.heap.size w w'):PlS w' A n l:=by
 refine⟨h.1,?_⟩;rcases h.2 with h2|⟨b,off,rfl,h2⟩
 ·exact .inl h2
 ·exact .inr ⟨b,off,rfl,fun k hk=>(h2 k hk).keep hb⟩
theorem PlS.at_ {w:World} {A:Option Addr} {n:Nat} {l:List PlcP} (h:PlS w A n l) {k:Nat} (hk:k<n):∃b off,A=some ⟨b,off,none⟩/\∀k,k<n->Afo w b (off+k*7) (plc l k):=by
 rcases h.2 with h2|⟨b,off,rfl,h2⟩
 ·omega
 ·exact⟨b,off,rfl,h2⟩
theorem Xp {l:List PlcP} {k:Nat} (h:k<l.length):l[k]? = some (plc l k):=by
 unfold plc;rw[List.getD,List.getElem?_eq_getElem h];rfl
theorem R4.cells {w:World} {base g cap n:Nat} {l:List PlcP} (h:R4 w base (.slice (some ⟨g,0,none⟩) n cap) l) (hn:l.length=n) {k:Nat} (hk:k<n):Afo w g (k*7) (plc l k):=by
 subst hn
 have c:∀j,j<7->w.cell? ⟨g,k*7+j,none⟩=(ew (plc l k))[j]? := fun j hj=>by
  rw[OwG.cells h (k*7+j) (by omega),Bp Rj l k j _ (Xp hk) hj]
 exact⟨(c 0 (by omega)).trans rfl,(c 1 (by omega)).trans rfl,(c 2 (by omega)).trans rfl,(c 3 (by omega)).trans rfl,(c 4 (by omega)).trans rfl,(c 5 (by omega)).trans rfl,(c 6 (by omega)).trans rfl⟩
theorem R4.pls {w:World} {base:Nat} {v:Value} {l:List PlcP} (h:R4 w base v l):∃A c,v=.slice A l.length c/\l.length<=c/\c<=9223372036854775807/\PlS w A l.length l:=by
 rcases OwG.form h with ⟨rfl,rfl⟩|⟨g,cap,rfl,g1,g2,g3,g4⟩
 ·exact⟨none,0,rfl,Nat.le_refl _,by omega,rfl,.inl rfl⟩
 ·exact⟨_,cap,rfl,g3,by unfold maxLen at g4;exact g4,rfl,.inr ⟨g,0,rfl,fun k hk=>by rw[Nat.zero_add];exact R4.cells h rfl hk⟩⟩
theorem Ij {w:World} {ops:Array Oper} {rest:List Oper} {o:Oper} {a:Act} {Q:Exit->Act->World->Prop} (hgd:o.guard=none) (s x:Operand)
 (ho:o.op=.call { callee:=.builtin .append,args:=#[s,x],argTypes:=#[36,36] })
 (base:Nat) (v:Value) (l:List PlcP) (hs:a.eval s=v) (hown:R4 w base v l)
 (bx c:Nat) (p:PlcP) (tb:TypeId) (hx:a.eval x=.slice (some ⟨bx,0,none⟩) 1 c) (hnew:Bb w bx tb #[.int .i64 p.ga,.int .i64 p.us,.int .i64 p.cp,.bool p.fl,.int .i64 p.qu,.int .i64 p.x,.int .i64 p.y])
 (hlen:l.length<=1000000) (hbase:base<=w.heap.size)
 (h:∀v' w',R4 w' base v' (l++[p])->w.grownBy w' v.ownBlock->(v'.ownBlock=v.ownBlock\/v'.ownBlock=some w.heap.size)->wpList Tryz.prog ops Q rest (a.put o.dst v') w') :
 wpList Tryz.prog ops Q (o::rest) a w :=
 Cr hgd s x 36 ho ew base 51 (.agg #[.int .i64 0,.int .i64 0,.int .i64 0,.bool false,.int .i64 0,.int .i64 0,.int .i64 0]) 7 56 Tryz.underlying36 Abq rfl (by omega) Rj Yq v l hs hown bx c p tb hx hnew (by unfold maxLen;omega) (by omega) hbase h
structure ShX where
 A:Option Addr
 n:Nat
 c:Nat
 gr:Int
 mt:Bool
 ax:Int
 ay:Int
def y7 (x:ShX):List Value:=[.slice x.A x.n x.c,.int .i64 x.gr,.bool x.mt,.int .i64 x.ax,.int .i64 x.ay]
theorem Yp (x:ShX):(y7 x).length=5:=rfl
theorem yz (x:ShX):∀u∈y7 x,u.oneCell'=true:=by
 intro u hu;simp[y7] at hu;rcases hu with rfl|rfl|rfl|rfl|rfl<;>rfl
theorem Ag3:(Tryz.prog.info? 104).map (fun i=>(i.zero,i.size,i.bytes))=some (some (.agg #[.slice none 0 0,.int .i64 0,.bool false,.int .i64 0,.int .i64 0]),5,56):=by kernel_rfl
def ShV (w:World) (base:Nat) (x:ShX) (s:Shp):Prop:=x.gr=s.grain/\x.mt=s.mat/\x.ax=s.anc.1/\x.ay=s.anc.2/\ElS w base (.slice x.A x.n x.c) s.poly/\x.c<=9223372036854775807
theorem ShV.keep {w w':World} {base:Nat} {x:ShX} {s:Shp} (h:ShV w base x s) (hb:Below w.heap.size w w'):ShV w' base x s:=⟨h.1,h.2.1,h.2.2.1,h.2.2.2.1,h.2.2.2.2.1.keep hb,h.2.2.2.2.2⟩
def Wm (w:World) (base:Nat) (v:Value) (S:List Shp):Prop :=
 ∃xs:List ShX,OwG 104 5 y7 w base v xs/\xs.length=S.length/\∀(i:Nat) (x:ShX),xs[i]? = some x->ShV w base x (shp S i)
theorem Wm.nil {w:World} {base:Nat}:Wm w base (.slice none 0 0) []:=⟨[],OwG.nil,rfl,by simp⟩
theorem Wm.keep {w w':World} {base:Nat} {v:Value} {S:List Shp} (h:Wm w base v S) (hb:Below w.heap.size w w'):Wm w' base v S:=by
 obtain⟨xs,h1,h2,h3⟩:=h;exact⟨xs,h1.keep hb,h2,fun i x hx=>(h3 i x hx).keep hb⟩
theorem Wm.lower {w:World} {base base':Nat} {v:Value} {S:List Shp} (h:Wm w base v S) (hb:base'<=base):Wm w base' v S:=by
 obtain⟨xs,h1,h2,h3⟩:=h;exact⟨xs,h1.lower hb,h2,fun i x hx=>⟨(h3 i x hx).1,(h3 i x hx).2.1,(h3 i x hx).2.2.1,(h3 i x hx).2.2.2.1,(h3 i x hx).2.2.2.2.1.lower hb,(h3 i x hx).2.2.2.2.2⟩⟩
theorem Wm.own {w:World} {base:Nat} {v:Value} {S:List Shp} (h:Wm w base v S):∃xs:List ShX,OwG 104 5 y7 w base v xs:=by
 obtain⟨xs,h1,-⟩:=h;exact⟨xs,h1⟩
theorem Wm.shs {w:World} {base:Nat} {v:Value} {S:List Shp} (h:Wm w base v S) (hl:S.length<=1000000):∃A c,v=.slice A S.length c/\S.length<=c/\c<=9223372036854775807/\ShS w A S.length S:=by
 obtain⟨xs,h1,h2,h3⟩:=h;rcases OwG.form h1 with ⟨rfl,rfl⟩|⟨g,cap,rfl,g1,g2,g3,g4⟩
 ·have:S=[]:=List.eq_nil_of_length_eq_zero (by rw[<-h2];rfl)
  subst this;exact⟨none,0,rfl,Nat.le_refl _,by omega,rfl,by simp,.inl rfl⟩
 ·refine⟨_,cap,by rw[<-h2],by rw[<-h2];exact g3,by unfold maxLen at g4;exact g4,rfl,by omega,.inr ⟨g,0,rfl,fun k hk=>?_⟩⟩
  have hkv:k<xs.length:=by rw[h2];exact hk
  obtain⟨x,hx⟩:∃u,xs[k]? = some u:=⟨_,List.getElem?_eq_getElem hkv⟩
  have c:∀j,j<5->w.cell? ⟨g,k*5+j,none⟩=(y7 x)[j]? := fun j hj=>by
   rw[OwG.cells h1 (k*5+j) (by omega),Bp Yp xs k j _ hx hj]
  obtain⟨e1,e2,e3,e4,⟨A,c',e5,e6,e7,e8,-⟩,e9⟩:=h3 k x hx;obtain⟨A',n',cc',gr,mt,ax,ay⟩:=x;dsimp only at e1 e2 e3 e4 e5 e9;injection e5 with q1 q2 q3
  subst q1 q2 q3;rw[Nat.zero_add];exact⟨A',cc',(c 0 (by omega)).trans rfl,e6,e9,e7,e8,(c 1 (by omega)).trans (by rw[<-e1];rfl),(c 2 (by omega)).trans (by rw[<-e2];rfl),(c 3 (by omega)).trans (by rw[<-e3];rfl),(c 4 (by omega)).trans (by rw[<-e4];rfl)⟩
theorem OwG.apart {α β:Type} {e e':TypeId} {s s':Nat} {en:α->List Value} {en':β->List Value} {w:World} {b b':Nat} {v v':Value} {l:List α} {l':List β} (h:OwG e s en w b v l) (h':OwG e' s' en' w b' v' l') (hne:e≠e'):v.ownBlock=none\/v.ownBlock≠v'.ownBlock:=by
 rcases h.2 with ⟨ev,_⟩|⟨g,cap,cur,ev,_,hh,_⟩
 ·left;rw[ev];rfl
 ·right
  rcases h'.2 with ⟨ev',_⟩|⟨g',cap',cur',ev',_,hh',_⟩
  ·rw[ev,ev'];simp[Value.ownBlock]
  ·rw[ev,ev']
   intro e0;have:g=g':=by simpa[Value.ownBlock] using e0
   subst this;rw[hh] at hh';injection hh' with hh'
   injection hh' with _ ht
   exact hne ht
theorem OwG.neB {α:Type} {e t:TypeId} {s:Nat} {en:α->List Value} {w:World} {b g:Nat} {v:Value} {l:List α} {cs:Array Value} (h:OwG e s en w b v l) (hB:Bb w g t cs) (hne:t≠e):some g≠v.ownBlock:=by
 intro he;rcases h.2 with ⟨ev,_⟩|⟨g',cap,cur,ev,_,hh,_⟩
 ·rw[ev] at he;simp[Value.ownBlock] at he
 ·rw[ev] at he
  have:g=g':=by simpa[Value.ownBlock] using he
  subst this;have hB':w.heap[g]? = some (.cells cs t (0,0)):=hB;rw[hh] at hB';injection hB' with hB'
  injection hB' with _ ht
  exact hne ht.symm
theorem Wm.grown {w w':World} {base:Nat} {v:Value} {S:List Shp} {α:Type} {e':TypeId} {s':Nat} {en':α->List Value} {b':Nat} {v':Value} {l':List α} (h:Wm w base v S) (h':OwG e' s' en' w b' v' l') (hne:104≠e') (hne2:49≠e') (hg:w.grownBy w' v'.ownBlock):Wm w' base v S:=by
 obtain⟨xs,h1,h2,h3⟩:=h;refine⟨xs,OwG.kept h1 hg (OwG.apart h1 h' hne),h2,fun i x hx=>?_⟩
 obtain⟨e1,e2,e3,e4,e5,e6⟩:=h3 i x hx;refine⟨e1,e2,e3,e4,e5.grown hg ?_,e6⟩;intro k cs fr _ hh he;rcases h'.2 with ⟨ev,_⟩|⟨g,cap,cur,ev,_,hh',_⟩
 ·rw[ev] at he;simp[Value.ownBlock] at he
 ·rw[ev] at he
  have:k=g:=by simpa[Value.ownBlock] using he
  subst this;rw[hh] at hh';injection hh' with hh'
  injection hh' with _ ht
  exact hne2 ht
theorem Acj {S:List Shp} {s:Shp} {i:Nat} (h:i<S.length):shp (S++[s]) i=shp S i:=by
 unfold shp;rw[List.getD,List.getD,List.getElem?_append_left h]
theorem vf {S:List Shp} {s:Shp}:shp (S++[s]) S.length=s:=by
 unfold shp;simp[List.getD]
theorem R9 {w:World} {ops:Array Oper} {rest:List Oper} {o:Oper} {a:Act} {Q:Exit->Act->World->Prop} (hgd:o.guard=none) (s x:Operand)
 (ho:o.op=.call { callee:=.builtin .append,args:=#[s,x],argTypes:=#[82,82] })
 (base:Nat) (v:Value) (S:List Shp) (hs:a.eval s=v) (hown:Wm w base v S)
 (bx c:Nat) (A:Option Addr) (n c':Nat) (gr:Int) (mt:Bool) (ax ay:Int) (sh:Shp) (tb:TypeId) (hx:a.eval x=.slice (some ⟨bx,0,none⟩) 1 c) (hnew:Bb w bx tb #[.slice A n c',.int .i64 gr,.bool mt,.int .i64 ax,.int .i64 ay]) (hu:ShV w base ⟨A,n,c',gr,mt,ax,ay⟩ sh)
 (hlen:S.length<=1000000) (hbase:base<=w.heap.size)
 (h:∀v' w',Wm w' base v' (S++[sh])->w.grownBy w' v.ownBlock->(∀k,v.ownBlock=some k->base<=k)->wpList Tryz.prog ops Q rest (a.put o.dst v') w') :
 wpList Tryz.prog ops Q (o::rest) a w:=by
 obtain⟨i,hi,hz0,hz1,hz2⟩:=info_parts Ag3;obtain⟨xs,h1,h2,h3⟩:=hown
 have hrow:∀k cs fr,base<=k->w.heap[k]? = some (.cells cs 49 fr)->some k≠v.ownBlock:=by
  intro k cs fr _ hh he;rcases h1.2 with ⟨rfl,_⟩|⟨g,cap,cur,rfl,_,hg,_⟩
  ·cases he
  ·have:k=g:=by simpa[Value.ownBlock] using he
   subst this;rw[hg] at hh;injection hh with hh
   injection hh with _ ht
   exact absurd ht (by decide)
 refine wpList_append_own_at (P:=Tryz.prog) w hgd s x 82 ho base 104 i (.agg #[.slice none 0 0,.int .i64 0,.bool false,.int .i64 0,.int .i64 0]) 5 56 Tryz.underlying82 hi hz0 hz1 hz2 rfl (by omega) v xs.length (xs.flatMap y7) hs h1 ⟨bx,0,none⟩ 1 c (y7 ⟨A,n,c',gr,mt,ax,ay⟩) hx (by rw[Yp]) ?_ (yz _) (by rw[h2];unfold maxLen;omega) (by rw[h2];omega) hbase ?_
 ·intro j y hj
  exact World.news_of_block (w:=w) (B:=bx) (cs:=(y7 ⟨A,n,c',gr,mt,ax,ay⟩).toArray) (t:=tb) (fr:=(0,0)) hnew j y (by simpa using hj)
 ·intro v' w' ho' hg _ hat
  refine h v' w' ⟨xs++[⟨A,n,c',gr,mt,ax,ay⟩],?_,by simp[h2],fun j y hy=>?_⟩ hg (fun k hk=>(h1.lt k hk).1)
  ·unfold OwG
   rw[List.length_append,List.flatMap_append];simpa using ho'
  ·have kp:∀{x:ShX} {s:Shp},ShV w base x s->ShV w' base x s:=fun hv=>⟨hv.1,hv.2.1,hv.2.2.1,hv.2.2.2.1,hv.2.2.2.2.1.grown hg hrow,hv.2.2.2.2.2⟩
   rcases Nat.lt_or_ge j xs.length with q|q
   ·rw[List.getElem?_append_left q] at hy
    rw[Acj (by omega)]
    exact kp (h3 j y hy)
   ·rcases Nat.lt_or_ge j (xs.length+1) with q2|q2
    ·obtain rfl:j=xs.length:=by omega
     rw[List.getElem?_append_right (Nat.le_refl _),Nat.sub_self] at hy;simp at hy;subst hy;rw[h2,vf];exact kp hu
    ·rw[List.getElem?_eq_none (by simp;omega)] at hy;cases hy
end Go.Proofs.YtpbchbcdgikonaaGreat
