/- Lean texts of the claim. -/
import Derived.Test.YtpbchbcdgikonaaGreatQ28
namespace Go.Proofs.YtpbchbcdgikonaaGreat
set_option linter.unusedVariables false
set_option linter.unusedSimpArgs false
set_option maxRecDepth 100000
set_option maxHeartbeats 4000000
open Go.RowKit
def pwB (l:List Int) (j:Nat):Bool:=decide (gi l j<0) || decide (500<gi l j)
def pcE (Q:List PieceP) (i:Nat) (p:PieceP):Int :=
 if Dg p.nm=false then 1 else if p.gr≠1/\p.gr≠2/\p.gr≠4 then 1
 else if Bq (fun j=>H7 (pce Q j).nm p.nm) i then 7
 else if (Cn p 0).2≠0 then (Cn p 0).2 else if Hq p 0≠0 then Hq p 0
 else if p.wd.length≠p.ed.length then 1 else if Bq (pwB p.wd) p.wd.length then 3 else 0
theorem Agl (P:List PieceP) (i:Nat):Ir P i=pcE (P.take i) i (pce P i):=by
 unfold Ir pcE;rw[Bq.congr (n:=i) (f:=fun j=>H7 (pce P j).nm (pce P i).nm) (g:=fun j=>H7 (pce (P.take i) j).nm (pce P i).nm) (fun k hk=>by rw[Xr hk])]
 rfl
theorem Al6 (A:Option Addr) (cap i:Nat) (vs:Array Value) (p:PieceP) (w:World) (hv:PcV w vs p) (h:Dg p.nm=false):Calls Tryz.prog 65 #[.slice A i cap,.agg vs] w fun e w'=>e=.returned (.int .i64 1)/\Below w.heap.size w w':=by
 have HN:=Lib.hid h;clear h;obtain⟨A1,c1,A2,c2,A3,c3,A4,c4,rfl,⟨v1,v2,v3⟩,⟨v4,v5,v6⟩,⟨v7,v8,v9⟩,⟨v10,v11,v12⟩⟩:=hv;go_enter Tryz.func65,Tryz.ntmps65;go_upto_region 1 with fail;refine Ar (fun X=>Below w.heap.size w X/\Bb X w.heap.size 64 #[.string p.nm,.slice A1 p.ed.length c1,.int .i64 p.gr,.slice A2 p.nt.length c2,.slice A3 p.cr.length c3,.slice A4 p.wd.length c4,.bool p.mt]) ⟨An (Below.refl _ _) _,Bb.new _ _ _⟩ ?_
 rintro X ⟨hbX,hP⟩;obtain⟨p0,p1,p2,p3,p4,p5,p6⟩:=pc7 hP
 go_wp2_with (go_at_call 103;refine(Fh p.nm _).mono ?_;rintro e w1 ⟨rfl,hb1⟩;rw[HN.out])
 go_ret;exact⟨rfl,Ao hbX hb1⟩
theorem Al5 (A:Option Addr) (cap i:Nat) (vs:Array Value) (p:PieceP) (w:World) (hv:PcV w vs p) (h:Dg p.nm=true) (h1:p.gr≠1/\p.gr≠2/\p.gr≠4):Calls Tryz.prog 65 #[.slice A i cap,.agg vs] w fun e w'=>e=.returned (.int .i64 1)/\Below w.heap.size w w':=by
 have HN:=Lib.hid h;have n1:(p.gr != 1)=true:=by simpa using h1.1
 have n2:(p.gr != 2)=true:=by simpa using h1.2.1
 have n3:(p.gr != 4)=true:=by simpa using h1.2.2
 clear h h1;obtain⟨A1,c1,A2,c2,A3,c3,A4,c4,rfl,⟨v1,v2,v3⟩,⟨v4,v5,v6⟩,⟨v7,v8,v9⟩,⟨v10,v11,v12⟩⟩:=hv;go_enter Tryz.func65,Tryz.ntmps65;go_upto_region 1 with fail;refine Ar (fun X=>Below w.heap.size w X/\Bb X w.heap.size 64 #[.string p.nm,.slice A1 p.ed.length c1,.int .i64 p.gr,.slice A2 p.nt.length c2,.slice A3 p.cr.length c3,.slice A4 p.wd.length c4,.bool p.mt]) ⟨An (Below.refl _ _) _,Bb.new _ _ _⟩ ?_
 rintro X ⟨hbX,hP⟩;obtain⟨p0,p1,p2,p3,p4,p5,p6⟩:=pc7 hP
 go_wp2_with (go_at_call 103;refine(Fh p.nm _).mono ?_;rintro e w1 ⟨rfl,hb1⟩;rw[HN.out];have q2:=Aq hb1 p2)
 all_goals go_ret
 all_goals exact⟨rfl,Ao hbX hb1⟩
theorem Aj4 (A:Option Addr) (cap i:Nat) (Q:List PieceP) (vs:Array Value) (p:PieceP) (w:World) (hi:i<=1000) (hQ:PcS w A i Q) (hv:PcV w vs p) (h:Dg p.nm=true) (h1:p.gr=1):Calls Tryz.prog 65 #[.slice A i cap,.agg vs] w fun e w'=>e=.returned (.int .i64 (pcE Q i p))/\Below w.heap.size w w':=by
 have HE:=Lib.hid (show pcE Q i p=if Bq (fun j=>H7 (pce Q j).nm p.nm) i then 7
  else if (Cn p 0).2≠0 then (Cn p 0).2 else if Hq p 0≠0 then Hq p 0
  else if p.wd.length≠p.ed.length then 1 else if Bq (pwB p.wd) p.wd.length then 3 else 0 by
  unfold pcE;rw[if_neg (by rw[h];simp),if_neg (by rw[h1];decide)])
 have HN:=Lib.hid h;have HG:=Lib.hid h1;clear h h1;have hv0:=hv;obtain⟨A1,c1,A2,c2,A3,c3,A4,c4,rfl,⟨v1,v2,v3⟩,⟨v4,v5,v6⟩,⟨v7,v8,v9⟩,⟨v10,v11,v12⟩⟩:=hv;go_enter Tryz.func65,Tryz.ntmps65;go_upto_region 1 with fail;refine Ar (fun X=>Below w.heap.size w X/\Bb X w.heap.size 64 #[.string p.nm,.slice A1 p.ed.length c1,.int .i64 p.gr,.slice A2 p.nt.length c2,.slice A3 p.cr.length c3,.slice A4 p.wd.length c4,.bool p.mt]) ⟨An (Below.refl _ _) _,Bb.new _ _ _⟩ ?_
 rintro X ⟨hbX,hP⟩;obtain⟨p0,p1,p2,p3,p4,p5,p6⟩:=pc7 hP;rw[HG.out] at p2 hP;obtain⟨nm,hnm⟩:∃s,p.nm=s:=⟨_,rfl⟩
 have HNM:=Lib.hid hnm;clear hnm
 go_upto_region 6 with (go_at_call 103;refine(Fh p.nm _).mono ?_;rintro e w1 ⟨rfl,hb1⟩;rw[HN.out];have q2:=Aq hb1 p2)
 have hP1:=hP.keep hb1;have hQ1:=hQ.keep (Ao hbX hb1);clear p0 p1 p2 p3 p4 p5 p6 q2;go_loopw [6,32] (fun _ c wr=>∃k:Nat,k<=i/\c=.int .i64 k/\Hid (Bq (fun j=>H7 (pce Q j).nm p.nm) k=false)/\Below w1.heap.size w1 wr) (fun _ c _=>i-(intOf c).toNat)
 case atStart=>exact⟨0,Nat.zero_le _,rfl,Lib.hid (Bq.zero _),Below.refl _ _⟩
 case round =>
  obtain⟨k,hk,rfl,hz,hb⟩:=hrel;by_cases hlt:k<i
  ·obtain⟨b0,off,rfl,vs2,hvs2,hc⟩:=(hQ1.keep hb).at_ hlt
   obtain⟨E1,d1,E2,d2,E3,d3,E4,d4,rfl,-⟩:=hvs2;have k0:=hc 0 _ rfl;rw[Nat.add_zero] at k0;have k1:=hc 1 _ rfl;have k2:=hc 2 _ rfl;have k3:=hc 3 _ rfl;have k4:=hc 4 _ rfl;have k5:=hc 5 _ rfl;have k6:=hc 6 _ rfl;clear hc;obtain⟨pk,hpk⟩:∃q,pce Q k=q:=⟨_,rfl⟩
   have HPK:=Lib.hid hpk;rw[hpk] at k0 k1 k2 k3 k4 k5 k6;clear hpk;have f0:=(pc7 (hP1.keep hb)).1;rw[HNM.out] at f0;have B1:(k:Int)<(i:Int):=by omega
   go_upto_region 8 with fail;refine Ar (fun Y=>Below wr.heap.size wr Y/\Bb Y wr.heap.size 64 #[.string pk.nm,.slice E1 pk.ed.length d1,.int .i64 pk.gr,.slice E2 pk.nt.length d2,.slice E3 pk.cr.length d3,.slice E4 pk.wd.length d4,.bool pk.mt]) ⟨An (Below.refl _ _) _,Bb.new _ _ _⟩ ?_
   rintro Y ⟨hbY,hV⟩;have g0:=(pc7 hV).1;have f1:=Aq hbY f0;clear k0 k1 k2 k3 k4 k5 k6 f0;obtain⟨pn,hpn⟩:∃q,pk.nm=q:=⟨_,rfl⟩
   have HPN:=Lib.hid hpn;rw[hpn] at g0;clear hpn;obtain⟨bb,hbb⟩:∃bb,(pn.toList == nm.toList)=bb:=⟨_,rfl⟩
   have HS:Hid (H7 (pce Q k).nm p.nm=bb):=Lib.hid (by rw[HPK.out,HPN.out,HNM.out];exact hbb)
   cases bb with
   | true =>
     have HR:=Lib.hid (show pcE Q i p=7 by rw[HE.out,if_pos (Bq.yes (f:=fun j=>H7 (pce Q j).nm p.nm) hlt HS.out)])
     go_wp2_with fail;go_ret;exact⟨by rw[HR.out];rfl,Ao hbX (Ao hb1 (Ao hb hbY))⟩
   | false =>
     have HP:=Bq.succ (f:=fun j=>H7 (pce Q j).nm p.nm) hz.out HS.out
     go_wp2_with fail;exact⟨⟨k+1,by omega,by go_num,Lib.hid HP,Ao hb hbY⟩,by simp[intOf];omega⟩
  ·obtain rfl:i=k:=by omega
   have HE2:=Lib.hid (show pcE Q i p=if (Cn p 0).2≠0 then (Cn p 0).2 else if Hq p 0≠0 then Hq p 0
    else if p.wd.length≠p.ed.length then 1 else if Bq (pwB p.wd) p.wd.length then 3 else 0 by rw[HE.out,if_neg (by rw[hz.out];simp)])
   have hbW:=Ao hbX (Ao hb1 hb);have hP2:=hP1.keep hb;obtain⟨p0,p1,p2,p3,p4,p5,p6⟩:=pc7 hP2;have hvW:=hv0.keep hbW;have v12W:=v12.keep hbW;clear hb hQ1 hP1 hP hQ hv0 v3 v6 v9 v12;obtain⟨c,hc⟩:∃c,(Cn p 0).2=c:=⟨_,rfl⟩
   by_cases h0:c=0
   ·subst h0
    have HE3:=Lib.hid (show pcE Q i p=if Hq p 0≠0 then Hq p 0
     else if p.wd.length≠p.ed.length then 1 else if Bq (pwB p.wd) p.wd.length then 3 else 0 by rw[HE2.out,if_neg (by rw[hc];simp)])
    have HC:=Lib.hid hc;clear hc;obtain⟨c,hc⟩:∃c,Hq p 0=c:=⟨_,rfl⟩
    by_cases h0:c=0
    ·subst h0
     have HE4:=Lib.hid (show pcE Q i p=if p.wd.length≠p.ed.length then 1 else if Bq (pwB p.wd) p.wd.length then 3 else 0 by rw[HE3.out,if_neg (by rw[hc];simp)])
     have HC2:=Lib.hid hc;clear hc;obtain⟨n4,hn4⟩:∃n,p.wd.length=n:=⟨_,rfl⟩
     obtain⟨n1,hn1⟩:∃n,p.ed.length=n:=⟨_,rfl⟩
     rw[hn4] at HE4 p5 v10 v12W hP2;rw[hn1] at HE4 p1 v1 hP2;have HW0:Hid (PcV wr #[.string p.nm,.slice A1 n1 c1,.int .i64 p.gr,.slice A2 p.nt.length c2,.slice A3 p.cr.length c3,.slice A4 n4 c4,.bool p.mt] p):=Lib.hid (by rw[hn4,hn1] at hvW;exact hvW)
     rw[HG.out] at HW0;clear hn1 hn4 hvW;by_cases hl:n4=n1
     ·have hne:((n4:Int) != (n1:Int))=false:=by rw[hl];simp
      have HE5:=Lib.hid (show pcE Q i p=if Bq (pwB p.wd) n4 then 3 else 0 by rw[HE4.out,if_neg (by simp[hl])])
      clear hl
      go_upto_region 20 with (first
       | (go_at_call 106;have hz9:=hb3;refine(De _ p 0 _ (HW0.out.keep hb3)).mono ?_;rintro e w4 ⟨pz,rfl,hb4⟩;rw[HC2.out];obtain⟨s0,s1,s2,s3,s4,s5,s6⟩:=pc7 (hP2.keep (Ao hb3 hb4)))
       | (go_at_call 48;refine(Cc _ p 0 _ HW0.out).mono ?_;rintro e w3 ⟨A5,c5,rfl,-,-,-,hb3⟩;rw[HC.out];obtain⟨r0,r1,r2,r3,r4,r5,r6⟩:=pc7 (hP2.keep hb3)))
      have hbV:=Ao hbW (Ao hb3 hb4);have vW:=v12W.keep (Ao hb3 hb4);clear r0 r1 r2 r3 r4 r5 r6 s0 s1 s2 s3 s4 s5 s6 p0 p1 p2 p3 p4 p5 p6 hne;go_loopw [12,68] (fun _ c wx=>∃k:Nat,k<=n4/\c=.int .i64 k/\Hid (Bq (pwB p.wd) k=false)/\Hid (w4=wx)) (fun _ c _=>n4-(intOf c).toNat)
      case atStart=>exact⟨0,Nat.zero_le _,rfl,Lib.hid (Bq.zero _),Lib.hid rfl⟩
      case round =>
       obtain⟨k,hk,rfl,hz4,hxx⟩:=hrel;obtain rfl:=hxx.out;by_cases hlt:k<n4
       ·obtain⟨b9,off9,rfl,hc9⟩:=vW.at_ hlt
        have B1:(k:Int)<(n4:Int):=by omega
        obtain⟨x,hx⟩:∃x,gi p.wd k=x:=⟨_,rfl⟩
        rw[hx] at hc9;by_cases h0:x<0
        ·have HR:=Lib.hid (show pcE Q i p=3 by rw[HE5.out,if_pos (Bq.yes (f:=pwB p.wd) hlt (by unfold pwB;rw[hx];simp;omega))])
         clear hx;go_wp2_with fail;all_goals go_ret
         all_goals exact⟨by rw[HR.out];rfl,hbV⟩
        ·by_cases h5:500<x
         ·have HR:=Lib.hid (show pcE Q i p=3 by rw[HE5.out,if_pos (Bq.yes (f:=pwB p.wd) hlt (by unfold pwB;rw[hx];simp;omega))])
          clear hx;go_wp2_with fail;all_goals go_ret
          all_goals exact⟨by rw[HR.out];rfl,hbV⟩
         ·have HP:=Bq.succ (f:=pwB p.wd) hz4.out (by unfold pwB;rw[hx];simp;omega)
          clear hx;go_wp2_with fail;all_goals exact⟨⟨k+1,by omega,by go_num,Lib.hid HP,by first|exact Lib.hid rfl|exact Lib.hid trivial⟩,by simp[intOf];omega⟩
       ·obtain rfl:n4=k:=by omega
        have HR:=Lib.hid (show pcE Q i p=0 by rw[HE5.out,if_neg (by rw[hz4.out];simp)])
        go_wp2_with fail;go_ret;exact⟨by rw[HR.out];rfl,hbV⟩
     ·have hne:((n4:Int) != (n1:Int))=true:=by rw[bne_iff_ne];omega
      have HR:=Lib.hid (show pcE Q i p=1 by rw[HE4.out,if_pos hl])
      clear hl
      go_wp2_with (first
       | (go_at_call 106;have hz9:=hb3;refine(De _ p 0 _ (HW0.out.keep hb3)).mono ?_;rintro e w4 ⟨pz,rfl,hb4⟩;rw[HC2.out];obtain⟨s0,s1,s2,s3,s4,s5,s6⟩:=pc7 (hP2.keep (Ao hb3 hb4)))
       | (go_at_call 48;refine(Cc _ p 0 _ HW0.out).mono ?_;rintro e w3 ⟨A5,c5,rfl,-,-,-,hb3⟩;rw[HC.out];obtain⟨r0,r1,r2,r3,r4,r5,r6⟩:=pc7 (hP2.keep hb3)))
      go_ret;exact⟨by rw[HR.out];rfl,Ao hbW (Ao hb3 hb4)⟩
    ·have hne:(c != 0)=true:=by simpa using h0
     have HR:=Lib.hid (show pcE Q i p=c by rw[HE3.out,hc,if_pos h0])
     have HC2:=Lib.hid hc;rw[HG.out] at hvW;clear hc h0
     go_wp2_with (first
      | (go_at_call 106;have hz9:=hb3;refine(De _ p 0 _ (hvW.keep hb3)).mono ?_;rintro e w4 ⟨pz,rfl,hb4⟩;rw[HC2.out])
      | (go_at_call 48;refine(Cc _ p 0 _ hvW).mono ?_;rintro e w3 ⟨A5,c5,rfl,-,-,-,hb3⟩;rw[HC.out];obtain⟨r0,r1,r2,r3,r4,r5,r6⟩:=pc7 (hP2.keep hb3)))
     go_ret;exact⟨by rw[HR.out];rfl,Ao hbW (Ao hb3 hb4)⟩
   ·have hne:(c != 0)=true:=by simpa using h0
    have HR:=Lib.hid (show pcE Q i p=c by rw[HE2.out,hc,if_pos h0])
    have HC:=Lib.hid hc;rw[HG.out] at hvW;clear hc h0
    go_wp2_with (go_at_call 48;refine(Cc _ p 0 _ hvW).mono ?_;rintro e w3 ⟨A5,c5,rfl,-,-,-,hb3⟩;rw[HC.out])
    go_ret;exact⟨by rw[HR.out];rfl,Ao hbW hb3⟩
theorem Aj3 (A:Option Addr) (cap i:Nat) (Q:List PieceP) (vs:Array Value) (p:PieceP) (w:World) (hi:i<=1000) (hQ:PcS w A i Q) (hv:PcV w vs p) (h:Dg p.nm=true) (h1:p.gr=2):Calls Tryz.prog 65 #[.slice A i cap,.agg vs] w fun e w'=>e=.returned (.int .i64 (pcE Q i p))/\Below w.heap.size w w':=by
 have HE:=Lib.hid (show pcE Q i p=if Bq (fun j=>H7 (pce Q j).nm p.nm) i then 7
  else if (Cn p 0).2≠0 then (Cn p 0).2 else if Hq p 0≠0 then Hq p 0
  else if p.wd.length≠p.ed.length then 1 else if Bq (pwB p.wd) p.wd.length then 3 else 0 by
  unfold pcE;rw[if_neg (by rw[h];simp),if_neg (by rw[h1];decide)])
 have HN:=Lib.hid h;have HG:=Lib.hid h1;clear h h1;have hv0:=hv;obtain⟨A1,c1,A2,c2,A3,c3,A4,c4,rfl,⟨v1,v2,v3⟩,⟨v4,v5,v6⟩,⟨v7,v8,v9⟩,⟨v10,v11,v12⟩⟩:=hv;go_enter Tryz.func65,Tryz.ntmps65;go_upto_region 1 with fail;refine Ar (fun X=>Below w.heap.size w X/\Bb X w.heap.size 64 #[.string p.nm,.slice A1 p.ed.length c1,.int .i64 p.gr,.slice A2 p.nt.length c2,.slice A3 p.cr.length c3,.slice A4 p.wd.length c4,.bool p.mt]) ⟨An (Below.refl _ _) _,Bb.new _ _ _⟩ ?_
 rintro X ⟨hbX,hP⟩;obtain⟨p0,p1,p2,p3,p4,p5,p6⟩:=pc7 hP;rw[HG.out] at p2 hP;obtain⟨nm,hnm⟩:∃s,p.nm=s:=⟨_,rfl⟩
 have HNM:=Lib.hid hnm;clear hnm
 go_upto_region 6 with (go_at_call 103;refine(Fh p.nm _).mono ?_;rintro e w1 ⟨rfl,hb1⟩;rw[HN.out];have q2:=Aq hb1 p2)
 have hP1:=hP.keep hb1;have hQ1:=hQ.keep (Ao hbX hb1);clear p0 p1 p2 p3 p4 p5 p6 q2;go_loopw [6,32] (fun _ c wr=>∃k:Nat,k<=i/\c=.int .i64 k/\Hid (Bq (fun j=>H7 (pce Q j).nm p.nm) k=false)/\Below w1.heap.size w1 wr) (fun _ c _=>i-(intOf c).toNat)
 case atStart=>exact⟨0,Nat.zero_le _,rfl,Lib.hid (Bq.zero _),Below.refl _ _⟩
 case round =>
  obtain⟨k,hk,rfl,hz,hb⟩:=hrel;by_cases hlt:k<i
  ·obtain⟨b0,off,rfl,vs2,hvs2,hc⟩:=(hQ1.keep hb).at_ hlt
   obtain⟨E1,d1,E2,d2,E3,d3,E4,d4,rfl,-⟩:=hvs2;have k0:=hc 0 _ rfl;rw[Nat.add_zero] at k0;have k1:=hc 1 _ rfl;have k2:=hc 2 _ rfl;have k3:=hc 3 _ rfl;have k4:=hc 4 _ rfl;have k5:=hc 5 _ rfl;have k6:=hc 6 _ rfl;clear hc;obtain⟨pk,hpk⟩:∃q,pce Q k=q:=⟨_,rfl⟩
   have HPK:=Lib.hid hpk;rw[hpk] at k0 k1 k2 k3 k4 k5 k6;clear hpk;have f0:=(pc7 (hP1.keep hb)).1;rw[HNM.out] at f0;have B1:(k:Int)<(i:Int):=by omega
   go_upto_region 8 with fail;refine Ar (fun Y=>Below wr.heap.size wr Y/\Bb Y wr.heap.size 64 #[.string pk.nm,.slice E1 pk.ed.length d1,.int .i64 pk.gr,.slice E2 pk.nt.length d2,.slice E3 pk.cr.length d3,.slice E4 pk.wd.length d4,.bool pk.mt]) ⟨An (Below.refl _ _) _,Bb.new _ _ _⟩ ?_
   rintro Y ⟨hbY,hV⟩;have g0:=(pc7 hV).1;have f1:=Aq hbY f0;clear k0 k1 k2 k3 k4 k5 k6 f0;obtain⟨pn,hpn⟩:∃q,pk.nm=q:=⟨_,rfl⟩
   have HPN:=Lib.hid hpn;rw[hpn] at g0;clear hpn;obtain⟨bb,hbb⟩:∃bb,(pn.toList == nm.toList)=bb:=⟨_,rfl⟩
   have HS:Hid (H7 (pce Q k).nm p.nm=bb):=Lib.hid (by rw[HPK.out,HPN.out,HNM.out];exact hbb)
   cases bb with
   | true =>
     have HR:=Lib.hid (show pcE Q i p=7 by rw[HE.out,if_pos (Bq.yes (f:=fun j=>H7 (pce Q j).nm p.nm) hlt HS.out)])
     go_wp2_with fail;go_ret;exact⟨by rw[HR.out];rfl,Ao hbX (Ao hb1 (Ao hb hbY))⟩
   | false =>
     have HP:=Bq.succ (f:=fun j=>H7 (pce Q j).nm p.nm) hz.out HS.out
     go_wp2_with fail;exact⟨⟨k+1,by omega,by go_num,Lib.hid HP,Ao hb hbY⟩,by simp[intOf];omega⟩
  ·obtain rfl:i=k:=by omega
   have HE2:=Lib.hid (show pcE Q i p=if (Cn p 0).2≠0 then (Cn p 0).2 else if Hq p 0≠0 then Hq p 0
    else if p.wd.length≠p.ed.length then 1 else if Bq (pwB p.wd) p.wd.length then 3 else 0 by rw[HE.out,if_neg (by rw[hz.out];simp)])
   have hbW:=Ao hbX (Ao hb1 hb);have hP2:=hP1.keep hb;obtain⟨p0,p1,p2,p3,p4,p5,p6⟩:=pc7 hP2;have hvW:=hv0.keep hbW;have v12W:=v12.keep hbW;clear hb hQ1 hP1 hP hQ hv0 v3 v6 v9 v12;obtain⟨c,hc⟩:∃c,(Cn p 0).2=c:=⟨_,rfl⟩
   by_cases h0:c=0
   ·subst h0
    have HE3:=Lib.hid (show pcE Q i p=if Hq p 0≠0 then Hq p 0
     else if p.wd.length≠p.ed.length then 1 else if Bq (pwB p.wd) p.wd.length then 3 else 0 by rw[HE2.out,if_neg (by rw[hc];simp)])
    have HC:=Lib.hid hc;clear hc;obtain⟨c,hc⟩:∃c,Hq p 0=c:=⟨_,rfl⟩
    by_cases h0:c=0
    ·subst h0
     have HE4:=Lib.hid (show pcE Q i p=if p.wd.length≠p.ed.length then 1 else if Bq (pwB p.wd) p.wd.length then 3 else 0 by rw[HE3.out,if_neg (by rw[hc];simp)])
     have HC2:=Lib.hid hc;clear hc;obtain⟨n4,hn4⟩:∃n,p.wd.length=n:=⟨_,rfl⟩
     obtain⟨n1,hn1⟩:∃n,p.ed.length=n:=⟨_,rfl⟩
     rw[hn4] at HE4 p5 v10 v12W hP2;rw[hn1] at HE4 p1 v1 hP2;have HW0:Hid (PcV wr #[.string p.nm,.slice A1 n1 c1,.int .i64 p.gr,.slice A2 p.nt.length c2,.slice A3 p.cr.length c3,.slice A4 n4 c4,.bool p.mt] p):=Lib.hid (by rw[hn4,hn1] at hvW;exact hvW)
     rw[HG.out] at HW0;clear hn1 hn4 hvW;by_cases hl:n4=n1
     ·have hne:((n4:Int) != (n1:Int))=false:=by rw[hl];simp
      have HE5:=Lib.hid (show pcE Q i p=if Bq (pwB p.wd) n4 then 3 else 0 by rw[HE4.out,if_neg (by simp[hl])])
      clear hl
      go_upto_region 20 with (first
       | (go_at_call 106;have hz9:=hb3;refine(De _ p 0 _ (HW0.out.keep hb3)).mono ?_;rintro e w4 ⟨pz,rfl,hb4⟩;rw[HC2.out];obtain⟨s0,s1,s2,s3,s4,s5,s6⟩:=pc7 (hP2.keep (Ao hb3 hb4)))
       | (go_at_call 48;refine(Cc _ p 0 _ HW0.out).mono ?_;rintro e w3 ⟨A5,c5,rfl,-,-,-,hb3⟩;rw[HC.out];obtain⟨r0,r1,r2,r3,r4,r5,r6⟩:=pc7 (hP2.keep hb3)))
      have hbV:=Ao hbW (Ao hb3 hb4);have vW:=v12W.keep (Ao hb3 hb4);clear r0 r1 r2 r3 r4 r5 r6 s0 s1 s2 s3 s4 s5 s6 p0 p1 p2 p3 p4 p5 p6 hne;go_loopw [12,68] (fun _ c wx=>∃k:Nat,k<=n4/\c=.int .i64 k/\Hid (Bq (pwB p.wd) k=false)/\Hid (w4=wx)) (fun _ c _=>n4-(intOf c).toNat)
      case atStart=>exact⟨0,Nat.zero_le _,rfl,Lib.hid (Bq.zero _),Lib.hid rfl⟩
      case round =>
       obtain⟨k,hk,rfl,hz4,hxx⟩:=hrel;obtain rfl:=hxx.out;by_cases hlt:k<n4
       ·obtain⟨b9,off9,rfl,hc9⟩:=vW.at_ hlt
        have B1:(k:Int)<(n4:Int):=by omega
        obtain⟨x,hx⟩:∃x,gi p.wd k=x:=⟨_,rfl⟩
        rw[hx] at hc9;by_cases h0:x<0
        ·have HR:=Lib.hid (show pcE Q i p=3 by rw[HE5.out,if_pos (Bq.yes (f:=pwB p.wd) hlt (by unfold pwB;rw[hx];simp;omega))])
         clear hx;go_wp2_with fail;all_goals go_ret
         all_goals exact⟨by rw[HR.out];rfl,hbV⟩
        ·by_cases h5:500<x
         ·have HR:=Lib.hid (show pcE Q i p=3 by rw[HE5.out,if_pos (Bq.yes (f:=pwB p.wd) hlt (by unfold pwB;rw[hx];simp;omega))])
          clear hx;go_wp2_with fail;all_goals go_ret
          all_goals exact⟨by rw[HR.out];rfl,hbV⟩
         ·have HP:=Bq.succ (f:=pwB p.wd) hz4.out (by unfold pwB;rw[hx];simp;omega)
          clear hx;go_wp2_with fail;all_goals exact⟨⟨k+1,by omega,by go_num,Lib.hid HP,by first|exact Lib.hid rfl|exact Lib.hid trivial⟩,by simp[intOf];omega⟩
       ·obtain rfl:n4=k:=by omega
        have HR:=Lib.hid (show pcE Q i p=0 by rw[HE5.out,if_neg (by rw[hz4.out];simp)])
        go_wp2_with fail;go_ret;exact⟨by rw[HR.out];rfl,hbV⟩
     ·have hne:((n4:Int) != (n1:Int))=true:=by rw[bne_iff_ne];omega
      have HR:=Lib.hid (show pcE Q i p=1 by rw[HE4.out,if_pos hl])
      clear hl
      go_wp2_with (first
       | (go_at_call 106;have hz9:=hb3;refine(De _ p 0 _ (HW0.out.keep hb3)).mono ?_;rintro e w4 ⟨pz,rfl,hb4⟩;rw[HC2.out];obtain⟨s0,s1,s2,s3,s4,s5,s6⟩:=pc7 (hP2.keep (Ao hb3 hb4)))
       | (go_at_call 48;refine(Cc _ p 0 _ HW0.out).mono ?_;rintro e w3 ⟨A5,c5,rfl,-,-,-,hb3⟩;rw[HC.out];obtain⟨r0,r1,r2,r3,r4,r5,r6⟩:=pc7 (hP2.keep hb3)))
      go_ret;exact⟨by rw[HR.out];rfl,Ao hbW (Ao hb3 hb4)⟩
    ·have hne:(c != 0)=true:=by simpa using h0
     have HR:=Lib.hid (show pcE Q i p=c by rw[HE3.out,hc,if_pos h0])
     have HC2:=Lib.hid hc;rw[HG.out] at hvW;clear hc h0
     go_wp2_with (first
      | (go_at_call 106;have hz9:=hb3;refine(De _ p 0 _ (hvW.keep hb3)).mono ?_;rintro e w4 ⟨pz,rfl,hb4⟩;rw[HC2.out])
      | (go_at_call 48;refine(Cc _ p 0 _ hvW).mono ?_;rintro e w3 ⟨A5,c5,rfl,-,-,-,hb3⟩;rw[HC.out];obtain⟨r0,r1,r2,r3,r4,r5,r6⟩:=pc7 (hP2.keep hb3)))
     go_ret;exact⟨by rw[HR.out];rfl,Ao hbW (Ao hb3 hb4)⟩
   ·have hne:(c != 0)=true:=by simpa using h0
    have HR:=Lib.hid (show pcE Q i p=c by rw[HE2.out,hc,if_pos h0])
    have HC:=Lib.hid hc;rw[HG.out] at hvW;clear hc h0
    go_wp2_with (go_at_call 48;refine(Cc _ p 0 _ hvW).mono ?_;rintro e w3 ⟨A5,c5,rfl,-,-,-,hb3⟩;rw[HC.out])
    go_ret;exact⟨by rw[HR.out];rfl,Ao hbW hb3⟩
theorem Aj2 (A:Option Addr) (cap i:Nat) (Q:List PieceP) (vs:Array Value) (p:PieceP) (w:World) (hi:i<=1000) (hQ:PcS w A i Q) (hv:PcV w vs p) (h:Dg p.nm=true) (h1:p.gr=4):Calls Tryz.prog 65 #[.slice A i cap,.agg vs] w fun e w'=>e=.returned (.int .i64 (pcE Q i p))/\Below w.heap.size w w':=by
 have HE:=Lib.hid (show pcE Q i p=if Bq (fun j=>H7 (pce Q j).nm p.nm) i then 7
  else if (Cn p 0).2≠0 then (Cn p 0).2 else if Hq p 0≠0 then Hq p 0
  else if p.wd.length≠p.ed.length then 1 else if Bq (pwB p.wd) p.wd.length then 3 else 0 by
  unfold pcE;rw[if_neg (by rw[h];simp),if_neg (by rw[h1];decide)])
 have HN:=Lib.hid h;have HG:=Lib.hid h1;clear h h1;have hv0:=hv;obtain⟨A1,c1,A2,c2,A3,c3,A4,c4,rfl,⟨v1,v2,v3⟩,⟨v4,v5,v6⟩,⟨v7,v8,v9⟩,⟨v10,v11,v12⟩⟩:=hv;go_enter Tryz.func65,Tryz.ntmps65;go_upto_region 1 with fail;refine Ar (fun X=>Below w.heap.size w X/\Bb X w.heap.size 64 #[.string p.nm,.slice A1 p.ed.length c1,.int .i64 p.gr,.slice A2 p.nt.length c2,.slice A3 p.cr.length c3,.slice A4 p.wd.length c4,.bool p.mt]) ⟨An (Below.refl _ _) _,Bb.new _ _ _⟩ ?_
 rintro X ⟨hbX,hP⟩;obtain⟨p0,p1,p2,p3,p4,p5,p6⟩:=pc7 hP;rw[HG.out] at p2 hP;obtain⟨nm,hnm⟩:∃s,p.nm=s:=⟨_,rfl⟩
 have HNM:=Lib.hid hnm;clear hnm
 go_upto_region 6 with (go_at_call 103;refine(Fh p.nm _).mono ?_;rintro e w1 ⟨rfl,hb1⟩;rw[HN.out];have q2:=Aq hb1 p2)
 have hP1:=hP.keep hb1;have hQ1:=hQ.keep (Ao hbX hb1);clear p0 p1 p2 p3 p4 p5 p6 q2;go_loopw [6,32] (fun _ c wr=>∃k:Nat,k<=i/\c=.int .i64 k/\Hid (Bq (fun j=>H7 (pce Q j).nm p.nm) k=false)/\Below w1.heap.size w1 wr) (fun _ c _=>i-(intOf c).toNat)
 case atStart=>exact⟨0,Nat.zero_le _,rfl,Lib.hid (Bq.zero _),Below.refl _ _⟩
 case round =>
  obtain⟨k,hk,rfl,hz,hb⟩:=hrel;by_cases hlt:k<i
  ·obtain⟨b0,off,rfl,vs2,hvs2,hc⟩:=(hQ1.keep hb).at_ hlt
   obtain⟨E1,d1,E2,d2,E3,d3,E4,d4,rfl,-⟩:=hvs2;have k0:=hc 0 _ rfl;rw[Nat.add_zero] at k0;have k1:=hc 1 _ rfl;have k2:=hc 2 _ rfl;have k3:=hc 3 _ rfl;have k4:=hc 4 _ rfl;have k5:=hc 5 _ rfl;have k6:=hc 6 _ rfl;clear hc;obtain⟨pk,hpk⟩:∃q,pce Q k=q:=⟨_,rfl⟩
   have HPK:=Lib.hid hpk;rw[hpk] at k0 k1 k2 k3 k4 k5 k6;clear hpk;have f0:=(pc7 (hP1.keep hb)).1;rw[HNM.out] at f0;have B1:(k:Int)<(i:Int):=by omega
   go_upto_region 8 with fail;refine Ar (fun Y=>Below wr.heap.size wr Y/\Bb Y wr.heap.size 64 #[.string pk.nm,.slice E1 pk.ed.length d1,.int .i64 pk.gr,.slice E2 pk.nt.length d2,.slice E3 pk.cr.length d3,.slice E4 pk.wd.length d4,.bool pk.mt]) ⟨An (Below.refl _ _) _,Bb.new _ _ _⟩ ?_
   rintro Y ⟨hbY,hV⟩;have g0:=(pc7 hV).1;have f1:=Aq hbY f0;clear k0 k1 k2 k3 k4 k5 k6 f0;obtain⟨pn,hpn⟩:∃q,pk.nm=q:=⟨_,rfl⟩
   have HPN:=Lib.hid hpn;rw[hpn] at g0;clear hpn;obtain⟨bb,hbb⟩:∃bb,(pn.toList == nm.toList)=bb:=⟨_,rfl⟩
   have HS:Hid (H7 (pce Q k).nm p.nm=bb):=Lib.hid (by rw[HPK.out,HPN.out,HNM.out];exact hbb)
   cases bb with
   | true =>
     have HR:=Lib.hid (show pcE Q i p=7 by rw[HE.out,if_pos (Bq.yes (f:=fun j=>H7 (pce Q j).nm p.nm) hlt HS.out)])
     go_wp2_with fail;go_ret;exact⟨by rw[HR.out];rfl,Ao hbX (Ao hb1 (Ao hb hbY))⟩
   | false =>
     have HP:=Bq.succ (f:=fun j=>H7 (pce Q j).nm p.nm) hz.out HS.out
     go_wp2_with fail;exact⟨⟨k+1,by omega,by go_num,Lib.hid HP,Ao hb hbY⟩,by simp[intOf];omega⟩
  ·obtain rfl:i=k:=by omega
   have HE2:=Lib.hid (show pcE Q i p=if (Cn p 0).2≠0 then (Cn p 0).2 else if Hq p 0≠0 then Hq p 0
    else if p.wd.length≠p.ed.length then 1 else if Bq (pwB p.wd) p.wd.length then 3 else 0 by rw[HE.out,if_neg (by rw[hz.out];simp)])
   have hbW:=Ao hbX (Ao hb1 hb);have hP2:=hP1.keep hb;obtain⟨p0,p1,p2,p3,p4,p5,p6⟩:=pc7 hP2;have hvW:=hv0.keep hbW;have v12W:=v12.keep hbW;clear hb hQ1 hP1 hP hQ hv0 v3 v6 v9 v12;obtain⟨c,hc⟩:∃c,(Cn p 0).2=c:=⟨_,rfl⟩
   by_cases h0:c=0
   ·subst h0
    have HE3:=Lib.hid (show pcE Q i p=if Hq p 0≠0 then Hq p 0
     else if p.wd.length≠p.ed.length then 1 else if Bq (pwB p.wd) p.wd.length then 3 else 0 by rw[HE2.out,if_neg (by rw[hc];simp)])
    have HC:=Lib.hid hc;clear hc;obtain⟨c,hc⟩:∃c,Hq p 0=c:=⟨_,rfl⟩
    by_cases h0:c=0
    ·subst h0
     have HE4:=Lib.hid (show pcE Q i p=if p.wd.length≠p.ed.length then 1 else if Bq (pwB p.wd) p.wd.length then 3 else 0 by rw[HE3.out,if_neg (by rw[hc];simp)])
     have HC2:=Lib.hid hc;clear hc;obtain⟨n4,hn4⟩:∃n,p.wd.length=n:=⟨_,rfl⟩
     obtain⟨n1,hn1⟩:∃n,p.ed.length=n:=⟨_,rfl⟩
     rw[hn4] at HE4 p5 v10 v12W hP2;rw[hn1] at HE4 p1 v1 hP2;have HW0:Hid (PcV wr #[.string p.nm,.slice A1 n1 c1,.int .i64 p.gr,.slice A2 p.nt.length c2,.slice A3 p.cr.length c3,.slice A4 n4 c4,.bool p.mt] p):=Lib.hid (by rw[hn4,hn1] at hvW;exact hvW)
     rw[HG.out] at HW0;clear hn1 hn4 hvW;by_cases hl:n4=n1
     ·have hne:((n4:Int) != (n1:Int))=false:=by rw[hl];simp
      have HE5:=Lib.hid (show pcE Q i p=if Bq (pwB p.wd) n4 then 3 else 0 by rw[HE4.out,if_neg (by simp[hl])])
      clear hl
      go_upto_region 20 with (first
       | (go_at_call 106;have hz9:=hb3;refine(De _ p 0 _ (HW0.out.keep hb3)).mono ?_;rintro e w4 ⟨pz,rfl,hb4⟩;rw[HC2.out];obtain⟨s0,s1,s2,s3,s4,s5,s6⟩:=pc7 (hP2.keep (Ao hb3 hb4)))
       | (go_at_call 48;refine(Cc _ p 0 _ HW0.out).mono ?_;rintro e w3 ⟨A5,c5,rfl,-,-,-,hb3⟩;rw[HC.out];obtain⟨r0,r1,r2,r3,r4,r5,r6⟩:=pc7 (hP2.keep hb3)))
      have hbV:=Ao hbW (Ao hb3 hb4);have vW:=v12W.keep (Ao hb3 hb4);clear r0 r1 r2 r3 r4 r5 r6 s0 s1 s2 s3 s4 s5 s6 p0 p1 p2 p3 p4 p5 p6 hne;go_loopw [12,68] (fun _ c wx=>∃k:Nat,k<=n4/\c=.int .i64 k/\Hid (Bq (pwB p.wd) k=false)/\Hid (w4=wx)) (fun _ c _=>n4-(intOf c).toNat)
      case atStart=>exact⟨0,Nat.zero_le _,rfl,Lib.hid (Bq.zero _),Lib.hid rfl⟩
      case round =>
       obtain⟨k,hk,rfl,hz4,hxx⟩:=hrel;obtain rfl:=hxx.out;by_cases hlt:k<n4
       ·obtain⟨b9,off9,rfl,hc9⟩:=vW.at_ hlt
        have B1:(k:Int)<(n4:Int):=by omega
        obtain⟨x,hx⟩:∃x,gi p.wd k=x:=⟨_,rfl⟩
        rw[hx] at hc9;by_cases h0:x<0
        ·have HR:=Lib.hid (show pcE Q i p=3 by rw[HE5.out,if_pos (Bq.yes (f:=pwB p.wd) hlt (by unfold pwB;rw[hx];simp;omega))])
         clear hx;go_wp2_with fail;all_goals go_ret
         all_goals exact⟨by rw[HR.out];rfl,hbV⟩
        ·by_cases h5:500<x
         ·have HR:=Lib.hid (show pcE Q i p=3 by rw[HE5.out,if_pos (Bq.yes (f:=pwB p.wd) hlt (by unfold pwB;rw[hx];simp;omega))])
          clear hx;go_wp2_with fail;all_goals go_ret
          all_goals exact⟨by rw[HR.out];rfl,hbV⟩
         ·have HP:=Bq.succ (f:=pwB p.wd) hz4.out (by unfold pwB;rw[hx];simp;omega)
          clear hx;go_wp2_with fail;all_goals exact⟨⟨k+1,by omega,by go_num,Lib.hid HP,by first|exact Lib.hid rfl|exact Lib.hid trivial⟩,by simp[intOf];omega⟩
       ·obtain rfl:n4=k:=by omega
        have HR:=Lib.hid (show pcE Q i p=0 by rw[HE5.out,if_neg (by rw[hz4.out];simp)])
        go_wp2_with fail;go_ret;exact⟨by rw[HR.out];rfl,hbV⟩
     ·have hne:((n4:Int) != (n1:Int))=true:=by rw[bne_iff_ne];omega
      have HR:=Lib.hid (show pcE Q i p=1 by rw[HE4.out,if_pos hl])
      clear hl
      go_wp2_with (first
       | (go_at_call 106;have hz9:=hb3;refine(De _ p 0 _ (HW0.out.keep hb3)).mono ?_;rintro e w4 ⟨pz,rfl,hb4⟩;rw[HC2.out];obtain⟨s0,s1,s2,s3,s4,s5,s6⟩:=pc7 (hP2.keep (Ao hb3 hb4)))
       | (go_at_call 48;refine(Cc _ p 0 _ HW0.out).mono ?_;rintro e w3 ⟨A5,c5,rfl,-,-,-,hb3⟩;rw[HC.out];obtain⟨r0,r1,r2,r3,r4,r5,r6⟩:=pc7 (hP2.keep hb3)))
      go_ret;exact⟨by rw[HR.out];rfl,Ao hbW (Ao hb3 hb4)⟩
    ·have hne:(c != 0)=true:=by simpa using h0
     have HR:=Lib.hid (show pcE Q i p=c by rw[HE3.out,hc,if_pos h0])
     have HC2:=Lib.hid hc;rw[HG.out] at hvW;clear hc h0
     go_wp2_with (first
      | (go_at_call 106;have hz9:=hb3;refine(De _ p 0 _ (hvW.keep hb3)).mono ?_;rintro e w4 ⟨pz,rfl,hb4⟩;rw[HC2.out])
      | (go_at_call 48;refine(Cc _ p 0 _ hvW).mono ?_;rintro e w3 ⟨A5,c5,rfl,-,-,-,hb3⟩;rw[HC.out];obtain⟨r0,r1,r2,r3,r4,r5,r6⟩:=pc7 (hP2.keep hb3)))
     go_ret;exact⟨by rw[HR.out];rfl,Ao hbW (Ao hb3 hb4)⟩
   ·have hne:(c != 0)=true:=by simpa using h0
    have HR:=Lib.hid (show pcE Q i p=c by rw[HE2.out,hc,if_pos h0])
    have HC:=Lib.hid hc;rw[HG.out] at hvW;clear hc h0
    go_wp2_with (go_at_call 48;refine(Cc _ p 0 _ hvW).mono ?_;rintro e w3 ⟨A5,c5,rfl,-,-,-,hb3⟩;rw[HC.out])
    go_ret;exact⟨by rw[HR.out];rfl,Ao hbW hb3⟩
theorem Uf (A:Option Addr) (cap i:Nat) (Q:List PieceP) (vs:Array Value) (p:PieceP) (w:World) (hi:i<=1000) (hQ:PcS w A i Q) (hv:PcV w vs p):Calls Tryz.prog 65 #[.slice A i cap,.agg vs] w fun e w'=>e=.returned (.int .i64 (pcE Q i p))/\Below w.heap.size w w':=by
 cases hn:Dg p.nm with
 | false =>
   rw[show pcE Q i p=1 by unfold pcE;rw[if_pos hn]]
   exact Al6 A cap i vs p w hv hn
 | true =>
   by_cases h1:p.gr=1
   ·exact Aj4 A cap i Q vs p w hi hQ hv hn h1
   ·by_cases h2:p.gr=2
    ·exact Aj3 A cap i Q vs p w hi hQ hv hn h2
    ·by_cases h4:p.gr=4
     ·exact Aj2 A cap i Q vs p w hi hQ hv hn h4
     ·rw[show pcE Q i p=1 by unfold pcE;rw[if_neg (by rw[hn];simp),if_pos ⟨h1,h2,h4⟩]]
      exact Al5 A cap i vs p w hv hn ⟨h1,h2,h4⟩
def szC (c:Int):Bool:=!(decide (65<=c)&&decide (c<=90))&&!(decide (48<=c)&&decide (c<=57))
theorem Yg (s:ByteArray) (w:World) (hs:s.size<=9223372036854775807):Calls Tryz.prog 161 #[.string s] w fun e w'=>e=.returned (.bool (szB s))/\w=w':=by
 have HZ:=Lib.hid (show szB s=(!Bq (fun i=>szC (byI s i)) s.size&&(decide (1<=s.size)&&decide (s.size<=8))) from rfl)
 go_enter Tryz.func161,Tryz.ntmps161;go_upto_region 2 with fail;go_loopw [3,4,5,8] (fun _ _ _ i wr=>∃k:Nat,k<=s.size/\i=.int .i64 k/\Hid (Bq (fun i=>szC (byI s i)) k=false)/\wr=w) (fun _ _ _ i _=>s.size-(intOf i).toNat)
 case atStart=>exact⟨0,Nat.zero_le _,rfl,Bq.zero _,rfl⟩
 case round =>
  obtain⟨k,hk,rfl,hp,rfl⟩:=hrel;by_cases hlt:k<s.size
  ·have B1:(k:Int)<(s.size:Int):=by omega
   obtain⟨c,hc⟩:∃c:Int,(s[k].toNat:Int)=c:=⟨_,rfl⟩
   have HBY:=Lib.hid (show byI s k=c by unfold byI;rw[dif_pos hlt,hc])
   obtain⟨a1,h1⟩:∃b,decide (65<=c)=b:=⟨_,rfl⟩
   obtain⟨a2,h2⟩:∃b,decide (c<=90)=b:=⟨_,rfl⟩
   obtain⟨a3,h3⟩:∃b,decide (48<=c)=b:=⟨_,rfl⟩
   obtain⟨a4,h4⟩:∃b,decide (c<=57)=b:=⟨_,rfl⟩
   have HC:=Lib.hid (show szC c=(!(a1&&a2)&&!(a3&&a4)) by unfold szC;rw[h1,h2,h3,h4])
   rcases(show (c<48\/(57<c/\c<65)\/90<c)\/((48<=c/\c<=57)\/(65<=c/\c<=90)) by omega) with hno|hyes
   ·have HF:=Lib.hid (show szB s=false by
     rw[HZ.out,Bq.yes (f:=fun i=>szC (byI s i)) hlt (by rw[HBY.out];unfold szC;rcases hno with h|h|h<;>simp<;>omega)];rfl)
    rcases hno with h|h|h
    ·obtain rfl:a1=false:=by rw[<-h1];simp;omega
     obtain rfl:a3=false:=by rw[<-h3];simp;omega
     go_wp2_with fail;all_goals (go_ret;exact⟨by rw[HF.out];rfl,rfl⟩)
    ·obtain rfl:a1=false:=by rw[<-h1];simp;omega
     obtain rfl:a3=true:=by rw[<-h3];simp;omega
     obtain rfl:a4=false:=by rw[<-h4];simp;omega
     go_wp2_with fail;all_goals (go_ret;exact⟨by rw[HF.out];rfl,rfl⟩)
    ·obtain rfl:a1=true:=by rw[<-h1];simp;omega
     obtain rfl:a2=false:=by rw[<-h2];simp;omega
     obtain rfl:a3=true:=by rw[<-h3];simp;omega
     obtain rfl:a4=false:=by rw[<-h4];simp;omega
     go_wp2_with fail;all_goals (go_ret;exact⟨by rw[HF.out];rfl,rfl⟩)
   ·have HS:=Bq.succ (f:=fun i=>szC (byI s i)) hp.out (by rw[HBY.out];unfold szC;rcases hyes with h|h<;>simp<;>omega)
    rcases hyes with h|h
    ·obtain rfl:a1=false:=by rw[<-h1];simp;omega
     obtain rfl:a3=true:=by rw[<-h3];simp;omega
     obtain rfl:a4=true:=by rw[<-h4];simp;omega
     go_wp2_with fail;all_goals (first|exact⟨⟨k+1,by omega,by go_num,HS,trivial⟩,by simp[intOf];omega⟩|(go_roundw;(case rel=>exact⟨k+1,by omega,by go_num,HS,rfl⟩);(case measure=>simp[intOf];omega)))
    ·obtain rfl:a1=true:=by rw[<-h1];simp;omega
     obtain rfl:a2=true:=by rw[<-h2];simp;omega
     obtain rfl:a3=true:=by rw[<-h3];simp;omega
     obtain rfl:a4=false:=by rw[<-h4];simp;omega
     go_wp2_with fail;all_goals (first|exact⟨⟨k+1,by omega,by go_num,HS,trivial⟩,by simp[intOf];omega⟩|(go_roundw;(case rel=>exact⟨k+1,by omega,by go_num,HS,rfl⟩);(case measure=>simp[intOf];omega)))
  ·obtain rfl:k=s.size:=by omega
   rcases(show (s.size:Int)<1\/(1<=(s.size:Int)/\(s.size:Int)<=8)\/8<(s.size:Int) by omega) with h|h|h
   ·have HR:=Lib.hid (show szB s=false by rw[HZ.out,hp.out];simp;omega)
    go_wp2_with fail;all_goals (go_ret;exact⟨by rw[HR.out];simp<;>omega,rfl⟩)
   ·have HR:=Lib.hid (show szB s=true by rw[HZ.out,hp.out];simp;omega)
    go_wp2_with fail;all_goals (go_ret;exact⟨by rw[HR.out];simp<;>omega,rfl⟩)
   ·have HR:=Lib.hid (show szB s=false by rw[HZ.out,hp.out];simp;omega)
    go_wp2_with fail;all_goals (go_ret;exact⟨by rw[HR.out];simp<;>omega,rfl⟩)
end Go.Proofs.YtpbchbcdgikonaaGreat
