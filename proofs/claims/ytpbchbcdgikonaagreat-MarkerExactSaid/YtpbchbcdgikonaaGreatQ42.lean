/- Lean texts of the claim. -/
import Derived.Test.YtpbchbcdgikonaaGreatQ41
namespace Go.Proofs.YtpbchbcdgikonaaGreat
set_option linter.unusedVariables false
set_option linter.unusedSimpArgs false
set_option maxRecDepth 100000
set_option maxHeartbeats 4000000
open Go.RowKit
def Aka (w:World) (r:(Int×Int)×Int) (e:Ending) (w':World):Prop:=e=.returned (.tuple #[.agg #[.int .i64 r.1.1,.int .i64 r.1.2],.int .i64 r.2])/\Below w.heap.size w w'
theorem pw (vs:Array Value) (s:StyleP) (z u:Int) (w:World) (hsm:SmS s) (hv:StV w vs s):Calls Tryz.prog 12 #[.agg vs,.int .i64 z,.int .i64 u] w (Rz w (Lb s z u)):=by
 obtain⟨r,hr⟩:∃r,Ki s z u=r:=⟨_,rfl⟩
 obtain⟨A1,c1,A2,c2,A3,c3,A4,c4,A5,c5,A6,c6,rfl,-⟩:=id hv
 have HC:=Lib.hid (fun (X:World) (hX:StV X #[.string s.nm,.slice A1 s.sz.length c1,.slice A2 s.mu.length c2,.slice A3 s.pc.length c3,.slice A4 s.us.length c4,.slice A5 s.se.length c5,.slice A6 s.no c6] s)=>show Calls Tryz.prog 28 #[.agg #[.string s.nm,.slice A1 s.sz.length c1,.slice A2 s.mu.length c2,.slice A3 s.pc.length c3,.slice A4 s.us.length c4,.slice A5 s.se.length c5,.slice A6 s.no c6],.int .i64 z,.int .i64 u] X (R5 X r (Cl s u)) by
  rw[<-hr];exact Xt _ s z u X hsm hX)
 have HW:=Lib.hid (show Lb s z u=if r.2≠0 then ([],r.2) else I5 r.1 (Cl s u).wd by unfold Lb;rw[hr])
 obtain⟨E,c⟩:=r;dsimp only at HC HW;clear hr;go_enter Tryz.func12,Tryz.ntmps12;go_upto_region 1 with fail;refine Ar (fun X=>Below w.heap.size w X/\Bb X w.heap.size 29 #[.string s.nm,.slice A1 s.sz.length c1,.slice A2 s.mu.length c2,.slice A3 s.pc.length c3,.slice A4 s.us.length c4,.slice A5 s.se.length c5,.slice A6 s.no c6]) ⟨An (Below.refl _ _) _,Bb.new _ _ _⟩ ?_
 rintro X ⟨hbX,hP⟩;obtain⟨p0,p1,p2,p3,p4,p5,p6⟩:=st7 hP;have hvX:=hv.keep hbX;by_cases h:c=0
 ·subst h
  have HR:=Lib.hid (show Lb s z u=I5 E (Cl s u).wd by rw[HW.out,if_neg (by simp)])
  go_upto_region 2 with (go_at_call 28;refine(HC.out _ hvX).mono ?_;rintro e w1 ⟨A7,c7,vs7,p7,rfl,i1,i2,i3,i4,i5,hb1⟩;have hpp:=i5 rfl;subst hpp;clear i5;obtain⟨E1,d1,E2,d2,E3,d3,E4,d4,rfl,-,-,-,k1,k2,k3⟩:=i4)
  obtain⟨p7,hp7⟩:∃p,Cl s u=p:=⟨_,rfl⟩
  rw[hp7] at k1 k3 HR ⊢;clear hp7;refine Ar (fun Y=>Below w1.heap.size w1 Y/\Bb Y w1.heap.size 64 #[.string p7.nm,.slice E1 p7.ed.length d1,.int .i64 p7.gr,.slice E2 p7.nt.length d2,.slice E3 p7.cr.length d3,.slice E4 p7.wd.length d4,.bool p7.mt]) ⟨An (Below.refl _ _) _,Bb.new _ _ _⟩ ?_
  rintro Y ⟨hbY,hQ⟩;obtain⟨y0,y1,y2,y3,y4,y5,y6⟩:=pc7 hQ;have i3':=i3.keep hbY;have k3':=k3.keep hbY;have hl:=i3.1
  try dsimp only at i1 i2 i3 i3' hl ⊢
  clear i3 k3 p0 p1 p2 p3 p4 p5 p6 hP hvX
  go_wp2_with (go_at_call 29;refine(r9 A7 c7 E.length E E4 p7.wd.length d4 p7.wd _ i1 (by omega) i3' k3').mono ?_;rintro e w2 ⟨v2,rfl,ho2,hb2⟩)
  go_ret2
  rw[HR.out];exact⟨_,rfl,OwG.lower ho2 (Ao (Ao hbX hb1) hbY).size,Ao (Ao (Ao hbX hb1) hbY) hb2⟩
 ·have HR:=Lib.hid (show Lb s z u=([],c) by rw[HW.out,if_pos h])
  have hne:(c != 0)=true:=by simpa using h
  clear h
  go_wp2_with (go_at_call 28;refine(HC.out _ hvX).mono ?_;rintro e w1 ⟨A7,c7,vs7,p7,rfl,i1,i2,i3,i4,i5,hb1⟩;obtain⟨E1,d1,E2,d2,E3,d3,E4,d4,rfl,-⟩:=i4)
  go_ret2
  rw[HR.out];exact⟨_,rfl,OwG.nil,An (Ao hbX hb1) _⟩
theorem kc {s:StyleP} {z u:Int} {E:List EdgeP} (h:Ki s z u=(E,0)):Bt s=0/\0<=z/\z<s.sz.length/\0<=u/\u<s.us.length/\Fp E=0/\Cn (Cl s u) (gi s.mu z.toNat)=(E,0):=by
 unfold Ki at h;split at h
 ·rename_i g;exact absurd (congrArg Prod.snd h) g
 ·rename_i g0
  split at h
  ·exact absurd (congrArg Prod.snd h) (by simp)
  ·rename_i g1
   obtain⟨e1,-,e3,-⟩:=Yk (show (Cn (Cl s u) (gi s.mu z.toNat)).2=0 by rw[h])
   rw[h] at e1;dsimp only at e1;rw[<-e1] at e3;exact⟨by simpa using g0,by omega,by omega,by omega,by omega,e3,h⟩
theorem ej (vs:Array Value) (s:StyleP) (z u:Int) (w:World) (hsm:SmS s) (hv:StV w vs s):Calls Tryz.prog 67 #[.agg vs,.int .i64 z,.int .i64 u] w (Aka w (Ze s z u)):=by
 obtain⟨r,hr⟩:∃r,Ki s z u=r:=⟨_,rfl⟩
 obtain⟨A1,c1,A2,c2,A3,c3,A4,c4,A5,c5,A6,c6,rfl,-⟩:=id hv
 have HC:=Lib.hid (fun (X:World) (hX:StV X #[.string s.nm,.slice A1 s.sz.length c1,.slice A2 s.mu.length c2,.slice A3 s.pc.length c3,.slice A4 s.us.length c4,.slice A5 s.se.length c5,.slice A6 s.no c6] s)=>show Calls Tryz.prog 28 #[.agg #[.string s.nm,.slice A1 s.sz.length c1,.slice A2 s.mu.length c2,.slice A3 s.pc.length c3,.slice A4 s.us.length c4,.slice A5 s.se.length c5,.slice A6 s.no c6],.int .i64 z,.int .i64 u] X (R5 X r (Cl s u)) by
  rw[<-hr];exact Xt _ s z u X hsm hX)
 have HW:=Lib.hid (show Ze s z u=if r.2≠0 then ((0,0),r.2) else (gt (edg r.1 0).ln 0,0) by unfold Ze;rw[hr])
 obtain⟨E,c⟩:=r;dsimp only at HC HW
 have HK:=Lib.hid (fun (h:c=0)=>show 2<=E.length/\2<=(edg E 0).ln.length from by
  have o:=(kc (E:=E) (by rw[hr,h])).2.2.2.2.2.1
  obtain⟨q1,-,q3,-⟩:=Is o;exact⟨q1,(Iq (q3 0 (by omega)).2).1⟩)
 clear hr;go_enter Tryz.func67,Tryz.ntmps67;go_upto_region 1 with fail;refine Ar (fun X=>Below w.heap.size w X/\Bb X w.heap.size 29 #[.string s.nm,.slice A1 s.sz.length c1,.slice A2 s.mu.length c2,.slice A3 s.pc.length c3,.slice A4 s.us.length c4,.slice A5 s.se.length c5,.slice A6 s.no c6]/\Bb X (w.heap.size+1) 49 #[.int .i64 0,.int .i64 0]) ⟨An (An (Below.refl _ _) _) _,(Bb.new _ _ _).alloc _,Bb.new2 _ _ _ _⟩ ?_
 rintro X ⟨hbX,hP,hR⟩;obtain⟨p0,p1,p2,p3,p4,p5,p6⟩:=st7 hP;have hvX:=hv.keep hbX;by_cases h:c=0
 ·obtain⟨hl,hl2⟩:=HK.out h
  subst h;have HRR:=Lib.hid (show Ze s z u=(gt (edg E 0).ln 0,0) by rw[HW.out,if_neg (by simp)])
  go_upto_region 2 with (go_at_call 28;refine(HC.out _ hvX).mono ?_;rintro e w1 ⟨A7,c7,vs7,p7,rfl,i1,i2,i3,i4,i5,hb1⟩;obtain⟨E1,d1,E2,d2,E3,d3,E4,d4,rfl,-⟩:=i4)
  refine Ar (fun Y=>Below w1.heap.size w1 Y) (An (Below.refl _ _) _) ?_
  rintro Y hbY;have hRY:=(hR.keep hb1).keep hbY;obtain⟨x0,x1⟩:=fh hRY;have f0:=hRY.frozen 0;have f1:=hRY.frozen 1
  try dsimp only at i1 i3 ⊢
  obtain⟨b,off,rfl,hc⟩:=(i3.keep hbY).at_ (show 0<E.length by omega)
  have hc0:=hc 0 (by omega)
  rw[Nat.zero_mul,Nat.add_zero] at hc0;obtain⟨g0,Al,cl,g1,g2,g3,g4⟩:=hc0;obtain⟨bl,ol,rfl,-,hcl⟩:=g4.at_ (show 0<(edg E 0).ln.length by omega)
  obtain⟨l1,l2⟩:=hcl 0 (by omega)
  rw[Nat.zero_mul,Nat.add_zero] at l1 l2;obtain⟨n,hn⟩:∃n,E.length=n:=⟨_,rfl⟩
  obtain⟨m,hm⟩:∃m,(edg E 0).ln.length=m:=⟨_,rfl⟩
  obtain⟨q,hq⟩:∃q,gt (edg E 0).ln 0=q:=⟨_,rfl⟩
  rw[hn] at hl ⊢;rw[hm] at hl2 g1;rw[hq] at l1 l2 HRR;obtain⟨qx,qy⟩:=q;dsimp only at l1 l2;have B1:(0:Int)<(n:Int):=by omega
  have B2:(0:Int)<(m:Int):=by omega
  clear p0 p1 p2 p3 p4 p5 p6 hP hvX i3 hc hcl hn hm hq g4 i1;go_wp2_with fail;obtain⟨s0,s1⟩:=fh ((hRY.set_ 0 (.int .i64 qx)).set_ 1 (.int .i64 qy));exact bodyPost_ret (v:=.tuple #[.agg #[.int .i64 qx,.int .i64 qy],.int .i64 0]) (by simp[results,Tryz.results67,go_sem,s0,s1]) rfl ⟨by rw[HRR.out],Bc (Bc (Ao (Ao hbX hb1) hbY) (p:=⟨w.heap.size+1,0,none⟩) (by show w.heap.size<=w.heap.size+1;omega) _) (p:=⟨w.heap.size+1,1,none⟩) (by show w.heap.size<=w.heap.size+1;omega) _⟩
 ·have HRR:=Lib.hid (show Ze s z u=((0,0),c) by rw[HW.out,if_pos h])
  have hne:(c != 0)=true:=by simpa using h
  clear h
  go_upto_region 2 with (go_at_call 28;refine(HC.out _ hvX).mono ?_;rintro e w1 ⟨A7,c7,vs7,p7,rfl,i1,i2,i3,i4,i5,hb1⟩;obtain⟨E1,d1,E2,d2,E3,d3,E4,d4,rfl,-⟩:=i4)
  refine Ar (fun Y=>Below w1.heap.size w1 Y) (An (Below.refl _ _) _) ?_
  rintro Y hbY;have hRY:=(hR.keep hb1).keep hbY;obtain⟨x0,x1⟩:=fh hRY;have f0:=hRY.frozen 0;have f1:=hRY.frozen 1;clear p0 p1 p2 p3 p4 p5 p6 hP hvX i3 i1;go_wp2_with fail;obtain⟨s0,s1⟩:=fh ((hRY.set_ 0 (.int .i64 0)).set_ 1 (.int .i64 0));exact bodyPost_ret (v:=.tuple #[.agg #[.int .i64 0,.int .i64 0],.int .i64 c]) (by simp[results,Tryz.results67,go_sem,s0,s1]) rfl ⟨by rw[HRR.out],Bc (Bc (Ao (Ao hbX hb1) hbY) (p:=⟨w.heap.size+1,0,none⟩) (by show w.heap.size<=w.heap.size+1;omega) _) (p:=⟨w.heap.size+1,1,none⟩) (by show w.heap.size<=w.heap.size+1;omega) _⟩
def plV (c:PlcP):Array Value:=#[.int .i64 c.ga,.int .i64 c.us,.int .i64 c.cp,.bool c.fl,.int .i64 c.qu,.int .i64 c.x,.int .i64 c.y]
def Aas (w:World) (r:Shp×Int) (e:Ending) (w':World):Prop:=∃A n c gr mt ax ay,e=.returned (.tuple #[.agg #[.slice A n c,.int .i64 gr,.bool mt,.int .i64 ax,.int .i64 ay],.int .i64 r.2])/\(r.2=0->ShV w' w.heap.size ⟨A,n,c,gr,mt,ax,ay⟩ r.1)/\Below w.heap.size w w'
theorem Abx {w:World} {base:Nat} {v:Value} {l:List (Int×Int)} (h:OwS w base v l):∃A c,v=.slice A l.length c/\c<=9223372036854775807/\l.length<=c/\SpS w A l.length l/\ElS w base (.slice A l.length c) l:=by
 rcases OwG.form h with ⟨rfl,rfl⟩|⟨g,cap,rfl,g1,g2,g3,g4⟩
 ·exact⟨none,0,rfl,(by omega),Nat.le_refl _,⟨rfl,.inl rfl⟩,none,0,rfl,Nat.le_refl _,⟨rfl,.inl rfl⟩,(fun _=>rfl),(fun a h=>by cases h)⟩
 ·obtain⟨A,c,e,q1,q2,q3⟩:=OwS.sps h
  injection e with e1 e2 e3
  subst e1 e3;refine⟨_,_,rfl,(by unfold maxLen at g4;exact g4),q1,q2,_,_,rfl,q1,q2,(fun h=>by cases h),fun a ha=>?_⟩
  injection ha with ha
  subst ha;refine⟨g1,?_⟩;rcases h.2 with ⟨ev,_⟩|⟨g',cap',cur,ev,_,hh,_⟩
  ·cases ev
  ·injection ev with ev
   injection ev with ev
   injection ev with ev
   subst ev;exact⟨cur,(0,0),hh⟩
theorem sh5 {w:World} {g:Nat} {t:TypeId} {a b c d e:Value} (H:Bb w g t #[a,b,c,d,e]):w.cell? ⟨g,0,none⟩=some a/\w.cell? ⟨g,1,none⟩=some b/\w.cell? ⟨g,2,none⟩=some c/\w.cell? ⟨g,3,none⟩=some d/\w.cell? ⟨g,4,none⟩=some e :=
 ⟨(H.cell 0).trans rfl,(H.cell 1).trans rfl,(H.cell 2).trans rfl,(H.cell 3).trans rfl,(H.cell 4).trans rfl⟩
theorem Akv (vs:Array Value) (s:StyleP) (z:Int) (c:PlcP) (w:World) (hsm:SmS s) (hv:StV w vs s) (h:(Lb s z c.us).2≠0) :
 Calls Tryz.prog 43 #[.agg vs,.int .i64 z,.agg (plV c)] w (Aas w (Wp,(Lb s z c.us).2)):=by
 obtain⟨e,he⟩:∃e,Lb s z c.us=e:=⟨_,rfl⟩
 rw[he] at h ⊢;have HE:=Lib.hid he;obtain⟨l,x⟩:=e;dsimp only at h ⊢;have hne:(x != 0)=true:=by simpa using h
 have HN:=Lib.hid h;clear he h;obtain⟨A1,c1,A2,c2,A3,c3,A4,c4,A5,c5,A6,c6,rfl,⟨v1,v2,v3⟩,⟨v4,v5,v6⟩,⟨v7,v8,v9⟩,⟨v10,v11,v12⟩,⟨v13,v14,v15⟩,v16,v17⟩:=id hv;obtain⟨ga,us,cp,fl,qu,cx,cy⟩:=c;dsimp only at *
 unfold plV;go_enter Tryz.func43,Tryz.ntmps43;go_upto_region 1 with fail;refine Ar (fun X=>Below w.heap.size w X/\Bb X w.heap.size 29 #[.string s.nm,.slice A1 s.sz.length c1,.slice A2 s.mu.length c2,.slice A3 s.pc.length c3,.slice A4 s.us.length c4,.slice A5 s.se.length c5,.slice A6 s.no c6]/\Bb X (w.heap.size+1) 51 #[.int .i64 ga,.int .i64 us,.int .i64 cp,.bool fl,.int .i64 qu,.int .i64 cx,.int .i64 cy]/\Bb X (w.heap.size+1+1) 104 #[.slice none 0 0,.int .i64 0,.bool false,.int .i64 0,.int .i64 0]) ⟨An (An (An (Below.refl _ _) _) _) _,((Bb.new _ _ _).alloc _).alloc _,(Bb.new2 _ _ _ _).alloc _,Bb.new3 _ _ _ _ _⟩ ?_
 rintro X ⟨hbX,hP,hK,hR⟩;obtain⟨p0,p1,p2,p3,p4,p5,p6⟩:=st7 hP;obtain⟨k0,k1,k2,k3,k4,k5,k6⟩:=st7 hK;have hvX:=hv.keep hbX
 go_upto_region 3 with (go_at_call 12;refine(pw _ s z us _ hsm hvX).mono ?_;rintro e w1 ⟨v1,rfl,-,hb1⟩;rw[HE.out];have hR1:=hR.keep hb1;obtain⟨q0,q1,q2,q3,q4⟩:=sh5 hR1;have g0:=hR1.frozen 0;have g1:=hR1.frozen 1;have g2:=hR1.frozen 2;have g3:=hR1.frozen 3;have g4:=hR1.frozen 4)
 go_wp2_with fail;obtain⟨s0,s1,s2,s3,s4⟩:=sh5 (((((hR1.set_ 0 (.slice none 0 0)).set_ 1 (.int .i64 0)).set_ 2 (.bool false)).set_ 3 (.int .i64 0)).set_ 4 (.int .i64 0));exact bodyPost_ret (v:=.tuple #[.agg #[.slice none 0 0,.int .i64 0,.bool false,.int .i64 0,.int .i64 0],.int .i64 x]) (by simp[results,Tryz.results43,go_sem,s0,s1,s2,s3,s4]) rfl ⟨none,0,0,0,false,0,0,rfl,fun h=>absurd h HN.out,raw5 (Ao hbX hb1) (by omega) 0 _ _ _ _ _⟩
theorem Aib {s:StyleP} {z u:Int} (h:(Lb s z u).2=0):(Ze s z u).2=0/\(Ki s z u).2=0:=by
 unfold Lb at h;split at h
 ·rename_i g;exact absurd h g
 ·rename_i g
  unfold Ze;rw[if_neg g];exact⟨rfl,by simpa using g⟩
theorem Aen {s:StyleP} {z u:Int} (h:(Lb s z u).2=0):Bf (Lb s z u).1 (Lb s z u).1.length=0:=by
 unfold Lb at h ⊢;split at h
 ·rename_i g;exact absurd h g
 ·rename_i g
  rw[if_neg g];unfold I5 at h ⊢;split at h
  ·rename_i g;exact absurd h g
  ·rename_i g1
   split at h
   ·cases h
   ·rename_i g2
    split at h
    ·rename_i g;exact absurd h g
    ·rename_i g3
     split at h
     ·cases h
     ·rename_i g4
      rw[if_neg g1,if_neg g2,if_neg g3,if_neg g4];simpa using g3
theorem Aem {s:StyleP} {z u:Int} (h:(Lb s z u).2=0):(Lb s z u).1.length<=1000000:=by
 have:=(D9 (Aen h)).2;omega
theorem Aku (vs:Array Value) (s:StyleP) (z:Int) (c:PlcP) (w:World) (hsm:SmS s) (hv:StV w vs s) (h:(Lb s z c.us).2=0) :
 Calls Tryz.prog 43 #[.agg vs,.int .i64 z,.agg (plV c)] w (Aas w (F8 s z c)):=by
 obtain⟨h2,h3⟩:=Aib h
 have HS:=Lib.hid (show F8 s z c=(⟨if c.fl then Fv true 0 (Lb s z c.us).1 else (Lb s z c.us).1,(Cl s c.us).gr,(Cl s c.us).mt,if c.fl then C4 true 0 (Ze s z c.us).1 else (Ze s z c.us).1⟩,0) by
  unfold F8;rw[if_neg (by rw[h];simp),if_neg (by rw[h2];simp)])
 have HLN:=Lib.hid (Aem h);have HO:=Lib.hid (kc (s:=s) (z:=z) (u:=c.us) (E:=(Ki s z c.us).1) (Prod.ext rfl h3));obtain⟨e,he⟩:∃e,Lb s z c.us=e:=⟨_,rfl⟩
 obtain⟨b,hb⟩:∃e,Ze s z c.us=e:=⟨_,rfl⟩
 rw[he] at h HS HLN;rw[hb] at h2 HS;have HE:=Lib.hid he;have HB:=Lib.hid hb;obtain⟨l,x⟩:=e;obtain⟨⟨bx,bY⟩,y⟩:=b;dsimp only at h h2;subst h h2;clear he hb h3;obtain⟨A1,c1,A2,c2,A3,c3,A4,c4,A5,c5,A6,c6,rfl,⟨v1,v2,v3⟩,⟨v4,v5,v6⟩,⟨v7,v8,v9⟩,⟨v10,v11,v12⟩,⟨v13,v14,v15⟩,v16,v17⟩:=id hv;obtain⟨ga,us,cp,fl,qu,cx,cy⟩:=c;dsimp only at *
 unfold plV;go_enter Tryz.func43,Tryz.ntmps43;go_upto_region 1 with fail;refine Ar (fun X=>Below w.heap.size w X/\Bb X w.heap.size 29 #[.string s.nm,.slice A1 s.sz.length c1,.slice A2 s.mu.length c2,.slice A3 s.pc.length c3,.slice A4 s.us.length c4,.slice A5 s.se.length c5,.slice A6 s.no c6]/\Bb X (w.heap.size+1) 51 #[.int .i64 ga,.int .i64 us,.int .i64 cp,.bool fl,.int .i64 qu,.int .i64 cx,.int .i64 cy]/\Bb X (w.heap.size+1+1) 104 #[.slice none 0 0,.int .i64 0,.bool false,.int .i64 0,.int .i64 0]) ⟨An (An (An (Below.refl _ _) _) _) _,((Bb.new _ _ _).alloc _).alloc _,(Bb.new2 _ _ _ _).alloc _,Bb.new3 _ _ _ _ _⟩ ?_
 rintro X ⟨hbX,hP,hK,hR⟩;obtain⟨p0,p1,p2,p3,p4,p5,p6⟩:=st7 hP;obtain⟨k0,k1,k2,k3,k4,k5,k6⟩:=st7 hK;have hvX:=hv.keep hbX
 go_upto_region 4 with (go_at_call 12;refine(pw _ s z us _ hsm hvX).mono ?_;rintro e w1 ⟨v1,rfl,ho1,hb1⟩;rw[HE.out] at ho1 ⊢;obtain⟨k0,k1,k2,k3,k4,k5,k6⟩:=st7 (hK.keep hb1);obtain⟨p0,p1,p2,p3,p4,p5,p6⟩:=st7 (hP.keep hb1))
 go_upto_region 7 with (go_at_call 67;refine(ej _ s z us _ hsm (hvX.keep hb1)).mono ?_;rintro e w2 ⟨rfl,hb2⟩;rw[HB.out])
 refine Ar (fun Y=>Below w2.heap.size w2 Y/\Bb Y w2.heap.size 49 #[.int .i64 bx,.int .i64 bY]) ⟨An (Below.refl _ _) _,Bb.new _ _ _⟩ ?_
 rintro Y ⟨hbY,hA⟩;have hln:=HLN.out;obtain⟨Ap,cp,rfl,hcp,hlc,hSp,hEl⟩:=Abx ho1;obtain⟨np,hnp⟩:∃n,l.length=n:=⟨_,rfl⟩
 rw[hnp] at hlc hSp hEl hln ⊢;have HNP:=Lib.hid hnp;have hb12:=Ao hb1 hb2;have hK2:=hK.keep hb12;have hP2:=hP.keep hb12;have hR2:=hR.keep hb12;have hbW:=Ao hbX hb12;have hSY:=(hSp.keep hb2).keep hbY;have hEY:=(hEl.keep hb2).keep hbY;have hKY:=hK2.keep hbY;have hw2:X.heap.size<=w2.heap.size:=hb12.size;have hXw:w.heap.size<=X.heap.size:=hbX.size;have hRlt:w.heap.size+1+1<w2.heap.size:=hR2.lt;have hRX:w.heap.size+1+1<X.heap.size:=hR.lt;obtain⟨k0,k1,k2,k3,k4,k5,k6⟩:=st7 hKY;obtain⟨BA,hBA⟩:∃B,w2.heap.size=B:=⟨_,rfl⟩
 rw[hBA] at hA hbY hRlt hw2 ⊢;obtain⟨PL,hPL⟩:∃p,(if fl=true then Fv true 0 l else l)=p:=⟨_,rfl⟩
 obtain⟨⟨ax,ay⟩,hax⟩:∃p,(if fl=true then C4 true 0 (bx,bY) else (bx,bY))=p:=⟨_,rfl⟩
 rw[hPL,hax] at HS;have HBA:=Lib.hid hBA;have HPL:=Lib.hid hPL;have HAX:=Lib.hid hax;clear hSp hEl ho1 hbX hK hP hR hb1 hb2 hnp hBA hPL hax hvX
 go_upto_if 39 with fail
 go_cut [8,11] from 37 to 64 (fun v8 _ wx=>∃A' n' c',v8=.slice A' n' c'/\n'=PL.length/\c'<=9223372036854775807/\ElS wx X.heap.size (.slice A' n' c') PL/\Bb wx BA 49 #[.int .i64 ax,.int .i64 ay]/\Below BA w2 wx)
 case first =>
  cases fl with
  | false =>
    have h1:=HPL.out;have h2:=HAX.out;simp only[Bool.false_eq_true,if_false] at h1 h2;subst h1;injection h2 with h2 h3
    subst h2 h3;go_wp2_with fail;go_meet;exact⟨Ap,np,cp,rfl,HNP.out.symm,hcp,hEY,hA,hbY⟩
  | true =>
    have h1:=HPL.out;have h2:=HAX.out;simp only[if_true] at h1 h2;subst h1;have HX2:=Lib.hid (show (C4 true 0 (bx,bY)).1=ax by rw[h2])
    have HY2:=Lib.hid (show (C4 true 0 (bx,bY)).2=ay by rw[h2])
    clear h2;go_upto_region 9 with fail;refine Ar (fun Z=>Below Y.heap.size Y Z/\Bb Z Y.heap.size 48 #[.bool true,.int .i64 0]) ⟨An (Below.refl _ _) _,Bb.new _ _ _⟩ ?_
    rintro Z ⟨hbZ,hM⟩;obtain⟨BM,hBM⟩:∃B,Y.heap.size=B:=⟨_,rfl⟩
    have hAZ:=hA.keep hbZ;have hSZ:=hSY.keep hbZ;have hBAl:BA<=Z.heap.size:=Nat.le_of_lt hAZ.lt;rw[hBM] at hM ⊢;have hne:BM≠BA:=by have:=hA.lt;omega
    obtain⟨z0,z1,-,-,-⟩:=hAZ.pair;obtain⟨m0,m1,-,-,-⟩:=hM.pair;have hbD:=Aw (Below.refl Z.heap.size Z)
    go_region_law ((first
     | (go_simp;go_at_call 31;(with_reducible refine(Gn true 0 bx bY _).mono ?_);rintro e w6 ⟨rfl,hb6⟩;rw[HX2.out,HY2.out];replace hbD:=Ao hbD hb6;obtain⟨y0,y1,f0,f1,-⟩:=(hAZ.keep hbD).pair)
     | (go_simp;go_at_call 15;(with_reducible refine(Se true 0 Ap cp np l _ hln (hSZ.keep hbD)).mono ?_);rintro e w5 ⟨v5,rfl,ho5,hb5⟩;replace hbD:=Ao hbD hb5;obtain⟨y0,y1,-,-,-⟩:=(hAZ.keep hbD).pair;obtain⟨m0,m1,-,-,-⟩:=(hM.keep hbD).pair)))
    all_goals go_wp2_with fail
    all_goals go_meet
    all_goals obtain⟨A5,c5,rfl,q1,q2,q3,q4⟩:=Abx (OwG.keep ho5 hb6)
    all_goals refine⟨A5,_,c5,rfl,rfl,q1,(q4.keepAbove (fun k cs fr hk _=>?_)).lower (Nat.le_trans hw2 hBAl),((hAZ.keep hbD).set_ 0 _).set_ 1 _,Below.setCell (Below.setCell ((hbY.trans (hbZ.mono (Nat.le_of_lt hA.lt))).trans (hbD.mono hBAl)) (Nat.le_refl _) _) (Nat.le_refl _) _⟩
    all_goals have hkB:k≠BA:=by have h1:=hAZ.lt;have h2:Z.heap.size<=k:=hk;omega
    all_goals exact(Dq _ _ _ _ hkB).trans (Dq _ _ _ _ hkB)
 case rest =>
  obtain⟨A8,n8,c8,rfl,-,hc8,hE8,hA8,hb8⟩:=hcut;rw[<-HBA.out] at hb8;have hP8:=hP2.keep hb8;have hK8:=hK2.keep hb8;have hR8:=hR2.keep hb8;have hb8w:=Ao hbW hb8;have v9W:=v9.keep hb8w;have v12W:=v12.keep hb8w;obtain⟨o1,-,-,o4,o5,-⟩:=HO.out;obtain⟨u,rfl⟩:∃u:Nat,us=u:=⟨us.toNat,by omega⟩
  have hu:u<s.us.length:=by omega
  have k3':=(Wv o1).2 u hu;have y3:=hsm.pc;have y4:=hsm.us;have HUX:=Lib.hid k3';clear k3' o1 o4 o5 k0 k1 k2 k3 k4 k5 k6 hP2 hK2 hR2 hA hKY hSY hEY hbY v3 v6 v9 v12 v15;obtain⟨n3,hn3⟩:∃n,s.pc.length=n:=⟨_,rfl⟩
  obtain⟨n4,hn4⟩:∃n,s.us.length=n:=⟨_,rfl⟩
  rw[hn3] at v9W HUX v7 y3 hP8;rw[hn4] at v12W v10 y4 hu hP8;clear hn3 hn4;obtain⟨b4,o4,rfl,e4,-,-⟩:=v12W.at_ hu;obtain⟨i,hi⟩:∃i:Nat,(use s.us u).pc=i:=⟨(use s.us u).pc.toNat,by have:=HUX.out;omega⟩
  have hi3:i<n3:=by have:=HUX.out.2.1;rw[hi] at this;omega
  have HPO:=Lib.hid (show Cl s u=pce s.pc i by unfold Cl;rw[show ((u:Int)).toNat=u by omega,hi];rfl)
  rw[hi] at e4;obtain⟨b3,o3,rfl,vs2,hvs2,hc⟩:=v9W.at_ hi3;obtain⟨pk,hpk⟩:∃p,pce s.pc i=p:=⟨_,rfl⟩
  rw[hpk] at hvs2 HPO;rw[HPO.out] at HS;obtain⟨E1,d1,E2,d2,E3,d3,E4,d4,rfl,-⟩:=hvs2;have x0:=hc 0 _ rfl;rw[Nat.add_zero] at x0;have x1:=hc 1 _ rfl;have x2:=hc 2 _ rfl;have x3:=hc 3 _ rfl;have x4:=hc 4 _ rfl;have x5:=hc 5 _ rfl;have x6:=hc 6 _ rfl;have B2:(u:Int)<(n4:Int):=by omega
  have B4:(i:Int)<(n3:Int):=by omega
  have KF:∀W',Below wc.heap.size wc W'->(W'.cell? ⟨w.heap.size,3,none⟩=some (.slice (some ⟨b3,o3,none⟩) n3 c3)/\W'.cell? ⟨w.heap.size,4,none⟩=some (.slice (some ⟨b4,o4,none⟩) n4 c4)/\W'.cell? ⟨w.heap.size+1,1,none⟩=some (.int .i64 (u:Int))/\W'.cell? ⟨b4,o4+u*3,none⟩=some (.int .i64 (i:Int))/\W'.cell? ⟨b3,o3+i*7,none⟩=some (.string pk.nm)/\W'.cell? ⟨b3,o3+i*7+1,none⟩=some (.slice E1 pk.ed.length d1)/\W'.cell? ⟨b3,o3+i*7+2,none⟩=some (.int .i64 pk.gr)/\W'.cell? ⟨b3,o3+i*7+3,none⟩=some (.slice E2 pk.nt.length d2)/\W'.cell? ⟨b3,o3+i*7+4,none⟩=some (.slice E3 pk.cr.length d3)/\W'.cell? ⟨b3,o3+i*7+5,none⟩=some (.slice E4 pk.wd.length d4)/\W'.cell? ⟨b3,o3+i*7+6,none⟩=some (.bool pk.mt)):=fun W' hb=>by
   obtain⟨-,-,-,j3,j4,-,-⟩:=st7 (hP8.keep hb);exact⟨j3,j4,(st7 (hK8.keep hb)).2.1,Aq hb e4,Aq hb x0,Aq hb x1,Aq hb x2,Aq hb x3,Aq hb x4,Aq hb x5,Aq hb x6⟩
  have hbD:=Aw (Below.refl wc.heap.size wc);clear hc hpk hi e4 x0 x1 x2 x3 x4 x5 x6 v9W v12W HUX;go_upto_region 10 with fail;go_cut [12] (fun v12 wx=>v12=.pointer (some ⟨wc.heap.size,0,none⟩)/\Below wc.heap.size wc wx/\Bb wx wc.heap.size 64 #[.string pk.nm,.slice E1 pk.ed.length d1,.int .i64 pk.gr,.slice E2 pk.nt.length d2,.slice E3 pk.cr.length d3,.slice E4 pk.wd.length d4,.bool pk.mt])
  case first =>
   go_region_held3 (fun W'=>W'.cell? ⟨w.heap.size,3,none⟩=some (.slice (some ⟨b3,o3,none⟩) n3 c3)/\W'.cell? ⟨w.heap.size,4,none⟩=some (.slice (some ⟨b4,o4,none⟩) n4 c4)/\W'.cell? ⟨w.heap.size+1,1,none⟩=some (.int .i64 (u:Int))/\W'.cell? ⟨b4,o4+u*3,none⟩=some (.int .i64 (i:Int))/\W'.cell? ⟨b3,o3+i*7,none⟩=some (.string pk.nm)/\W'.cell? ⟨b3,o3+i*7+1,none⟩=some (.slice E1 pk.ed.length d1)/\W'.cell? ⟨b3,o3+i*7+2,none⟩=some (.int .i64 pk.gr)/\W'.cell? ⟨b3,o3+i*7+3,none⟩=some (.slice E2 pk.nt.length d2)/\W'.cell? ⟨b3,o3+i*7+4,none⟩=some (.slice E3 pk.cr.length d3)/\W'.cell? ⟨b3,o3+i*7+5,none⟩=some (.slice E4 pk.wd.length d4)/\W'.cell? ⟨b3,o3+i*7+6,none⟩=some (.bool pk.mt))
    (first
     | with_reducible exact KF _ hbD
     | with_reducible exact KF _ (Aw (An (Below.refl _ _) _)))
    (fail)
   all_goals go_wp2_with fail
   all_goals go_meet
   all_goals exact⟨rfl,Aw (An (Below.refl _ _) _),Bb.drew (Bb.new _ _ _)⟩
  case rest =>
   obtain⟨rfl,hbY,hQ⟩:=hcut;have hRY:=hR8.keep hbY;have hAY:=hA8.keep hbY;obtain⟨y0,y1,-,-,-⟩:=hAY.pair;obtain⟨-,-,q2,-,-,-,q6⟩:=pc7 hQ;obtain⟨r0,r1,r2,r3,r4⟩:=sh5 hRY;have f0:=hRY.frozen 0;have f1:=hRY.frozen 1;have f2:=hRY.frozen 2;have f3:=hRY.frozen 3;have f4:=hRY.frozen 4;have hbZ:=Ao hb8w hbY;have hEZ:=hE8.keep hbY;clear KF hbD hP8 hK8 hR8 hA8 hb8 hbY hE8;go_wp2_with fail;obtain⟨s0,s1,s2,s3,s4⟩:=sh5 (((((hRY.set_ 0 (.slice A8 n8 c8)).set_ 1 (.int .i64 pk.gr)).set_ 2 (.bool pk.mt)).set_ 3 (.int .i64 ax)).set_ 4 (.int .i64 ay));refine bodyPost_ret (v:=.tuple #[.agg #[.slice A8 n8 c8,.int .i64 pk.gr,.bool pk.mt,.int .i64 ax,.int .i64 ay],.int .i64 0]) (by simp[results,Tryz.results43,go_sem,s0,s1,s2,s3,s4]) rfl ⟨A8,n8,c8,pk.gr,pk.mt,ax,ay,by rw[HS.out],fun _=>?_,raw5 hbZ (by omega) 0 _ _ _ _ _⟩
   rw[HS.out];refine⟨rfl,rfl,rfl,rfl,(hEZ.keepAbove (fun k cs fr hk _=>?_)).lower hXw,hc8⟩
   have hkB:k≠w.heap.size+1+1:=by omega
   exact(Dq _ _ _ _ hkB).trans ((Dq _ _ _ _ hkB).trans ((Dq _ _ _ _ hkB).trans ((Dq _ _ _ _ hkB).trans (Dq _ _ _ _ hkB))))
theorem Ux (vs:Array Value) (s:StyleP) (z:Int) (c:PlcP) (w:World) (hsm:SmS s) (hv:StV w vs s) :
 Calls Tryz.prog 43 #[.agg vs,.int .i64 z,.agg (plV c)] w (Aas w (F8 s z c)):=by
 by_cases h:(Lb s z c.us).2=0
 ·exact Aku vs s z c w hsm hv h
 ·rw[show F8 s z c=(Wp,(Lb s z c.us).2) by unfold F8;rw[if_pos h]]
  exact Akv vs s z c w hsm hv h
def Ae3 (w:World) (l:List PlcP) (e:Ending) (w':World):Prop:=∃v,e=.returned v/\R4 w' w.heap.size v l/\Below w.heap.size w w'
theorem Kf {s:StyleP} (h:Bt s=0):s.mu.length=s.sz.length/\s.us.length<=12/\s.sz.length<=12/\∀i,i<s.us.length->0<=(use s.us i).pc/\(use s.us i).pc<s.pc.length/\1<=(use s.us i).ct/\(use s.us i).ct<=4:=by
 unfold Bt at h;split at h
 ·rename_i g;exact absurd h g
 ·rename_i g1
  split at h
  ·rename_i g;exact absurd h g
  ·split at h
   ·cases h
   ·rename_i g3
    have g1':Ct s=0:=by simpa using g1
    unfold Ct at g1';split at g1'
    ·cases g1'
    ·split at g1'
     ·cases g1'
     ·split at g1'
      ·cases g1'
      ·rename_i k
       split at g1'
       ·cases g1'
       ·split at g1'
        ·cases g1'
        ·rename_i k5
         refine⟨Classical.byContradiction fun hc=>k (Or.inl hc),by omega,by omega,fun i hi=>?_⟩
         cases hu:Us s i with
         | true=>exact absurd (Bq.yes (f:=Us s) hi hu) g3
         | false=>unfold Us at hu;simp at hu;omega
theorem Oj {U:List UseP} {n:Nat} (h:∀i,i<n->(use U i).ct<=4):∀k,k<=n->(Fb U k).length<=4*k
 | 0,_=>by simp[Fb]
 | k+1,hk=>by
   have:=Oj h k (by omega)
   have:=h k (by omega)
   rw[Fb,List.length_append,List.length_map,List.length_range];omega
theorem Ac9 (j:Nat):((j:Int) % 2 == 1)=decide (j % 2=1):=by
 cases h:decide (j % 2=1) with
 | true=>simp at h;rw[beq_iff_eq];omega
 | false=>simp at h;rw[beq_eq_false_iff_ne];omega
theorem Aj1 (vs:Array Value) (s:StyleP) (w:World) (hsm:SmS s) (hv:StV w vs s) (h:Bt s≠0):Calls Tryz.prog 27 #[.agg vs] w (Ae3 w []):=by
 obtain⟨c,hc⟩:∃c,Bt s=c:=⟨_,rfl⟩
 rw[hc] at h;have HC:=Lib.hid hc;have hne:(c != 0)=true:=by simpa using h
 clear hc h;have hv0:=hv;obtain⟨A1,c1,A2,c2,A3,c3,A4,c4,A5,c5,A6,c6,rfl,⟨v1,v2,v3⟩,⟨v4,v5,v6⟩,⟨v7,v8,v9⟩,⟨v10,v11,v12⟩,⟨v13,v14,v15⟩,v16,v17⟩:=hv;go_enter Tryz.func27,Tryz.ntmps27;go_upto_region 1 with fail;refine Ar (fun X=>Below w.heap.size w X/\Bb X w.heap.size 29 #[.string s.nm,.slice A1 s.sz.length c1,.slice A2 s.mu.length c2,.slice A3 s.pc.length c3,.slice A4 s.us.length c4,.slice A5 s.se.length c5,.slice A6 s.no c6]) ⟨An (Below.refl _ _) _,Bb.new _ _ _⟩ ?_
 rintro X ⟨hbX,hP⟩;obtain⟨p0,p1,p2,p3,p4,p5,p6⟩:=st7 hP
 go_wp2_with (go_at_call 42;refine(Dj _ s _ hsm (hv0.keep hbX)).mono ?_;rintro e w1 ⟨rfl,hb1⟩;rw[HC.out])
 go_ret;exact⟨_,rfl,OwG.nil,Ao hbX hb1⟩
theorem Aj0 (vs:Array Value) (s:StyleP) (w:World) (hsm:SmS s) (hv:StV w vs s) (h:Bt s=0):Calls Tryz.prog 27 #[.agg vs] w (Ae3 w (Fb s.us s.us.length)):=by
 have HC:=Lib.hid h;obtain⟨-,k1,-,k2⟩:=Kf h;have HU:=Lib.hid k2;have HL:=Lib.hid (Oj (U:=s.us) (n:=s.us.length) fun i hi=>(k2 i hi).2.2.2)
 clear h k2;have hv0:=hv;obtain⟨A1,c1,A2,c2,A3,c3,A4,c4,A5,c5,A6,c6,rfl,⟨v1,v2,v3⟩,⟨v4,v5,v6⟩,⟨v7,v8,v9⟩,⟨v10,v11,v12⟩,⟨v13,v14,v15⟩,v16,v17⟩:=hv;go_enter Tryz.func27,Tryz.ntmps27;go_upto_region 1 with fail;refine Ar (fun X=>Below w.heap.size w X/\Bb X w.heap.size 29 #[.string s.nm,.slice A1 s.sz.length c1,.slice A2 s.mu.length c2,.slice A3 s.pc.length c3,.slice A4 s.us.length c4,.slice A5 s.se.length c5,.slice A6 s.no c6]) ⟨An (Below.refl _ _) _,Bb.new _ _ _⟩ ?_
 rintro X ⟨hbX,hP⟩;obtain⟨p0,p1,p2,p3,p4,p5,p6⟩:=st7 hP;have hX0:=hv0.keep hbX;have v12X:=v12.keep hbX;obtain⟨n,hn⟩:∃n,s.us.length=n:=⟨_,rfl⟩
 rw[hn] at p4 v12X hP HU HL k1 v10 hX0 ⊢;have HN:=Lib.hid hn;clear hn hv0 v3 v6 v9 v12 v15;have hP0:=hP
 go_upto_region 5 with (go_at_call 42;refine(Dj _ s _ hsm hX0).mono ?_;rintro e w1 ⟨rfl,hb1⟩;rw[HC.out];obtain⟨x0,x1,x2,x3,x4,x5,x6⟩:=st7 (hP0.keep hb1))
 have vU:=v12X.keep hb1;have hbW:=Ao hbX hb1;clear x0 x1 x2 x3 x4 x5 x6 p0 p1 p2 p3 p4 p5 p6 hP hP0 hX0 v12X hbX hb1;go_loopw [3,4,5,14] (fun v _ _ i wr=>∃k:Nat,k<=n/\i=.int .i64 k/\R4 wr w1.heap.size v (Fb s.us k)/\Below w1.heap.size w1 wr) (fun _ _ _ i _=>n-(intOf i).toNat)
 case atStart=>exact⟨0,Nat.zero_le _,rfl,OwG.nil,Below.refl _ _⟩
 case round =>
  obtain⟨k,hk,rfl,ho,hb⟩:=hrel;by_cases hlt:k<n
  ·obtain⟨b0,off,rfl,e1,e2,e3⟩:=(vU.keep hb).at_ hlt
   obtain⟨u1,u2,u3,u4⟩:=HU.out k hlt;have HS:=Lib.hid (show Fb s.us (k+1)=Fb s.us k++(List.range (use s.us k).ct.toNat).map (dq k (use s.us k).pr) from rfl)
   have hlen:=HL.out k hk;obtain⟨L,hL⟩:∃L,Fb s.us k=L:=⟨_,rfl⟩
   obtain⟨⟨pc,ct,pr⟩,huk⟩:∃x,use s.us k=x:=⟨_,rfl⟩
   rw[huk] at e1 e2 e3 u1 u2 u3 u4 HS;rw[hL] at ho HS hlen;dsimp only at e1 e2 e3 u1 u2 u3 u4 HS;obtain⟨m,rfl⟩:∃m:Nat,ct=m:=⟨ct.toNat,by omega⟩
   rw[Int.toNat_natCast] at HS;have HLL:=Lib.hid hlen;clear huk hL hlen;have B1:(k:Int)<(n:Int):=by omega
   go_upto_region 7 with fail;refine Ar (fun Y=>Below wr.heap.size wr Y/\Bb Y wr.heap.size 53 #[.int .i64 pc,.int .i64 (m:Int),.bool pr]) ⟨An (Below.refl _ _) _,Bb.new _ _ _⟩ ?_
   rintro Y ⟨hbY,hQ⟩;have q1:Y.cell? ⟨wr.heap.size,1,none⟩=some (.int .i64 (m:Int)):=(hQ.cell 1).trans rfl;have hoY:=OwG.keep ho hbY;have hbE:=Ao hb hbY;obtain⟨B5,hB5⟩:∃B,wr.heap.size=B:=⟨_,rfl⟩
   rw[hB5] at hQ q1 ⊢;clear e1 e2 e3 ho hb hbY hB5;go_upto_region 8 with fail;clear q1;go_loopw [3,6,7,21] (fun v _ _ i wx=>∃j:Nat,j<=m/\i=.int .i64 j/\R4 wx w1.heap.size v (L++(List.range j).map (dq k pr))/\Bb wx B5 53 #[.int .i64 pc,.int .i64 (m:Int),.bool pr]/\Below w1.heap.size w1 wx) (fun _ _ _ i _=>m-(intOf i).toNat)
   case atStart=>exact⟨0,Nat.zero_le _,rfl,by rw[List.range_zero,List.map_nil,List.append_nil];exact hoY,hQ,hbE⟩
   case round =>
    clear hoY hbE hQ;obtain⟨j,hj,rfl,ho,hQ,hb⟩:=hrel;by_cases hjm:j<m
    ·have HR:=Lib.hid (show L++(List.range (j+1)).map (dq k pr)=(L++(List.range j).map (dq k pr))++[dq k pr j] by rw[List.range_succ,List.map_append,List.append_assoc];rfl)
     have hlen:(L++(List.range j).map (dq k pr)).length<=1000000:=by
      rw[List.length_append,List.length_map,List.length_range];have:=HLL.out;omega
     obtain⟨M,hM⟩:∃M,L++(List.range j).map (dq k pr)=M:=⟨_,rfl⟩
     rw[hM] at ho HR hlen;clear hM;have q2:wr.cell? ⟨B5,2,none⟩=some (.bool pr):=(hQ.cell 2).trans rfl;have B2:(j:Int)<(m:Int):=by omega
     have hod:=Ac9 j;have HCM:=Lib.hid (show dq k pr j=⟨0,(k:Int),(j:Int),pr&&decide (j % 2=1),0,0,0⟩ from rfl)
     obtain⟨od,hodd⟩:∃od,decide (j % 2=1)=od:=⟨_,rfl⟩
     rw[hodd] at hod HCM;clear hodd;cases pr with
     | true =>
       have hQa:=Bb.alloc hQ (.cells #[.int .i64 0,.int .i64 (k:Int),.int .i64 (j:Int),.bool od,.int .i64 0,.int .i64 0,.int .i64 0] 51)
       go_wp2_with (at_builtin;refine Ij rfl _ _ rfl w1.heap.size _ M rfl (OwG.alloc ho _) wr.heap.size 1 ⟨0,(k:Int),(j:Int),od,0,0,0⟩ 51 rfl (Bb.new _ _ _) hlen (An hb _).size ?_;intro v7 w7 ho7 hg7 hat7)
       exact⟨⟨j+1,by omega,by go_num,by rw[HR.out,HCM.out];exact ho7,(hg7.block B5 hQa.lt (OwG.neB (OwG.alloc ho _) hQa (by decide))).trans hQa,Bm (An hb _) (OwG.alloc ho _) hg7⟩,by simp[intOf];omega⟩
     | false =>
       have hQa:=Bb.alloc hQ (.cells #[.int .i64 0,.int .i64 (k:Int),.int .i64 (j:Int),.bool false,.int .i64 0,.int .i64 0,.int .i64 0] 51)
       go_wp2_with (at_builtin;refine Ij rfl _ _ rfl w1.heap.size _ M rfl (OwG.alloc ho _) wr.heap.size 1 ⟨0,(k:Int),(j:Int),false,0,0,0⟩ 51 rfl (Bb.new _ _ _) hlen (An hb _).size ?_;intro v7 w7 ho7 hg7 hat7)
       exact⟨⟨j+1,by omega,by go_num,by rw[HR.out,HCM.out];exact ho7,(hg7.block B5 hQa.lt (OwG.neB (OwG.alloc ho _) hQa (by decide))).trans hQa,Bm (An hb _) (OwG.alloc ho _) hg7⟩,by simp[intOf];omega⟩
    ·obtain rfl:m=j:=by omega
     go_wp2_with fail;exact⟨⟨k+1,by omega,by go_num,by rw[HS.out];exact ho,hb⟩,by simp[intOf];omega⟩
  ·obtain rfl:n=k:=by omega
   go_wp2_with fail;go_ret;exact⟨_,rfl,by rw[HN.out];exact OwG.lower ho hbW.size,Ao hbW hb⟩
theorem dp (vs:Array Value) (s:StyleP) (w:World) (hsm:SmS s) (hv:StV w vs s):Calls Tryz.prog 27 #[.agg vs] w (Ae3 w (Em s)):=by
 unfold Em;by_cases h:Bt s=0
 ·rw[if_neg (by rw[h];simp)];exact Aj0 vs s w hsm hv h
 ·rw[if_pos h];exact Aj1 vs s w hsm hv h
end Go.Proofs.YtpbchbcdgikonaaGreat
