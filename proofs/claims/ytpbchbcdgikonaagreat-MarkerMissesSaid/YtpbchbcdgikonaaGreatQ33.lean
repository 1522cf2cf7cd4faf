/- Lean texts of the claim. -/
import Derived.Test.YtpbchbcdgikonaaGreatQ32
import Derived.Test.YtpbchbcdgikonaaGreatQ16
import Derived.Test.YtpbchbcdgikonaaGreatQ30
namespace Go.Proofs.YtpbchbcdgikonaaGreat
set_option linter.unusedVariables false
set_option linter.unusedSimpArgs false
set_option maxRecDepth 100000
set_option maxHeartbeats 4000000
open Go.RowKit
section
open Go.RowKit Limb
theorem pof (x y:Int) (w:World) (h1 : -4611686018427387904<=x) (h2:x<=4611686018427387904) (h3 : -4611686018427387904<=y) (h4:y<=4611686018427387904):Calls Tryz.prog 115 #[.int .i64 x,.int .i64 y] w (Ae5 w (x:Rat) (y:Rat)):=by
 obtain⟨zx,hzx⟩:∃z:Rat,(x:Rat)=z:=⟨_,rfl⟩
 obtain⟨zy,hzy⟩:∃z:Rat,(y:Rat)=z:=⟨_,rfl⟩
 have E1:=Lib.hid hzx;have E2:=Lib.hid hzy;rw[hzx,hzy];clear hzx hzy;go_enter Tryz.func115,Tryz.ntmps115;go_upto_region 1 with fail;refine Ar (fun X=>Below w.heap.size w X/\Bb X w.heap.size 163 #[.bool false,.slice none 0 0,.slice none 0 0,.bool false,.slice none 0 0,.slice none 0 0]) ⟨An (Below.refl _ _) _,Bb.new _ _ _⟩ ?_
 rintro X ⟨hbX,hR⟩;have hltR:=hR.lt
 go_upto_region 2 with (go_at_call 148;refine(rof x _ h1 h2).mono ?_;rintro e w1 ⟨v1,rfl,hr1,hb1⟩;rw[E1.out] at hr1;obtain⟨m1,d1,rfl,hm1,hd1⟩:=hr1;obtain⟨B1,n1,c1,rfl⟩:=hm1.sl;obtain⟨B2,n2,c2,rfl⟩:=hd1.sl)
 refine Ar (fun Y=>Below w1.heap.size w1 Y/\Bb Y w1.heap.size 161 #[.bool (decide (zx.num<0)),.slice B1 n1 c1,.slice B2 n2 c2]) ⟨An (Below.refl _ _) _,Bb.new _ _ _⟩ ?_
 rintro Y ⟨hbY,hP⟩
 go_upto_region 3 with (go_at_call 148;refine(rof y _ h3 h4).mono ?_;rintro e w2 ⟨v2,rfl,hr2,hb2⟩;rw[E2.out] at hr2;obtain⟨m2,d2,rfl,hm2,hd2⟩:=hr2;obtain⟨B3,n3,c3,rfl⟩:=hm2.sl;obtain⟨B4,n4,c4,rfl⟩:=hd2.sl)
 have hbE:=Ao (Ao hb1 hbY) hb2;refine Ar (fun Z=>Below w2.heap.size w2 Z/\Bb Z w2.heap.size 161 #[.bool (decide (zy.num<0)),.slice B3 n3 c3,.slice B4 n4 c4]) ⟨An (Below.refl _ _) _,Bb.new _ _ _⟩ ?_
 rintro Z ⟨hbZ,hQ⟩;have hbF:=Ao hbE hbZ;have hP2:=(hP.keep hb2).keep hbZ;obtain⟨a0,a1,a2,-,-,-,-⟩:=hP2.triple;obtain⟨b0,b1,b2,-,-,-,-⟩:=hQ.triple;obtain⟨r0,r1,r2,r3,r4,r5⟩:=cells6 (hR.keep hbF);obtain⟨f0,f1,f2,f3,f4,f5,flt⟩:=Mh (hR.keep hbF);have k1:=((hm1.keep hbY).keep hb2).keep hbZ;have k2:=((hd1.keep hbY).keep hb2).keep hbZ;have hsz:X.heap.size<=Y.heap.size:=(Ao hb1 hbY).size;have k3:=(hm2.keep hbZ).lower hsz;have k4:=(hd2.keep hbZ).lower hsz;go_wp2_with fail;obtain⟨hZ,HR⟩:=No (w:=w) (hR.keep hbF) k1 k2 k3 k4 hltR (Nat.le_refl _) (Ao hbX hbF) _ rfl;obtain⟨s0,s1,s2,s3,s4,s5⟩:=cells6 hZ;exact bodyPost_ret (v:=.agg #[.bool (decide (zx.num<0)),.slice B1 n1 c1,.slice B2 n2 c2,.bool (decide (zy.num<0)),.slice B3 n3 c3,.slice B4 n4 c4]) (by simp[results,Tryz.results115,go_sem,s0,s1,s2,s3,s4,s5]) rfl HR
def inC (z:Int):Bool:=decide (-1048576<=z/\z<=1048576)
theorem Acu (n:Int) (d:Nat) (hd:0<d):(rnd n d).natAbs<=2*n.natAbs+d:=by
 unfold rnd;have:=Nat.div_le_self (2*n.natAbs+d) (2*d);generalize (2*n.natAbs+d) / (2*d)=k at *
 split<;>omega
theorem Abg {w:World} {ba:Nat} {x:Rat} {vx:Value} (hX:Gr w ba vx x) (bx:RB 600 x):Calls Tryz.prog 116 #[vx] w fun e w'=>∃n,e=.returned (.tuple #[.int .i64 n,.bool (inC (rnd x.num x.den))])/\(inC (rnd x.num x.den)=true->n=rnd x.num x.den)/\Below w.heap.size w w':=by
 obtain⟨mx,dx,rfl,hx,hxd⟩:=id hX;obtain⟨Ax,nx,cx,rfl⟩:=hx.sl;obtain⟨Bx,ox,ex,rfl⟩:=hxd.sl
 have hsz:Sm (rnd x.num x.den).natAbs:=by
  refine(H8 (m:=600+2) ?_ (by decide)).le (Acu x.num x.den x.den_pos)
  have:=si (m:=600) bx.1 bx.2
  rwa [<-Nat.two_mul] at this
 obtain⟨p,hp⟩:∃p,decide (x.num<0)=p:=⟨_,rfl⟩
 rw[hp] at hX ⊢;obtain⟨z,hz⟩:∃z,rnd x.num x.den=z:=⟨_,rfl⟩
 have HZ:=Lib.hid hz;rw[hz] at hsz ⊢;clear hp hz hx hxd;go_enter Tryz.func116,Tryz.ntmps116;go_upto_region 1 with fail;refine Ar (fun X=>Below w.heap.size w X/\Bb X w.heap.size 161 #[.bool p,.slice Ax nx cx,.slice Bx ox ex]) ⟨An (Below.refl _ _) _,Bb.new _ _ _⟩ ?_
 rintro X ⟨hbX,hP⟩;obtain⟨a0,a1,a2,-,-,-,-⟩:=hP.triple
 go_upto_region 2 with (first
  | (go_at_call 149;refine(Agz h1 hsz).mono ?_;rintro e w2 ⟨n,ok,rfl,hok,hno,hb2⟩)
  | (go_at_call 150;refine(Agc (hX.keep hbX) bx).mono ?_;rintro e w1 ⟨v1,rfl,h1,hb1⟩;rw[HZ.out] at h1))
 have hbE:=Ao (Ao hbX hb1) hb2;cases ok with
 | false =>
   have hf:Hid (inC z=false):=Lib.hid (by
    have:=hno rfl;unfold inC;exact decide_eq_false (by omega))
   clear hok hno;go_wp2_with fail
   go_ret2
   exact⟨n,by rw[hf.out];rfl,(fun h=>by rw[hf.out] at h;cases h),hbE⟩
 | true =>
   obtain rfl:=hok rfl;have hI:Hid (inC n=(decide (-1048576<=n)&&decide (n<=1048576))):=Lib.hid (by unfold inC;exact Bool.decide_and _ _)
   clear hok hno;by_cases c1 : -1048576<=n
   ·by_cases c2:n<=1048576
    ·have hf:Hid (inC n=true):=Lib.hid (by rw[hI.out];simp[c1,c2])
     go_wp2_with fail
     go_ret2
     exact⟨n,by rw[hf.out];rfl,(fun _=>rfl),hbE⟩
    ·have hf:Hid (inC n=false):=Lib.hid (by rw[hI.out];simp[c2])
     go_wp2_with fail
     go_ret2
     exact⟨n,by rw[hf.out];rfl,(fun _=>rfl),hbE⟩
   ·have hf:Hid (inC n=false):=Lib.hid (by rw[hI.out];simp[c1])
    go_wp2_with fail
    go_ret2
    exact⟨n,by rw[hf.out];rfl,(fun _=>rfl),hbE⟩
def Mn (zx zy:Int):(Int×Int)×Int:=if inC zx&&inC zy then ((zx,zy),0) else ((0,0),3)
theorem Agk {w:World} {ba:Nat} {x y:Rat} {vx:Value} (hX:PtV w ba vx x y) (bx:RB 600 x) (by_:RB 600 y) (zx zy:Int) (hzx:rnd x.num x.den=zx) (hzy:rnd y.num y.den=zy):Calls Tryz.prog 79 #[vx] w fun e w'=>e=.returned (.tuple #[.agg #[.int .i64 (Mn zx zy).1.1,.int .i64 (Mn zx zy).1.2],.int .i64 (Mn zx zy).2])/\Below w.heap.size w w':=by
 obtain⟨M1,D1,M2,D2,rfl,x1,x2,x3,x4⟩:=hX;obtain⟨Aa,na,ca,rfl⟩:=x1.sl;obtain⟨Ab,nb,cb,rfl⟩:=x2.sl;obtain⟨Ac,nc,cc,rfl⟩:=x3.sl;obtain⟨Ad,nd,cd,rfl⟩:=x4.sl;obtain⟨p1,hp1⟩:∃p,decide (x.num<0)=p:=⟨_,rfl⟩
 obtain⟨p2,hp2⟩:∃p,decide (y.num<0)=p:=⟨_,rfl⟩
 have H1:Gr w ba (.agg #[.bool p1,.slice Aa na ca,.slice Ab nb cb]) x:=⟨_,_,by rw[hp1],x1,x2⟩
 have H2:Gr w ba (.agg #[.bool p2,.slice Ac nc cc,.slice Ad nd cd]) y:=⟨_,_,by rw[hp2],x3,x4⟩
 have E1:=Lib.hid hzx;have E2:=Lib.hid hzy;rw[hp1,hp2];clear hp1 hp2 x1 x2 x3 x4 hzx hzy;go_enter Tryz.func79,Tryz.ntmps79;go_upto_region 1 with fail;refine Ar (fun X=>Below w.heap.size w X/\Bb X w.heap.size 163 #[.bool p1,.slice Aa na ca,.slice Ab nb cb,.bool p2,.slice Ac nc cc,.slice Ad nd cd]/\Bb X (w.heap.size+1) 49 #[.int .i64 0,.int .i64 0]) ⟨An (An (Below.refl _ _) _) _,Bb.alloc (Bb.new _ _ _) _,Bb.new2 _ _ _ _⟩ ?_
 rintro X ⟨hbX,hP,hR⟩;obtain⟨a0,a1,a2,a3,a4,a5⟩:=cells6 hP;obtain⟨c1,hc1⟩:∃c,inC zx=c:=⟨_,rfl⟩
 obtain⟨c2,hc2⟩:∃c,inC zy=c:=⟨_,rfl⟩
 have HC1:=Lib.hid hc1;have HC2:=Lib.hid hc2;have HG:Hid (Mn zx zy=if c1&&c2 then ((zx,zy),0) else ((0,0),3)):=Lib.hid (by unfold Mn;rw[hc1,hc2])
 clear hc1 hc2
 go_upto_region 3 with (first
  | (go_at_call 116;have hX1:=hn1;refine(Abg ((H2.keep hbX).keep hb1) by_).mono ?_;rintro e w2 ⟨n2,rfl,hn2,hb2⟩;rw[E2.out,HC2.out] at *)
  | (go_at_call 116;refine(Abg (H1.keep hbX) bx).mono ?_;rintro e w1 ⟨n1,rfl,hn1,hb1⟩;rw[E1.out,HC1.out] at *;obtain⟨b0,b1,b2,b3,b4,b5⟩:=cells6 (hP.keep hb1)))
 have hbE:=Ao hb1 hb2;have hR2:=hR.keep hbE;obtain⟨r0,r1,f0,f1,lt⟩:=hR2.pair;have hbF:=Ao hbX hbE;cases c1 with
 | true =>
   obtain rfl:=hn1 rfl;cases c2 with
   | true =>
     obtain rfl:=hn2 rfl;clear hn1 hn2;obtain⟨s0,s1,-,-,-⟩:=Bb.pair ((hR2.set_ 0 (.int .i64 n1)).set_ 1 (.int .i64 n2));go_wp2_with fail;exact bodyPost_ret (v:=.tuple #[.agg #[.int .i64 n1,.int .i64 n2],.int .i64 0]) (by simp[results,Tryz.results79,go_sem,s0,s1]) rfl ⟨by rw[HG.out];rfl,Bc (Bc hbF (p:=⟨w.heap.size+1,0,none⟩) (by simp) _) (p:=⟨w.heap.size+1,1,none⟩) (by simp) _⟩
   | false =>
     clear hn1 hn2;obtain⟨s0,s1,-,-,-⟩:=Bb.pair ((hR2.set_ 0 (.int .i64 0)).set_ 1 (.int .i64 0));go_wp2_with fail;exact bodyPost_ret (v:=.tuple #[.agg #[.int .i64 0,.int .i64 0],.int .i64 3]) (by simp[results,Tryz.results79,go_sem,s0,s1]) rfl ⟨by rw[HG.out];rfl,Bc (Bc hbF (p:=⟨w.heap.size+1,0,none⟩) (by simp) _) (p:=⟨w.heap.size+1,1,none⟩) (by simp) _⟩
 | false =>
   clear hn1 hn2;obtain⟨s0,s1,-,-,-⟩:=Bb.pair ((hR2.set_ 0 (.int .i64 0)).set_ 1 (.int .i64 0));go_wp2_with fail;exact bodyPost_ret (v:=.tuple #[.agg #[.int .i64 0,.int .i64 0],.int .i64 3]) (by simp[results,Tryz.results79,go_sem,s0,s1]) rfl ⟨by rw[HG.out];rfl,Bc (Bc hbF (p:=⟨w.heap.size+1,0,none⟩) (by simp) _) (p:=⟨w.heap.size+1,1,none⟩) (by simp) _⟩
end
section
open Go.RowKit Limb
structure Seg where
 fx:Int
 fy:Int
 tx:Int
 ty:Int
 wd:Int
def crD (a b:Seg):Int:=(a.tx-a.fx)*(b.ty-b.fy)-(a.ty-a.fy)*(b.tx-b.fx)
def crN (a b:Seg):Int:=(b.fx-a.fx)*(b.ty-b.fy)-(b.fy-a.fy)*(b.tx-b.fx)
def Air (v:Int×Int) (a b:Seg):Int:=rnd (((a.fx-v.1)*crD a b+(a.tx-a.fx)*crN a b)*(crD a b).sign) (crD a b).natAbs
def Aiq (v:Int×Int) (a b:Seg):Int:=rnd (((a.fy-v.2)*crD a b+(a.ty-a.fy)*crN a b)*(crD a b).sign) (crD a b).natAbs
def Ds (v:Int×Int) (a b:Seg):List (Int×Int) :=
 if crD a b=0 then [(a.tx,a.ty),(b.fx,b.fy)]
 else if (inC (Air v a b)&&inC (Aiq v a b))&&wS (Air v a b,Aiq v a b) (4*max a.wd b.wd+4) then [(v.1+Air v a b,v.2+Aiq v a b)]
 else [(a.tx,a.ty),(b.fx,b.fy)]
end
def R7 (v:List (Int×Int)):Int:=if Bf v v.length=0 then Ma v v.length v.length else 0
def orW (v:List (Int×Int)):Int:=Er (R7 v) 0
def Fl (E:List EdgeP) (wd:List Int):Nat->List Int
 | 0=>[]
 | k+1=>Fl E wd k++List.replicate ((edg E k).ln.length-1) (gi wd k)
def Kr (E:List EdgeP) (wd:List Int):List Int:=Fl E wd E.length
def shP (v:List (Int×Int)) (sg:Int) (each:List Int) (i:Nat):Int×Int :=
 (G8 (sg*gi each i*((gt v ((i+1) % v.length)).2-(gt v i).2)) (Cf (sqd (gt v i) (gt v ((i+1) % v.length)))),
  G8 (-(sg*gi each i)*((gt v ((i+1) % v.length)).1-(gt v i).1)) (Cf (sqd (gt v i) (gt v ((i+1) % v.length)))))
def Es (E:List EdgeP) (wd:List Int):List (Int×Int):=(List.range (Ck E).length).map (shP (Ck E) (orW (Ck E)) (Kr E wd))
def wdB (wd:List Int) (i:Nat):Bool:=decide (gi wd i<0) || decide (500<gi wd i)
def Et (E:List EdgeP) (wd:List Int):List (Int×Int)×Int :=
 if Fp E≠0 then ([],Fp E) else if wd.length≠E.length then ([],1) else if Bq (wdB wd) wd.length then ([],3) else (Es E wd,0)
def Xg (v sh:List (Int×Int)) (each:List Int) (i:Nat):Seg :=
 ⟨(gt v i).1+(gt sh i).1,(gt v i).2+(gt sh i).2,(gt v ((i+1) % v.length)).1+(gt sh i).1,(gt v ((i+1) % v.length)).2+(gt sh i).2,gi each i⟩
def Qt (l:List (Int×Int)) (p:Int×Int):List (Int×Int):=if l.length=0 then l++[p] else if eqS (gt l (l.length-1)) p then l else l++[p]
def Io (l c:List (Int×Int)):Nat->List (Int×Int)
 | 0=>l
 | k+1=>Qt (Io l c k) (gt c k)
def dn (v sh:List (Int×Int)) (each:List Int) (i:Nat):List (Int×Int):=Ds (gt v i) (Xg v sh each ((i+v.length-1) % v.length)) (Xg v sh each i)
def Mm (v sh:List (Int×Int)) (each:List Int):Nat->List (Int×Int)
 | 0=>[]
 | i+1=>Io (Mm v sh each i) (dn v sh each i) (dn v sh each i).length
def Nd (l:List (Int×Int)):Nat->Nat
 | 0=>0
 | k+1=>if 2<=k+1/\eqS (gt l k) (gt l 0)=true then Nd l k else k+1
def Abe (E:List EdgeP) (wd:List Int):List (Int×Int):=Mm (Ck E) (Es E wd) (Kr E wd) (Ck E).length
def H9 (E:List EdgeP) (wd:List Int):List (Int×Int):=(Abe E wd).take (Nd (Abe E wd) (Abe E wd).length)
def I5 (E:List EdgeP) (wd:List Int):List (Int×Int)×Int :=
 if (Et E wd).2≠0 then ([],(Et E wd).2)
 else if Bq (fun i=>!wS (gt (H9 E wd) i) 1048576) (H9 E wd).length then ([],3)
 else if Bf (H9 E wd) (H9 E wd).length≠0 then ([],Bf (H9 E wd) (H9 E wd).length)
 else if orW (H9 E wd)≠orW (Ck E) then ([],11) else (H9 E wd,0)
theorem Oh (v:Int×Int) (a b:Seg):(Ds v a b).length<=2:=by
 unfold Ds;split
 ·simp
 ·split<;>simp
theorem jo (l:List (Int×Int)) (p:Int×Int):(Qt l p).length<=l.length+1:=by
 unfold Qt;split
 ·simp
 ·split<;>simp
theorem Pm (l c:List (Int×Int)) (k:Nat):(Io l c k).length<=l.length+k:=by
 induction k with
 | zero=>simp[Io]
 | succ k ih =>
   rw[Io];have:=jo (Io l c k) (gt c k);omega
theorem S4 (v sh:List (Int×Int)) (each:List Int) (k:Nat):(Mm v sh each k).length<=2*k:=by
 induction k with
 | zero=>simp[Mm]
 | succ k ih =>
   rw[Mm];have h1:=Pm (Mm v sh each k) (dn v sh each k) (dn v sh each k).length;have h2:(dn v sh each k).length<=2:=Oh _ _ _;omega
theorem Ly {E:List EdgeP} {wd:List Int} (k:Nat):(Fl E wd k).length=(G4 E k).length:=by
 induction k with
 | zero=>rfl
 | succ k ih=>rw[Fl,G4,List.length_append,List.length_append,List.length_replicate,Y3,ih]
structure PlcP where
 ga:Int
 us:Int
 cp:Int
 fl:Bool
 qu:Int
 x:Int
 y:Int
structure MkP where
 len:Int
 wid:Int
 rx:Int
 ry:Int
 sz:List Int
 pl:List PlcP
def plc (l:List PlcP) (k:Nat):PlcP:=l.getD k ⟨0,0,0,false,0,0,0⟩
def dq (i:Nat) (pr:Bool) (k:Nat):PlcP:=⟨0,(i:Int),(k:Int),pr&&decide (k % 2=1),0,0,0⟩
def Fb (U:List UseP):Nat->List PlcP
 | 0=>[]
 | i+1=>Fb U i++(List.range (use U i).ct.toNat).map (dq i (use U i).pr)
def Em (s:StyleP):List PlcP:=if Bt s≠0 then [] else Fb s.us s.us.length
def Cl (s:StyleP) (u:Int):PieceP:=pce s.pc (use s.us u.toNat).pc.toNat
def Ki (s:StyleP) (z u:Int):List EdgeP×Int :=
 if Bt s≠0 then ([],Bt s) else if z<0\/(s.sz.length:Int)<=z\/u<0\/(s.us.length:Int)<=u then ([],3)
 else Cn (Cl s u) (gi s.mu z.toNat)
def Lb (s:StyleP) (z u:Int):List (Int×Int)×Int:=if (Ki s z u).2≠0 then ([],(Ki s z u).2) else I5 (Ki s z u).1 (Cl s u).wd
def Ze (s:StyleP) (z u:Int):(Int×Int)×Int:=if (Ki s z u).2≠0 then ((0,0),(Ki s z u).2) else (gt (edg (Ki s z u).1 0).ln 0,0)
def Wp:Shp:=⟨[],0,false,(0,0)⟩
def F8 (s:StyleP) (z:Int) (c:PlcP):Shp×Int :=
 if (Lb s z c.us).2≠0 then (Wp,(Lb s z c.us).2) else if (Ze s z c.us).2≠0 then (Wp,(Ze s z c.us).2)
 else (⟨if c.fl then Fv true 0 (Lb s z c.us).1 else (Lb s z c.us).1,(Cl s c.us).gr,(Cl s c.us).mt,if c.fl then C4 true 0 (Ze s z c.us).1 else (Ze s z c.us).1⟩,0)
def Ju (c:PlcP) (j:Int):PlcP:=⟨j,c.us,c.cp,c.fl,c.qu,c.x,c.y⟩
def Lj (s:StyleP) (z j:Int) (C:List PlcP) (a:Int×List Shp×List PlcP):Nat->Int×List Shp×List PlcP
 | 0=>a
 | k+1=>if (Lj s z j C a k).1≠0 then Lj s z j C a k else if (F8 s z (plc C k)).2≠0 then ((F8 s z (plc C k)).2,[],[])
   else (0,(Lj s z j C a k).2.1++[(F8 s z (plc C k)).1],(Lj s z j C a k).2.2++[Ju (plc C k) j])
def Li (s:StyleP) (Z:List Int) (C:List PlcP):Nat->Int×List Shp×List PlcP
 | 0=>(0,[],[])
 | j+1=>if (Li s Z C j).1≠0 then Li s Z C j else Lj s (gi Z j) j C (Li s Z C j) C.length
def Bd (s:StyleP) (Z:List Int):Int×List Shp×List PlcP :=
 if Bt s≠0 then (Bt s,[],[]) else if Z.length<1\/6<Z.length then (3,[],[])
 else if Bq (fun i=>decide (gi Z i<0) || decide ((s.sz.length:Int)<=gi Z i)) Z.length then (3,[],[])
 else if 60<(Em s).length*Z.length then (5,[],[]) else Li s Z (Em s) Z.length
def Kd (l:List (Int×Int)):Int:=max (R7 l) (-(R7 l))
def J1 (f:Int->Int->Int) (l:List Int):Nat->List Int
 | 0=>l
 | j+1=>if f (gi l (j+1)) (gi l j)<0 then J1 f ((l.set (j+1) (gi l j)).set j (gi l (j+1))) j else l
def Iw (f:Int->Int->Int) (l:List Int):Nat->List Int
 | 0=>l
 | i+1=>J1 f (Iw f l i) i
def Ns (S:List Shp) (i k:Int):Int:=Kd (shp S k.toNat).poly-Kd (shp S i.toNat).poly
def Jx (S:List Shp):List Int:=Iw (Ns S) ((List.range S.length).map fun i:Nat=>(i:Int)) S.length
def az (c:PlcP) (p:Pt5):PlcP:=⟨c.ga,c.us,c.cp,c.fl,p.qu,p.x,p.y⟩
def Cp (C:List PlcP) (P:List Pt5):Nat->List PlcP
 | 0=>C
 | k+1=>(Cp C P k).set (pt P k).sh.toNat (az (plc (Cp C P k) (pt P k).sh.toNat) (pt P k))
def Na:MkP:=⟨0,0,0,0,[],[]⟩
def Bz (s:StyleP) (b:Bed4) (Z:List Int):Int×MkP :=
 if (Bd s Z).1≠0 then ((Bd s Z).1,Na)
 else if (Ho b (Bd s Z).2.1 (Jx (Bd s Z).2.1)).1≠0 then ((Ho b (Bd s Z).2.1 (Jx (Bd s Z).2.1)).1,Na)
 else if (Mo (Bd s Z).2.1 (Ho b (Bd s Z).2.1 (Jx (Bd s Z).2.1)).2).1≠0 then ((Mo (Bd s Z).2.1 (Ho b (Bd s Z).2.1 (Jx (Bd s Z).2.1)).2).1,Na)
 else (0,⟨(Mo (Bd s Z).2.1 (Ho b (Bd s Z).2.1 (Jx (Bd s Z).2.1)).2).2,b.wid,b.rx,b.ry,Z,Cp (Bd s Z).2.2 (Ho b (Bd s Z).2.1 (Jx (Bd s Z).2.1)).2 (Ho b (Bd s Z).2.1 (Jx (Bd s Z).2.1)).2.length⟩)
def Aff (c p:PlcP):Bool:=decide (c.ga=p.ga)&&decide (c.us=p.us)&&decide (c.cp=p.cp)
def Pw (C:List PlcP) (p:PlcP):Nat->Int
 | 0 => -1
 | k+1=>if Aff (plc C k) p then (k:Int) else Pw C p k
def gbo (l:List Bool) (k:Nat):Bool:=l.getD k false
def Ft (C P:List PlcP):Nat->Int×List Bool×List Pt5
 | 0=>(0,List.replicate C.length false,[])
 | k+1=>if (Ft C P k).1≠0 then Ft C P k
   else if Pw C (plc P k) C.length<0 then (3,[],[])
   else if gbo (Ft C P k).2.1 (Pw C (plc P k) C.length).toNat then (7,[],[])
   else (0,(Ft C P k).2.1.set (Pw C (plc P k) C.length).toNat true,(Ft C P k).2.2++[⟨Pw C (plc P k) C.length,false,(plc P k).qu,(plc P k).x,(plc P k).y⟩])
def Ic (b:Bed4) (S:List Shp) (ps:List Pt5):Int:=if 60<ps.length then 5 else Gk (fun i=>Dm b S (ps.take i) (pt ps i)) ps.length
def Y8 (m:MkP):Bed4:=⟨m.len,m.wid,m.rx,m.ry⟩
def Aaj (C:List PlcP) (S:List Shp) (m:MkP) (r:Int×List Bool×List Pt5):Int×List Shp×List Pt5 :=
 if r.1≠0 then (r.1,[],[]) else if Bq (fun i=>!gbo r.2.1 i) C.length then (20,[],[])
 else if Bq (fun i=>(plc m.pl i).fl != (plc C (pt r.2.2 i).sh.toNat).fl) m.pl.length then (12,[],[])
 else if Ic (Y8 m) S r.2.2≠0 then (Ic (Y8 m) S r.2.2,[],[]) else (0,S,r.2.2)
def Fs (s:StyleP) (m:MkP):Int×List Shp×List Pt5 :=
 if (Bd s m.sz).1≠0 then ((Bd s m.sz).1,[],[]) else Aaj (Bd s m.sz).2.2 (Bd s m.sz).2.1 m (Ft (Bd s m.sz).2.2 m.pl m.pl.length)
def Gq (S:List Shp) (ps:List Pt5):Nat->Int×List (List (Int×Int))
 | 0=>(0,[])
 | k+1=>if (Gq S ps k).1≠0 then Gq S ps k else if (Be S (pt ps k)).1≠0 then ((Be S (pt ps k)).1,[]) else (0,(Gq S ps k).2++[(Be S (pt ps k)).2])
def Ia (s:StyleP) (m:MkP):Int×List (List (Int×Int)):=if (Fs s m).1≠0 then ((Fs s m).1,[]) else Gq (Fs s m).2.1 (Fs s m).2.2 (Fs s m).2.2.length
def Gt (l:List (List (Int×Int))):Nat->Int
 | 0=>0
 | k+1=>Gt l k+Kd (lt_ l k)
def Zo (s:StyleP) (m:MkP):Int×Int:=if (Ia s m).1≠0 then (0,(Ia s m).1) else (Gt (Ia s m).2 (Ia s m).2.length,0)
def Zn:Array Value:=#[.string ⟨#[]⟩,.slice none 0 0,.int .i64 0,.slice none 0 0,.slice none 0 0,.slice none 0 0,.bool false]
def zPc:PieceP:=⟨⟨#[]⟩,[],0,[],[],[],false⟩
theorem Afs (w:World):PcV w Zn zPc:=⟨none,0,none,0,none,0,none,0,rfl,⟨Nat.le_refl _,by omega,rfl,.inl rfl⟩,⟨Nat.le_refl _,by omega,rfl,.inl rfl⟩,⟨Nat.le_refl _,by omega,rfl,.inl rfl⟩,Nat.le_refl _,by omega,rfl,.inl rfl⟩
def R5 (w:World) (r:List EdgeP×Int) (p:PieceP) (e:Ending) (w':World):Prop:=∃A c vs p',e=.returned (.tuple #[.slice A r.1.length c,.agg vs,.int .i64 r.2])/\r.1.length<=c/\c<=9223372036854775807/\EdS w' A r.1.length r.1/\PcV w' vs p'/\(r.2=0->p'=p)/\Below w.heap.size w w'
theorem R5.none_ {w w':World} {x:Int} {p:PieceP} (hx:x≠0) (hb:Below w.heap.size w w'):R5 w ([],x) p (.returned (.tuple #[.slice none 0 0,.agg Zn,.int .i64 x])) w':=⟨none,0,Zn,zPc,rfl,Nat.le_refl _,by omega,⟨rfl,.inl rfl⟩,Afs _,fun h=>absurd h hx,hb⟩
theorem Afb {w:World} {g base:Nat} {w0:World} (h:Below base w0 w) (hg:base<=g) (a b c d e f k:Value):Below base w0 (((((((w.setCell ⟨g,0,none⟩ a).setCell ⟨g,1,none⟩ b).setCell ⟨g,2,none⟩ c).setCell ⟨g,3,none⟩ d).setCell ⟨g,4,none⟩ e).setCell ⟨g,5,none⟩ f).setCell ⟨g,6,none⟩ k) :=
 Below.setCell (Below.setCell (Below.setCell (Below.setCell (Below.setCell (Below.setCell (Below.setCell h hg _) hg _) hg _) hg _) hg _) hg _) hg _
theorem Dq (w:World) (g o:Nat) (u:Value) {j:Nat} (h:j≠g):(w.setCell ⟨g,o,none⟩ u).heap[j]? = w.heap[j]? := Below.heap_setCell w ⟨g,o,none⟩ u j h
theorem Ajr (w:World) (j:Nat):w.drew.heap[j]? = w.heap[j]? := rfl
theorem Ajs (w:World) (g:Nat) (a b c d e f k:Value) {j:Nat} (h:j≠g):(World.drew (((((((w.setCell ⟨g,0,none⟩ a).setCell ⟨g,1,none⟩ b).setCell ⟨g,2,none⟩ c).setCell ⟨g,3,none⟩ d).setCell ⟨g,4,none⟩ e).setCell ⟨g,5,none⟩ f).setCell ⟨g,6,none⟩ k)).heap[j]? = w.heap[j]? := by
 rw[Ajr,Dq _ _ _ _ h,Dq _ _ _ _ h,Dq _ _ _ _ h,Dq _ _ _ _ h,Dq _ _ _ _ h,Dq _ _ _ _ h,Dq _ _ _ _ h]
theorem Alb (vs:Array Value) (s:StyleP) (z u:Int) (w:World) (hsm:SmS s) (hv:StV w vs s) (h:Bt s≠0):Calls Tryz.prog 28 #[.agg vs,.int .i64 z,.int .i64 u] w (R5 w ([],Bt s) (Cl s u)):=by
 obtain⟨c,hc⟩:∃c,Bt s=c:=⟨_,rfl⟩
 rw[hc] at h ⊢;have HC:=Lib.hid hc;have HN:=Lib.hid h;have hne:(c != 0)=true:=by simpa using h
 clear hc h;have hv0:=hv;obtain⟨A1,c1,A2,c2,A3,c3,A4,c4,A5,c5,A6,c6,rfl,⟨v1,v2,v3⟩,⟨v4,v5,v6⟩,⟨v7,v8,v9⟩,⟨v10,v11,v12⟩,⟨v13,v14,v15⟩,v16,v17⟩:=hv;go_enter Tryz.func28,Tryz.ntmps28;go_upto_region 1 with fail;refine Ar (fun X=>Below w.heap.size w X/\Bb X w.heap.size 29 #[.string s.nm,.slice A1 s.sz.length c1,.slice A2 s.mu.length c2,.slice A3 s.pc.length c3,.slice A4 s.us.length c4,.slice A5 s.se.length c5,.slice A6 s.no c6]/\Bb X (w.heap.size+1) 64 #[.string ⟨#[]⟩,.slice none 0 0,.int .i64 0,.slice none 0 0,.slice none 0 0,.slice none 0 0,.bool false]) ⟨An (An (Below.refl _ _) _) _,(Bb.new _ _ _).alloc _,Bb.new2 _ _ _ _⟩ ?_
 rintro X ⟨hbX,hP,hR⟩;obtain⟨p0,p1,p2,p3,p4,p5,p6⟩:=st7 hP
 go_wp2_with (go_at_call 42;refine(Dj _ s _ hsm (hv0.keep hbX)).mono ?_;rintro e w1 ⟨rfl,hb1⟩;rw[HC.out];have hR1:=hR.keep hb1;have g0:=hR1.frozen 0;have g1:=hR1.frozen 1;have g2:=hR1.frozen 2;have g3:=hR1.frozen 3;have g4:=hR1.frozen 4;have g5:=hR1.frozen 5;have g6:=hR1.frozen 6;obtain⟨q0,q1,q2,q3,q4,q5,q6⟩:=st7 hR1)
 obtain⟨s0,s1,s2,s3,s4,s5,s6⟩:=st7 (((((((hR1.set_ 0 (.string ⟨#[]⟩)).set_ 1 (.slice none 0 0)).set_ 2 (.int .i64 0)).set_ 3 (.slice none 0 0)).set_ 4 (.slice none 0 0)).set_ 5 (.slice none 0 0)).set_ 6 (.bool false));exact bodyPost_ret (v:=.tuple #[.slice none 0 0,.agg Zn,.int .i64 c]) (by simp[results,Tryz.results28,go_sem,s0,s1,s2,s3,s4,s5,s6,Zn]) rfl (R5.none_ HN.out (Afb (Ao hbX hb1) (by omega) _ _ _ _ _ _ _))
theorem Wv {s:StyleP} (h:Bt s=0):s.mu.length=s.sz.length/\∀i,i<s.us.length->0<=(use s.us i).pc/\(use s.us i).pc<s.pc.length/\1<=(use s.us i).ct/\(use s.us i).ct<=4:=by
 unfold Bt at h;split at h
 ·rename_i g;exact absurd h g
 ·rename_i g1
  split at h
  ·rename_i g;exact absurd h g
  ·split at h
   ·cases h
   ·rename_i g3
    constructor
    ·have g1':Ct s=0:=by simpa using g1
     unfold Ct at g1';split at g1'
     ·cases g1'
     ·split at g1'
      ·cases g1'
      ·split at g1'
       ·cases g1'
       ·rename_i k;refine Classical.byContradiction fun hc=>k (Or.inl hc)
    ·intro i hi
     cases hu:Us s i with
     | true=>exact absurd (Bq.yes (f:=Us s) hi hu) g3
     | false=>unfold Us at hu;simp at hu;omega
theorem Ala (vs:Array Value) (s:StyleP) (z u:Int) (w:World) (hsm:SmS s) (hv:StV w vs s) (h:Bt s=0) (hb:z<0\/(s.sz.length:Int)<=z\/u<0\/(s.us.length:Int)<=u):Calls Tryz.prog 28 #[.agg vs,.int .i64 z,.int .i64 u] w (R5 w ([],3) (Cl s u)):=by
 have HC:=Lib.hid h;have HB:=Lib.hid hb;clear h hb;have hv0:=hv;obtain⟨A1,c1,A2,c2,A3,c3,A4,c4,A5,c5,A6,c6,rfl,⟨v1,v2,v3⟩,⟨v4,v5,v6⟩,⟨v7,v8,v9⟩,⟨v10,v11,v12⟩,⟨v13,v14,v15⟩,v16,v17⟩:=hv;go_enter Tryz.func28,Tryz.ntmps28;go_upto_region 1 with fail;refine Ar (fun X=>Below w.heap.size w X/\Bb X w.heap.size 29 #[.string s.nm,.slice A1 s.sz.length c1,.slice A2 s.mu.length c2,.slice A3 s.pc.length c3,.slice A4 s.us.length c4,.slice A5 s.se.length c5,.slice A6 s.no c6]/\Bb X (w.heap.size+1) 64 #[.string ⟨#[]⟩,.slice none 0 0,.int .i64 0,.slice none 0 0,.slice none 0 0,.slice none 0 0,.bool false]) ⟨An (An (Below.refl _ _) _) _,(Bb.new _ _ _).alloc _,Bb.new2 _ _ _ _⟩ ?_
 rintro X ⟨hbX,hP,hR⟩;obtain⟨p0,p1,p2,p3,p4,p5,p6⟩:=st7 hP;have hz1:=hsm.sz;have hz4:=hsm.us;have hvX:=hv0.keep hbX;have HSM:=Lib.hid hsm;obtain⟨n1,hn1⟩:∃n,s.sz.length=n:=⟨_,rfl⟩
 obtain⟨n4,hn4⟩:∃n,s.us.length=n:=⟨_,rfl⟩
 have HV:=Lib.hid hvX;have hB:=HB.out;rw[hn1,hn4] at hB;have HX:=Lib.hid (show StV X #[.string s.nm,.slice A1 n1 c1,.slice A2 s.mu.length c2,.slice A3 s.pc.length c3,.slice A4 n4 c4,.slice A5 s.se.length c5,.slice A6 s.no c6] s by rw[<-hn1,<-hn4];exact hvX)
 rw[hn1] at p1 hz1 v1;rw[hn4] at p4 hz4 v10;rw[hn1,hn4] at hP;clear hn1 hn4 hvX hv0 hsm v3 v6 v9 v12 v15;have HL:∀(t:Prop),Hid (R5 w ([],3) (Cl s u)=R5 w ([],3) (Cl s u)):=fun _=>Lib.hid rfl
 by_cases h1:z<0
 ·go_wp2_with (go_at_call 42;refine(Dj _ s _ HSM.out HX.out).mono ?_;rintro e w1 ⟨rfl,hb1⟩;rw[HC.out];obtain⟨x0,x1,x2,x3,x4,x5,x6⟩:=st7 (hP.keep hb1);have hR1:=hR.keep hb1;have g0:=hR1.frozen 0;have g1:=hR1.frozen 1;have g2:=hR1.frozen 2;have g3:=hR1.frozen 3;have g4:=hR1.frozen 4;have g5:=hR1.frozen 5;have g6:=hR1.frozen 6;obtain⟨q0,q1,q2,q3,q4,q5,q6⟩:=st7 hR1)
  all_goals obtain⟨s0,s1,s2,s3,s4,s5,s6⟩:=st7 (((((((hR1.set_ 0 (.string ⟨#[]⟩)).set_ 1 (.slice none 0 0)).set_ 2 (.int .i64 0)).set_ 3 (.slice none 0 0)).set_ 4 (.slice none 0 0)).set_ 5 (.slice none 0 0)).set_ 6 (.bool false))
  all_goals exact bodyPost_ret (v:=.tuple #[.slice none 0 0,.agg Zn,.int .i64 3]) (by simp[results,Tryz.results28,go_sem,s0,s1,s2,s3,s4,s5,s6,Zn]) rfl (R5.none_ (by decide) (Afb (Ao hbX hb1) (by omega) _ _ _ _ _ _ _))
 ·obtain⟨z,rfl⟩:∃j:Nat,z=j:=⟨z.toNat,by omega⟩
  by_cases h2:(n1:Int)<=(z:Int)
  ·go_wp2_with (go_at_call 42;refine(Dj _ s _ HSM.out HX.out).mono ?_;rintro e w1 ⟨rfl,hb1⟩;rw[HC.out];obtain⟨x0,x1,x2,x3,x4,x5,x6⟩:=st7 (hP.keep hb1);have hR1:=hR.keep hb1;have g0:=hR1.frozen 0;have g1:=hR1.frozen 1;have g2:=hR1.frozen 2;have g3:=hR1.frozen 3;have g4:=hR1.frozen 4;have g5:=hR1.frozen 5;have g6:=hR1.frozen 6;obtain⟨q0,q1,q2,q3,q4,q5,q6⟩:=st7 hR1)
   all_goals obtain⟨s0,s1,s2,s3,s4,s5,s6⟩:=st7 (((((((hR1.set_ 0 (.string ⟨#[]⟩)).set_ 1 (.slice none 0 0)).set_ 2 (.int .i64 0)).set_ 3 (.slice none 0 0)).set_ 4 (.slice none 0 0)).set_ 5 (.slice none 0 0)).set_ 6 (.bool false))
   all_goals exact bodyPost_ret (v:=.tuple #[.slice none 0 0,.agg Zn,.int .i64 3]) (by simp[results,Tryz.results28,go_sem,s0,s1,s2,s3,s4,s5,s6,Zn]) rfl (R5.none_ (by decide) (Afb (Ao hbX hb1) (by omega) _ _ _ _ _ _ _))
  ·by_cases h3:u<0
   ·go_wp2_with (go_at_call 42;refine(Dj _ s _ HSM.out HX.out).mono ?_;rintro e w1 ⟨rfl,hb1⟩;rw[HC.out];obtain⟨x0,x1,x2,x3,x4,x5,x6⟩:=st7 (hP.keep hb1);have hR1:=hR.keep hb1;have g0:=hR1.frozen 0;have g1:=hR1.frozen 1;have g2:=hR1.frozen 2;have g3:=hR1.frozen 3;have g4:=hR1.frozen 4;have g5:=hR1.frozen 5;have g6:=hR1.frozen 6;obtain⟨q0,q1,q2,q3,q4,q5,q6⟩:=st7 hR1)
    all_goals obtain⟨s0,s1,s2,s3,s4,s5,s6⟩:=st7 (((((((hR1.set_ 0 (.string ⟨#[]⟩)).set_ 1 (.slice none 0 0)).set_ 2 (.int .i64 0)).set_ 3 (.slice none 0 0)).set_ 4 (.slice none 0 0)).set_ 5 (.slice none 0 0)).set_ 6 (.bool false))
    all_goals exact bodyPost_ret (v:=.tuple #[.slice none 0 0,.agg Zn,.int .i64 3]) (by simp[results,Tryz.results28,go_sem,s0,s1,s2,s3,s4,s5,s6,Zn]) rfl (R5.none_ (by decide) (Afb (Ao hbX hb1) (by omega) _ _ _ _ _ _ _))
   ·obtain⟨u,rfl⟩:∃j:Nat,u=j:=⟨u.toNat,by omega⟩
    have h4:(n4:Int)<=(u:Int):=by omega
    go_wp2_with (go_at_call 42;refine(Dj _ s _ HSM.out HX.out).mono ?_;rintro e w1 ⟨rfl,hb1⟩;rw[HC.out];obtain⟨x0,x1,x2,x3,x4,x5,x6⟩:=st7 (hP.keep hb1);have hR1:=hR.keep hb1;have g0:=hR1.frozen 0;have g1:=hR1.frozen 1;have g2:=hR1.frozen 2;have g3:=hR1.frozen 3;have g4:=hR1.frozen 4;have g5:=hR1.frozen 5;have g6:=hR1.frozen 6;obtain⟨q0,q1,q2,q3,q4,q5,q6⟩:=st7 hR1)
    all_goals obtain⟨s0,s1,s2,s3,s4,s5,s6⟩:=st7 (((((((hR1.set_ 0 (.string ⟨#[]⟩)).set_ 1 (.slice none 0 0)).set_ 2 (.int .i64 0)).set_ 3 (.slice none 0 0)).set_ 4 (.slice none 0 0)).set_ 5 (.slice none 0 0)).set_ 6 (.bool false))
    all_goals exact bodyPost_ret (v:=.tuple #[.slice none 0 0,.agg Zn,.int .i64 3]) (by simp[results,Tryz.results28,go_sem,s0,s1,s2,s3,s4,s5,s6,Zn]) rfl (R5.none_ (by decide) (Afb (Ao hbX hb1) (by omega) _ _ _ _ _ _ _))
theorem Ak9 (vs:Array Value) (s:StyleP) (z u:Nat) (w:World) (hsm:SmS s) (hv:StV w vs s) (h:Bt s=0) (hz:z<s.sz.length) (hu:u<s.us.length):Calls Tryz.prog 28 #[.agg vs,.int .i64 (z:Int),.int .i64 (u:Int)] w (R5 w (Cn (Cl s u) (gi s.mu z)) (Cl s u)):=by
 have HC:=Lib.hid h;have HSM:=Lib.hid hsm;obtain⟨k1,k2⟩:=Wv h;have k3:=k2 u hu;have HU:=Lib.hid k3;have HM:=Lib.hid k1;have hz2:z<s.mu.length:=by omega
 have y1:=hsm.sz;have y3:=hsm.pc;have y4:=hsm.us;clear h hsm k1 k2 k3;have hv0:=hv;obtain⟨A1,c1,A2,c2,A3,c3,A4,c4,A5,c5,A6,c6,rfl,⟨v1,v2,v3⟩,⟨v4,v5,v6⟩,⟨v7,v8,v9⟩,⟨v10,v11,v12⟩,⟨v13,v14,v15⟩,v16,v17⟩:=hv;go_enter Tryz.func28,Tryz.ntmps28;go_upto_region 1 with fail;refine Ar (fun X=>Below w.heap.size w X/\Bb X w.heap.size 29 #[.string s.nm,.slice A1 s.sz.length c1,.slice A2 s.mu.length c2,.slice A3 s.pc.length c3,.slice A4 s.us.length c4,.slice A5 s.se.length c5,.slice A6 s.no c6]/\Bb X (w.heap.size+1) 64 #[.string ⟨#[]⟩,.slice none 0 0,.int .i64 0,.slice none 0 0,.slice none 0 0,.slice none 0 0,.bool false]) ⟨An (An (Below.refl _ _) _) _,(Bb.new _ _ _).alloc _,Bb.new2 _ _ _ _⟩ ?_
 rintro X ⟨hbX,hP,hR⟩;obtain⟨p0,p1,p2,p3,p4,p5,p6⟩:=st7 hP;have HX:=Lib.hid (hv0.keep hbX);have v6X:=v6.keep hbX;have v12X:=v12.keep hbX;have HUX:=Lib.hid HU.out;obtain⟨n1,hn1⟩:∃n,s.sz.length=n:=⟨_,rfl⟩
 obtain⟨n2,hn2⟩:∃n,s.mu.length=n:=⟨_,rfl⟩
 obtain⟨n3,hn3⟩:∃n,s.pc.length=n:=⟨_,rfl⟩
 obtain⟨n4,hn4⟩:∃n,s.us.length=n:=⟨_,rfl⟩
 rw[hn1,hn2,hn3,hn4] at HX hP;rw[hn1] at p1 hz y1 v1;rw[hn2] at p2 hz2 v6X v4;rw[hn3] at p3 v9 HUX v7 y3;rw[hn4] at p4 hu v12X v10 y4;clear hn1 hn2 hn3 hn4 hv0 v3 v6 v12 v15;have B1:(z:Int)<(n1:Int):=by omega
 have B2:(u:Int)<(n4:Int):=by omega
 have B3:(z:Int)<(n2:Int):=by omega
 have hP0:=hP;have hR0:=hR
 go_upto_region 6 with (go_at_call 42;refine(Dj _ s _ HSM.out HX.out).mono ?_;rintro e w1 ⟨rfl,hb1⟩;rw[HC.out];obtain⟨x0,x1,x2,x3,x4,x5,x6⟩:=st7 (hP0.keep hb1))
 have hP1:=hP.keep hb1;have hR1:=hR.keep hb1;have v6W:=v6X.keep hb1;have v12W:=v12X.keep hb1;have hbW:=Ao hbX hb1;clear x0 x1 x2 x3 x4 x5 x6 p0 p1 p2 p3 p4 p5 p6 hP hP0 hR hR0 v6X v12X hb1;obtain⟨b2,o2,rfl,e2⟩:=v6W.at_ hz2;obtain⟨b4,o4,rfl,e4,-,-⟩:=v12W.at_ hu;obtain⟨i,hi⟩:∃i:Nat,(use s.us u).pc=i:=⟨(use s.us u).pc.toNat,by have:=HUX.out;omega⟩
 have hi3:i<n3:=by have:=HUX.out.2.1;rw[hi] at this;omega
 have HPO:=Lib.hid (show Cl s u=pce s.pc i by unfold Cl;rw[show ((u:Int)).toNat=u by omega,hi];rfl)
 rw[hi] at e4;obtain⟨b3,o3,rfl,vs2,hvs2,hc⟩:=v9.at_ hi3;obtain⟨pk,hpk⟩:∃p,pce s.pc i=p:=⟨_,rfl⟩
 rw[hpk] at hvs2 HPO;obtain⟨E1,d1,E2,d2,E3,d3,E4,d4,rfl,hvr⟩:=hvs2;have hpv0:PcV w #[.string pk.nm,.slice E1 pk.ed.length d1,.int .i64 pk.gr,.slice E2 pk.nt.length d2,.slice E3 pk.cr.length d3,.slice E4 pk.wd.length d4,.bool pk.mt] pk:=⟨E1,d1,E2,d2,E3,d3,E4,d4,rfl,hvr⟩;have hpv:=hpv0.keep hbW;have k0:=Aq hbW (hc 0 _ rfl);rw[Nat.add_zero] at k0;have k1:=Aq hbW (hc 1 _ rfl);have k2:=Aq hbW (hc 2 _ rfl);have k3:=Aq hbW (hc 3 _ rfl);have k4:=Aq hbW (hc 4 _ rfl);have k5:=Aq hbW (hc 5 _ rfl);have k6:=Aq hbW (hc 6 _ rfl);have HMU:Hid (gi s.mu z=gi s.mu z):=Lib.hid rfl;obtain⟨mm,hmm⟩:∃m,gi s.mu z=m:=⟨_,rfl⟩
 rw[hmm] at e2 ⊢;have HMM:=Lib.hid hmm;have B4:(i:Int)<(n3:Int):=by omega
 clear hc hpk hi hmm hvr HMU v6W v9 v12W
 have KF:∀W',Below w1.heap.size w1 W'->(W'.cell? ⟨w.heap.size,2,none⟩=some (.slice (some ⟨b2,o2,none⟩) n2 c2)/\W'.cell? ⟨w.heap.size,3,none⟩=some (.slice (some ⟨b3,o3,none⟩) n3 c3)/\W'.cell? ⟨w.heap.size,4,none⟩=some (.slice (some ⟨b4,o4,none⟩) n4 c4)/\W'.cell? ⟨b4,o4+u*3,none⟩=some (.int .i64 (i:Int))/\W'.cell? ⟨b2,o2+z,none⟩=some (.int .i64 mm)/\W'.cell? ⟨b3,o3+i*7,none⟩=some (.string pk.nm)/\W'.cell? ⟨b3,o3+i*7+1,none⟩=some (.slice E1 pk.ed.length d1)/\W'.cell? ⟨b3,o3+i*7+2,none⟩=some (.int .i64 pk.gr)/\W'.cell? ⟨b3,o3+i*7+3,none⟩=some (.slice E2 pk.nt.length d2)/\W'.cell? ⟨b3,o3+i*7+4,none⟩=some (.slice E3 pk.cr.length d3)/\W'.cell? ⟨b3,o3+i*7+5,none⟩=some (.slice E4 pk.wd.length d4)/\W'.cell? ⟨b3,o3+i*7+6,none⟩=some (.bool pk.mt)):=fun W' hb=>by
  obtain⟨-,-,j2,j3,j4,-,-⟩:=st7 (hP1.keep hb);exact⟨j2,j3,j4,Aq hb e4,Aq hb e2,Aq hb k0,Aq hb k1,Aq hb k2,Aq hb k3,Aq hb k4,Aq hb k5,Aq hb k6⟩
 have hbD:=Aw (Below.refl w1.heap.size w1);clear e2 e4 k0 k1 k2 k3 k4 k5 k6;go_cut [10] (fun v10 wx=>v10=.pointer (some ⟨w1.heap.size,0,none⟩)/\Below w1.heap.size w1 wx/\Bb wx w1.heap.size 64 #[.string pk.nm,.slice E1 pk.ed.length d1,.int .i64 pk.gr,.slice E2 pk.nt.length d2,.slice E3 pk.cr.length d3,.slice E4 pk.wd.length d4,.bool pk.mt])
 case first =>
  go_region_held3 (fun W'=>W'.cell? ⟨w.heap.size,2,none⟩=some (.slice (some ⟨b2,o2,none⟩) n2 c2)/\W'.cell? ⟨w.heap.size,3,none⟩=some (.slice (some ⟨b3,o3,none⟩) n3 c3)/\W'.cell? ⟨w.heap.size,4,none⟩=some (.slice (some ⟨b4,o4,none⟩) n4 c4)/\W'.cell? ⟨b4,o4+u*3,none⟩=some (.int .i64 (i:Int))/\W'.cell? ⟨b2,o2+z,none⟩=some (.int .i64 mm)/\W'.cell? ⟨b3,o3+i*7,none⟩=some (.string pk.nm)/\W'.cell? ⟨b3,o3+i*7+1,none⟩=some (.slice E1 pk.ed.length d1)/\W'.cell? ⟨b3,o3+i*7+2,none⟩=some (.int .i64 pk.gr)/\W'.cell? ⟨b3,o3+i*7+3,none⟩=some (.slice E2 pk.nt.length d2)/\W'.cell? ⟨b3,o3+i*7+4,none⟩=some (.slice E3 pk.cr.length d3)/\W'.cell? ⟨b3,o3+i*7+5,none⟩=some (.slice E4 pk.wd.length d4)/\W'.cell? ⟨b3,o3+i*7+6,none⟩=some (.bool pk.mt))
   (first
    | with_reducible exact KF _ hbD
    | with_reducible exact KF _ (Aw (An (Below.refl _ _) _)))
   (fail)
  all_goals go_wp2_with fail
  all_goals go_meet
  all_goals exact⟨rfl,Aw (An (Below.refl _ _) _),Bb.drew (Bb.new _ _ _)⟩
 case rest =>
  obtain⟨rfl,hbY,hQ⟩:=hcut;have hpvY:=hpv.keep hbY;have hP2:=hP1.keep hbY;have hR2:=hR1.keep hbY;have hRlt:=hR2.lt;have e2Y:=(KF _ hbY).2.2.2.2.1;have hbWY:=Ao hbW hbY;have hBQ:w.heap.size<=w1.heap.size:=hbW.size;obtain⟨BQ,hBQe⟩:∃B,w1.heap.size=B:=⟨_,rfl⟩
  rw[hBQe] at hQ hBQ ⊢
  have KF2:∀W',Below wc.heap.size wc W'->(W'.cell? ⟨BQ,0,none⟩=some (.string pk.nm)/\W'.cell? ⟨BQ,1,none⟩=some (.slice E1 pk.ed.length d1)/\W'.cell? ⟨BQ,2,none⟩=some (.int .i64 pk.gr)/\W'.cell? ⟨BQ,3,none⟩=some (.slice E2 pk.nt.length d2)/\W'.cell? ⟨BQ,4,none⟩=some (.slice E3 pk.cr.length d3)/\W'.cell? ⟨BQ,5,none⟩=some (.slice E4 pk.wd.length d4)/\W'.cell? ⟨BQ,6,none⟩=some (.bool pk.mt)/\W'.cell? ⟨w.heap.size,2,none⟩=some (.slice (some ⟨b2,o2,none⟩) n2 c2)/\W'.cell? ⟨b2,o2+z,none⟩=some (.int .i64 mm)):=fun W' hb=>by
   obtain⟨j0,j1,j2,j3,j4,j5,j6⟩:=pc7 (hQ.keep hb);exact⟨j0,j1,j2,j3,j4,j5,j6,(st7 (hP2.keep hb)).2.2.1,Aq hb e2Y⟩
  have hbE:=Aw (Below.refl wc.heap.size wc);clear hpv hP1 hR1 KF hbD hbW hbY e2Y hBQe;go_upto_region 7 with fail
  go_region_held3 (fun W'=>W'.cell? ⟨BQ,0,none⟩=some (.string pk.nm)/\W'.cell? ⟨BQ,1,none⟩=some (.slice E1 pk.ed.length d1)/\W'.cell? ⟨BQ,2,none⟩=some (.int .i64 pk.gr)/\W'.cell? ⟨BQ,3,none⟩=some (.slice E2 pk.nt.length d2)/\W'.cell? ⟨BQ,4,none⟩=some (.slice E3 pk.cr.length d3)/\W'.cell? ⟨BQ,5,none⟩=some (.slice E4 pk.wd.length d4)/\W'.cell? ⟨BQ,6,none⟩=some (.bool pk.mt)/\W'.cell? ⟨w.heap.size,2,none⟩=some (.slice (some ⟨b2,o2,none⟩) n2 c2)/\W'.cell? ⟨b2,o2+z,none⟩=some (.int .i64 mm))
   (with_reducible exact KF2 _ hbE)
   ((go_at_call 48;(with_reducible refine(Cc _ pk mm _ (hpvY.keep hbE)).mono ?_);rintro e w5 ⟨A7,c7,rfl,⟨i1,i4⟩,i2,-,hb5⟩;replace hbE:=Ao hbE hb5))
  have hQ5:=hQ.keep hbE;have hR5:=hR2.keep hbE;obtain⟨j0,j1,j2,j3,j4,j5,j6⟩:=pc7 hQ5;have g0:=hR5.frozen 0;have g1:=hR5.frozen 1;have g2:=hR5.frozen 2;have g3:=hR5.frozen 3;have g4:=hR5.frozen 4;have g5:=hR5.frozen 5;have g6:=hR5.frozen 6;obtain⟨q0,q1,q2,q3,q4,q5,q6⟩:=st7 hR5;have hpv5:=hpvY.keep hbE;have hbW5:=Ao hbWY hbE;obtain⟨G,hG⟩:∃G,Cn pk mm=G:=⟨_,rfl⟩
  have HG:=Lib.hid hG;rw[hG] at i1 i4 ⊢;clear KF2 hbE hQ hR2 hP2 hpvY hbWY;go_wp2_with fail
  go_region
  all_goals go_wp2_with fail
  obtain⟨s0,s1,s2,s3,s4,s5,s6⟩:=st7 (Bb.drew (((((((hR5.set_ 0 (.string pk.nm)).set_ 1 (.slice E1 pk.ed.length d1)).set_ 2 (.int .i64 pk.gr)).set_ 3 (.slice E2 pk.nt.length d2)).set_ 4 (.slice E3 pk.cr.length d3)).set_ 5 (.slice E4 pk.wd.length d4)).set_ 6 (.bool pk.mt)));have hbZ:=Aw (Afb hbW5 (show w.heap.size<=w.heap.size+1 by omega) (.string pk.nm) (.slice E1 pk.ed.length d1) (.int .i64 pk.gr) (.slice E2 pk.nt.length d2) (.slice E3 pk.cr.length d3) (.slice E4 pk.wd.length d4) (.bool pk.mt))
  have hlt:w.heap.size+1<wc.drew.heap.size:=hRlt;refine bodyPost_ret (v:=.tuple #[.slice A7 G.1.length c7,.agg #[.string pk.nm,.slice E1 pk.ed.length d1,.int .i64 pk.gr,.slice E2 pk.nt.length d2,.slice E3 pk.cr.length d3,.slice E4 pk.wd.length d4,.bool pk.mt],.int .i64 G.2]) (by simp[results,Tryz.results28,go_sem,s0,s1,s2,s3,s4,s5,s6]) rfl ?_
  rw[HPO.out,HMM.out,HG.out];refine⟨A7,c7,_,pk,rfl,i1,i2,(i4.keepAbove fun k hk=>?_).edsA,hpv0.keep hbZ,fun _=>rfl,hbZ⟩
  have hne:k≠w.heap.size+1:=by omega
  exact Ajs w5 (w.heap.size+1) _ _ _ _ _ _ _ hne
theorem Xt (vs:Array Value) (s:StyleP) (z u:Int) (w:World) (hsm:SmS s) (hv:StV w vs s):Calls Tryz.prog 28 #[.agg vs,.int .i64 z,.int .i64 u] w (R5 w (Ki s z u) (Cl s u)):=by
 unfold Ki;by_cases h:Bt s=0
 ·rw[if_neg (by rw[h];simp)]
  by_cases hb:z<0\/(s.sz.length:Int)<=z\/u<0\/(s.us.length:Int)<=u
  ·rw[if_pos hb];exact Ala vs s z u w hsm hv h hb
  ·rw[if_neg hb]
   obtain⟨z,rfl⟩:∃j:Nat,z=j:=⟨z.toNat,by omega⟩
   obtain⟨u,rfl⟩:∃j:Nat,u=j:=⟨u.toNat,by omega⟩
   rw[Int.toNat_natCast];exact Ak9 vs s z u w hsm hv h (by omega) (by omega)
 ·rw[if_pos h];exact Alb vs s z u w hsm hv h
end Go.Proofs.YtpbchbcdgikonaaGreat
