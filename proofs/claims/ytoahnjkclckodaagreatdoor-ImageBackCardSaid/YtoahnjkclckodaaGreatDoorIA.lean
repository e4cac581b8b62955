/- Parts of one proof, joined; conditions stand in each theorem. -/
import Derived.Test.YtoahnjkclckodaaGreatDoorNB
open Bool renaming true→tT,false→ur
open Decidable renaming decide→wj
namespace Go.Proofs.YtoahnjkclckodaaGreatDoor
open Go.RowKit
structure ai where
 id:Int
 u:Int
 c:List aE
structure io where
 a:Int
 b:List Int
structure eb where
 h:Int
 u:Int
 a:List ai
 b:List aE
structure dM where
 id:Int
 b:Int
 a:eb
structure au where
 c:ByteArray
 g:Int
 a:List ai
 d:List io
 e:List dM
 h:Int
def au.none:au:=⟨⟨#[]⟩,0,[],[],[],0⟩
def beB:Nat→Int→List UInt8
 | 0,_=>[]
 | k+1,n=>UInt8.ofNat ((n / 256 ^ k) % 256).toNat::beB k n
def cz(s:ByteArray):List UInt8:=beB 4 s.size++s.data.toList
def fp(v:aE):List UInt8:=UInt8.ofNat (v.q % 256).toNat::(if v.q=1 then beB 8 v.u else if v.q=2 then cz v.h else [])
def gV(l:List aE):List UInt8:=beB 4 l.length++l.flatMap fp
def bD(f:ai):List UInt8:=beB 8 f.id++beB 8 f.u++gV f.c
def cQ(r:eb):List UInt8:=beB 8 r.h++beB 8 r.u++beB 4 r.a.length++r.a.flatMap bD++gV r.b
def fu(t:io):List UInt8:=beB 8 t.a++beB 8 t.b.length++t.b.flatMap (beB 8)
def fc(s:dM):List UInt8:=beB 8 s.id++beB 8 s.b++cQ s.a
def bV(m:au):List UInt8:=
 cz m.c++beB 8 m.g++beB 8 m.a.length++m.a.flatMap bD++beB 8 m.d.length++m.d.flatMap fu++beB 8 m.h++beB 8 m.e.length++m.e.flatMap fc
abbrev WSt:=List UInt8×Bool
def aT(n:Nat) (s:WSt):List UInt8×WSt:=if s.2||decide (s.1.length<n) then ([],s.1,tT) else (s.1.take n,s.1.drop n,ur)
def iw(n:Int):Int:=if 9223372036854775808≤n % 18446744073709551616 then n % 18446744073709551616-18446744073709551616 else n % 18446744073709551616
def beI(l:List UInt8):Int:=l.foldl (fun n c=>iw (n*256+(c.toNat:Int))) 0
def aw(k:Nat) (s:WSt):Int×WSt:=(beI (aT k s).1,(aT k s).2)
def bf(s:WSt):Nat×WSt:=
 if (aw 4 s).2.2||decide (65536<(aw 4 s).1) then (0,(aw 4 s).2.1,tT) else ((aw 4 s).1.toNat,(aw 4 s).2)
def dO(s:WSt):ByteArray×WSt:=(⟨(aT (bf s).1 (bf s).2).1.toArray⟩,(aT (bf s).1 (bf s).2).2)
def bP(s:WSt):aE×WSt:=
 let k:=aw 1 s
 let r:aE×WSt:=if k.1=1 then (⟨k.1,(aw 8 k.2).1,⟨#[]⟩⟩,(aw 8 k.2).2) else if k.1=2 then (⟨k.1,0,(dO k.2).1⟩,(dO k.2).2) else (⟨k.1,0,⟨#[]⟩⟩,k.2.1,tT)
 (if r.2.2 then .zero else r.1,r.2)
def bQ{α:Type} (one:WSt→α×WSt):Nat→WSt→List α×WSt
 | 0,s=>([],s)
 | n+1,s=>if s.2 then ([],s) else ((one s).1::(bQ one n (one s).2).1,(bQ one n (one s).2).2)
def dp{α:Type} (one:WSt→α×WSt) (s:WSt):List α×WSt:=
 let r:=bQ one (bf s).1 (bf s).2
 (if r.2.2 then [] else r.1,r.2)
def eH(s:WSt):List aE×WSt:=dp bP s
def bT(s:WSt):ai×WSt:=
 let a:=aw 8 s
 let b:=aw 8 a.2
 let c:=eH b.2
 (if c.2.2 then ⟨0,0,[]⟩ else ⟨a.1,b.1,c.1⟩,c.2)
def dh(s:WSt):eb×WSt:=
 let a:=aw 8 s
 let b:=aw 8 a.2
 let c:=dp bT b.2
 let d:=eH c.2
 (if d.2.2 then ⟨0,0,[],[]⟩ else ⟨a.1,b.1,c.1,d.1⟩,d.2)
abbrev ISt:=WSt×Bool
def eE(most:Int) (s:ISt):Nat×ISt:=
 let a:=aw 8 s.1
 if a.1<0∨most<a.1 then (0,a.2,tT) else (a.1.toNat,a.2,s.2)
def co{α:Type} (one:ISt→α×ISt):Nat→ISt→List α×ISt
 | 0,s=>([],s)
 | n+1,s=>if (one s).2.1.2 then ([(one s).1],(one s).2) else ((one s).1::(co one n (one s).2).1,(co one n (one s).2).2)
def da{α:Type} (one:ISt→α×ISt) (most:Int) (s:ISt):List α×ISt:=co one (eE most s).1 (eE most s).2
def bL(s:ISt):Int×ISt:=((aw 8 s.1).1,(aw 8 s.1).2,s.2)
def eG:Nat→ISt→List Int×ISt
 | 0,s=>([],s)
 | n+1,s=>((bL s).1::(eG n (bL s).2).1,(eG n (bL s).2).2)
def fl(s:ISt):ai×ISt:=((bT s.1).1,(bT s.1).2,s.2)
def eD(s:ISt):io×ISt:=
 let a:=bL s
 let n:=eE 8 a.2
 let l:=eG n.1 n.2
 (⟨a.1,l.1⟩,l.2)
def dz(s:ISt):dM×ISt:=
 let a:=bL s
 let b:=bL a.2
 let r:=dh b.2.1
 (⟨a.1,b.1,r.1⟩,r.2,b.2.2)
def ei(s:ISt):au×ISt:=
 let a:=dO s.1
 let b:=bL (a.2,s.2)
 let c:=da fl 256 b.2
 let d:=da eD 4096 c.2
 let e:=bL d.2
 let f:=da dz 32 e.2
 (⟨a.1,b.1,c.1,d.1,f.1,e.1⟩,f.2)
def kU(f:ai):Bool:=wj (0≤f.u)&&wj (f.u<32)&&wj (f.c.length≤6)&&f.c.all dV
def lk(a b:aE):Bool:=a.q==b.q&&a.u==b.u&&a.h.data.toList==b.h.data.toList
def iK(a b:List aE):Bool:=a.length==b.length&&(a.zip b).all fun p=>lk p.1 p.2
def tM(l:List ai) (f:ai):Bool:=l.any fun g=>g.u==f.u&&iK g.c f.c
def gQ(next:Int):List ai→Int→List ai→Bool
 | _,_,[]=>tT
 | seen,last,f::l=>!(wj (f.id≤last)||decide (next≤f.id)||!kU f||tM seen f)&&gQ next (seen++[f]) f.id l
def eR(next:Int) (l:List ai):Bool:=wj (1≤next)&&wj (next≤1099511627777)&&wj (l.length≤256)&&gQ next [] 0 l
def mY(R:dc) (l:List ai):Bool:=l.all fun f=>wj (f.u<R.c.length)&&(((R.c[f.u.toNat]?).map am.a).getD 0==(f.c.length:Int))
def fR(R:dc) (l:List ai) (t:io):Bool:=
 wj (0≤t.a)&&wj (t.a<R.a.length)&&(t.b.all fun i=>l.any fun f=>f.id==i)&&(t.b.length==aK (((R.a[t.a.toNat]?).map aD.a).getD []))
def lL(R:dc) (m:au):Bool:=(m.d.all (fR R m.a))&&wj (m.d.length≤4096)
def dD(v:aE):Bool:=!((v.q==1&&!v.h.data.toList.isEmpty)||(v.q==2&&v.u != 0))
def jV(r:eb):Bool:=(r.a.all fun f=>f.c.all dD)&&r.b.all dD&&(let s:=(dh (cQ r,ur)).2;!s.2&&s.1.isEmpty)
def fX(next:Int):Int→List dM→Bool
 | _,[]=>tT
 | last,s::l=>!(wj (s.id≤last)||decide (next≤s.id)||decide (s.b<0)||!jV s.a)&&fX next s.id l
def jv(m:au):Bool:=fX m.h 0 m.e&&wj (1≤m.h)&&wj (m.h≤1099511627777)&&wj (m.e.length≤32)
def jH(src:ByteArray→Except Flt dc) (m:au):Bool:=
 match src m.c with
 | .error _=>ur
 | .ok R=>eR m.g m.a&&mY R m.a&&lL R m&&jv m
def gP(l:List UInt8):Int:=l.foldl (fun n c=>n*256+(c.toNat:Int)) 0
theorem pM:∀(l:List UInt8) (n:Int),l.foldl (fun n c=>n*256+(c.toNat:Int)) n=n*256 ^ l.length+gP l
 | [],n=>by simp[gP]
 | c::l,n=>by
  unfold gP;rw[List.foldl_cons,List.foldl_cons,pM l,pM l (0*256+_),Kf,Int.pow_succ,Int.add_mul];have:n*256*256 ^ l.length=n*(256 ^ l.length*256):=by rw[Int.mul_assoc,Int.mul_comm 256]
  rw[this,Int.zero_mul,Int.zero_add];omega
theorem mj(c:UInt8)(l:List UInt8):gP (c::l)=(c.toNat:Int)*256 ^ l.length+gP l:=by
 have:=pM l (0*256+(c.toNat:Int));unfold gP at this ⊢;rw[List.foldl_cons,this];simp
theorem rI(k:Nat):(0:Int)<256 ^ k:=Int.pow_pos (by decide)
theorem gZ:∀l:List UInt8,0≤gP l∧gP l<256 ^ l.length
 | []=>by simp[gP]
 | c::l=>by
  obtain⟨b,d⟩:=gZ l;have e:(c.toNat:Int)<256:=by have:=c.toNat_lt;omega
  have f:=rI l.length;rw[mj,Kf,Int.pow_succ];have g:(0:Int)≤(c.toNat:Int)*256 ^ l.length:=Int.mul_nonneg (by omega) (by omega);have a:((c.toNat:Int)+1)*256 ^ l.length≤256*256 ^ l.length:=Int.mul_le_mul_of_nonneg_right (by omega) (by omega);rw[Int.add_mul,Int.one_mul]at a;rw[Int.mul_comm (256 ^ l.length) 256];omega
theorem EL(n:Int):iw n % 18446744073709551616=n % 18446744073709551616:=by
 unfold iw
 split<;>omega
theorem xF:∀(l:List UInt8) (n m:Int),n % 18446744073709551616=m % 18446744073709551616→
  (l.foldl (fun n c=>iw (n*256+(c.toNat:Int))) n) % 18446744073709551616=(l.foldl (fun n c=>n*256+(c.toNat:Int)) m) % 18446744073709551616
 | [],_,_,h=>h
 | c::l,n,m,h=>by
  rw[List.foldl_cons,List.foldl_cons];refine xF l _ _ ?_;rw[EL];omega
theorem uf(l:List UInt8):beI l % 18446744073709551616=gP l % 18446744073709551616:=xF l 0 0 Z
theorem yZ(n:Int):-9223372036854775808≤iw n∧iw n<9223372036854775808:=by
 unfold iw
 split<;>omega
theorem vd:∀(l:List UInt8) (n:Int),(-9223372036854775808≤n∧n<9223372036854775808)→-9223372036854775808≤l.foldl (fun n c=>iw (n*256+(c.toNat:Int))) n∧l.foldl (fun n c=>iw (n*256+(c.toNat:Int))) n<9223372036854775808
 | [],_,h=>h
 | c::l,n,_=>by
  rw[List.foldl_cons];exact vd l _ (yZ _)
theorem gu(l:List UInt8):-9223372036854775808≤beI l∧beI l<9223372036854775808:=vd l 0 (by omega)
theorem Dm:∀(l:List UInt8) (n:Int),n % 256 ^ l.length=gP l % 256 ^ l.length→beB l.length n=l
 | [],_,_=>rfl
 | c::l,n,h=>by
  obtain⟨d,e⟩:=gZ l;obtain⟨f,g⟩:=gZ (c::l);have j:=rI l.length;have k:(c.toNat:Int)<256:=by have:=c.toNat_lt;omega
  rw[Int.emod_eq_of_lt f g,mj,Kf,Int.pow_succ]at h;have b:n=(c.toNat:Int)*256 ^ l.length+gP l+(256 ^ l.length*256)*(n / (256 ^ l.length*256)):=by
   have:=Int.mul_ediv_add_emod n (256 ^ l.length*256);omega
  generalize n / (256 ^ l.length*256)=q at b;have a:n=gP l+256 ^ l.length*((c.toNat:Int)+256*q):=by rw[b,Int.mul_add,Int.mul_comm (256 ^ l.length) (c.toNat:Int),Int.mul_assoc];omega
  have i:n / 256 ^ l.length=(c.toNat:Int)+256*q:=by rw[a,Int.add_mul_ediv_left _ _ (by omega),Int.ediv_eq_zero_of_lt d e];omega
  have hm:n % 256 ^ l.length=gP l % 256 ^ l.length:=by rw[a,Int.add_mul_emod_self_left]
  show UInt8.ofNat ((n / 256 ^ l.length) % 256).toNat::beB l.length n=c::l
  rw[Dm l n hm,i];have:((c.toNat:Int)+256*q) % 256=(c.toNat:Int):=by omega
  rw[this];simp
theorem aO:∀(k:Nat) (n:Int),(beB k n).length=k
 | 0,_=>rfl
 | k+1,n=>by simp[beB,aO k n]
theorem GG{a b:Int}{k:Nat}(d:k≤8)(h:a % 18446744073709551616=b % 18446744073709551616):a % 256 ^ k=b % 256 ^ k:=by
 have c:(256:Int) ^ k ∣ 18446744073709551616:=by
  refine⟨256 ^ (8-k),?_⟩;rw[←Int.pow_add];have:k+(8-k)=8:=by omega
  rw[this];rfl
 rw[←Int.emod_emod_of_dvd a c,h,Int.emod_emod_of_dvd b c]
theorem Is(l:List UInt8)(h:l.length≤8):beB l.length (beI l)=l:=Dm l _ (GG h (uf l))
theorem kH(l:List UInt8)(h:l.length≤7):beI l=gP l:=by
 have a:=uf l;obtain⟨b,c⟩:=gZ l;have d:=gu l;have e:(256:Int) ^ l.length≤72057594037927936:=(show ∀k∈List.range 8,(256:Int) ^ k≤72057594037927936 by decide) _ (List.mem_range.2 (by omega));omega
theorem nY{n:Nat}{s:WSt}{t:List UInt8}{s':WSt}(h:aT n s=(t,s'))(b:s'.2=ur):s.2=ur∧t++s'.1=s.1∧t.length=n:=by
 unfold aT at h
 split at h
 ·injection h with _ h;subst h;cases b
 ·rename_i a
  simp only[Bool.or_eq_true,oB,not_or]at a;injection h with c d
  subst c;subst d;refine⟨by simpa using a.1,List.take_append_drop n s.1,?_⟩;rw[List.length_take];omega
theorem dG{k:Nat}{s:WSt}(f:k≤8)(a:(aw k s).2.2=ur):s.2=ur∧beB k (aw k s).1++(aw k s).2.1=s.1:=by
 unfold aw at a ⊢;obtain⟨c,d,e⟩:=nY (n:=k) (s:=s) (s':=(aT k s).2) (t:=(aT k s).1) Z a;refine⟨c,?_⟩
 show beB k (beI (aT k s).1)++(aT k s).2.1=s.1
 have b:=Is (aT k s).1 (by omega);rw[e]at b;rw[b,d]
theorem mG{s:WSt}(a:(bf s).2.2=ur):s.2=ur∧beB 4 ((bf s).1:Nat)++(bf s).2.1=s.1:=by
 unfold bf at a ⊢
 split at a
 ·cases a
 ·rename_i b
  rw[oe b];obtain⟨c,d⟩:=dG (k:=4) (by omega) a;refine⟨c,?_⟩;have f:(aT 4 s).1.length=4:=(nY (n:=4) (s:=s) (s':=(aT 4 s).2) (t:=(aT 4 s).1) Z a).2.2;have e:0≤(aw 4 s).1:=by
   show 0≤beI (aT 4 s).1
   rw[kH _ (by omega)];exact (gZ _).1
  show beB 4 (((aw 4 s).1.toNat:Nat):Int)++(aw 4 s).2.1=s.1
  rw[Int.toNat_of_nonneg e];exact d
theorem nV{s:WSt}(a:(dO s).2.2=ur):s.2=ur∧cz (dO s).1++(dO s).2.1=s.1:=by
 obtain⟨b,c,d⟩:=nY (n:=(bf s).1) (s:=(bf s).2) (s':=(dO s).2) (t:=(aT (bf s).1 (bf s).2).1) Z a;obtain⟨e,f⟩:=mG b;refine⟨e,?_⟩;rw[←f,←c]
 show (beB 4 ((aT (bf s).1 (bf s).2).1.toArray.size:Nat)++(aT (bf s).1 (bf s).2).1.toArray.toList)++_=_
 rw[List.append_assoc,List.size_toArray,d]
theorem qc{s:WSt}(a:(bP s).2.2=ur):s.2=ur∧fp (bP s).1++(bP s).2.1=s.1:=by
 have g:∀s':WSt,(aw 1 s).2=s'→s'.2=ur→s.2=ur∧[UInt8.ofNat ((aw 1 s).1 % 256).toNat]++s'.1=s.1:=by
  intro s' e h;subst e;obtain⟨b,c⟩:=dG (k:=1) (by omega) h;refine⟨b,?_⟩;rw[←c];simp[beB]
 unfold bP at a ⊢;dsimp only at a ⊢
 by_cases b:(aw 1 s).1=1
 ·simp only[oj b]at a ⊢;obtain⟨a1,a2⟩:=dG (k:=8) (by omega) a;obtain⟨d,f⟩:=g _ Z a1;refine⟨d,?_⟩;rw[a];simp only[Ka,oF];unfold fp;simp only[b,oX];rw[←f,←a2,b];simp
 ·by_cases c:(aw 1 s).1=2
  ·simp only[oe b,oj c]at a ⊢;obtain⟨a1,a2⟩:=nV a;obtain⟨d,f⟩:=g _ Z a1;refine⟨d,?_⟩;rw[a];simp only[Ka,oF];unfold fp;simp only[c,oX];rw[←f,←a2,c];simp
  ·simp only[oe b,oe c]at a
   cases a
theorem my{α:Type}{one:WSt→α×WSt}{g:α→List UInt8}(b:∀s,(one s).2.2=ur→s.2=ur∧g (one s).1++(one s).2.1=s.1):∀(n:Nat) (s:WSt),(bQ one n s).2.2=ur→s.2=ur∧(bQ one n s).1.flatMap g++(bQ one n s).2.1=s.1∧(bQ one n s).1.length=n
 | 0,s,h=>⟨h,Z,Z⟩
 | n+1,s,h=>by
  unfold bQ at h ⊢
  split at h
  ·rename_i a;rw[a]at h;cases h
  ·rename_i a
   rw[oe a];obtain⟨c,d,e⟩:=my b n (one s).2 h;obtain⟨f,i⟩:=b s c;refine⟨f,?_,by simp[e]⟩
   show ((one s).1::(bQ one n (one s).2).1).flatMap g++_=_
   rw[List.flatMap_cons,List.append_assoc,d,i]
theorem oz{α:Type}{one:WSt→α×WSt}{g:α→List UInt8}(b:∀s,(one s).2.2=ur→s.2=ur∧g (one s).1++(one s).2.1=s.1){s:WSt}(a:(dp one s).2.2=ur):s.2=ur∧beB 4 ((dp one s).1.length:Nat)++(dp one s).1.flatMap g++(dp one s).2.1=s.1:=by
 unfold dp at a ⊢;dsimp only at a ⊢;obtain⟨c,d,e⟩:=my b _ _ a;obtain⟨f,h⟩:=mG c;refine⟨f,?_⟩;rw[a];simp only[Ka,oF];rw[e,List.append_assoc,d,h]
theorem j3{s:WSt}(a:(eH s).2.2=ur):s.2=ur∧gV (eH s).1++(eH s).2.1=s.1:=oz (g:=fp) (fun _ h=>qc h) a
theorem jO{s:WSt}(a:(bT s).2.2=ur):s.2=ur∧bD (bT s).1++(bT s).2.1=s.1:=by
 unfold bT at a ⊢;dsimp only at a ⊢;obtain⟨b,c⟩:=j3 a;obtain⟨d,e⟩:=dG (k:=8) (by omega) b;obtain⟨f,g⟩:=dG (k:=8) (by omega) d;refine⟨f,?_⟩;rw[a];simp only[Ka,oF];unfold bD;simp only[List.append_assoc];rw[c,e,g]
theorem rx{s:WSt}(a:(dh s).2.2=ur):s.2=ur∧cQ (dh s).1++(dh s).2.1=s.1:=by
 unfold dh at a ⊢;dsimp only at a ⊢;obtain⟨c,d⟩:=j3 a;obtain⟨e,b⟩:=oz (g:=bD) (fun _ h=>jO h) c;obtain⟨f,i⟩:=dG (k:=8) (by omega) e;obtain⟨j,l⟩:=dG (k:=8) (by omega) f;refine⟨j,?_⟩;rw[a];simp only[Ka,oF];unfold cQ;simp only[List.append_assoc]at b ⊢;rw[d,b,i,l]
def ok2(s:ISt):Prop:=s.1.2=ur∧s.2=ur
theorem gG{s:ISt}(a:ok2 (bL s).2):ok2 s∧beB 8 (bL s).1++(bL s).2.1.1=s.1.1:=by
 obtain⟨b,c⟩:=dG (k:=8) (by omega) a.1;exact⟨⟨b,a.2⟩,c⟩
theorem om{most:Int}{s:ISt}(a:ok2 (eE most s).2):ok2 s∧beB 8 ((eE most s).1:Nat)++(eE most s).2.1.1=s.1.1:=by
 unfold eE at a ⊢;dsimp only at a ⊢
 split at a
 ·exact absurd a.2 (by simp)
 ·rename_i b
  rw[oe b];obtain⟨c,d⟩:=dG (k:=8) (by omega) a.1;refine⟨⟨c,a.2⟩,?_⟩
  show beB 8 (((aw 8 s.1).1.toNat:Nat):Int)++_=_
  rw[Int.toNat_of_nonneg (by omega)];exact d
theorem lq{α:Type}{one:ISt→α×ISt}{g:α→List UInt8}(b:∀s,ok2 (one s).2→ok2 s∧g (one s).1++(one s).2.1.1=s.1.1):∀(n:Nat) (s:ISt),ok2 (co one n s).2→ok2 s∧(co one n s).1.flatMap g++(co one n s).2.1.1=s.1.1∧(co one n s).1.length=n
 | 0,s,h=>⟨h,Z,Z⟩
 | n+1,s,h=>by
  unfold co at h ⊢
  split at h
  ·rename_i a
   have:=h.1;rw[show (([(one s).1],(one s).2):List α×ISt).2=(one s).2 from rfl,a]at this
   cases this
  ·rename_i a
   rw[oe a];obtain⟨c,d,e⟩:=lq b n (one s).2 h;obtain⟨f,i⟩:=b s c;refine⟨f,?_,by simp[e]⟩
   show ((one s).1::(co one n (one s).2).1).flatMap g++_=_
   rw[List.flatMap_cons,List.append_assoc,d,i]
theorem mT{α:Type}{one:ISt→α×ISt}{g:α→List UInt8}(b:∀s,ok2 (one s).2→ok2 s∧g (one s).1++(one s).2.1.1=s.1.1){most:Int}{s:ISt}(a:ok2 (da one most s).2):ok2 s∧beB 8 ((da one most s).1.length:Nat)++(da one most s).1.flatMap g++(da one most s).2.1.1=s.1.1:=by
 unfold da at a ⊢;obtain⟨c,d,e⟩:=lq b _ _ a;obtain⟨f,h⟩:=om c;refine⟨f,?_⟩;rw[e,List.append_assoc,d,h]
theorem qZ{s:ISt}(a:ok2 (fl s).2):ok2 s∧bD (fl s).1++(fl s).2.1.1=s.1.1:=by
 obtain⟨b,c⟩:=jO a.1;exact⟨⟨b,a.2⟩,c⟩
theorem rc:∀(n:Nat) (s:ISt),ok2 (eG n s).2→ok2 s∧(eG n s).1.flatMap (beB 8)++(eG n s).2.1.1=s.1.1∧(eG n s).1.length=n
 | 0,s,h=>⟨h,Z,Z⟩
 | n+1,s,h=>by
  unfold eG at h ⊢;obtain⟨a,b,c⟩:=rc n (bL s).2 h;obtain⟨d,e⟩:=gG a;refine⟨d,?_,by simp[c]⟩;rw[List.flatMap_cons,List.append_assoc,b,e]
theorem ol{s:ISt}(a:ok2 (eD s).2):ok2 s∧fu (eD s).1++(eD s).2.1.1=s.1.1:=by
 unfold eD at a ⊢;dsimp only at a ⊢;obtain⟨b,c,d⟩:=rc _ _ a;obtain⟨e,f⟩:=om b;obtain⟨g,h⟩:=gG e;refine⟨g,?_⟩;unfold fu;rw[d];simp only[List.append_assoc];rw[c,f,h]
theorem rb{s:ISt}(a:ok2 (dz s).2):ok2 s∧fc (dz s).1++(dz s).2.1.1=s.1.1:=by
 unfold dz at a ⊢;dsimp only at a ⊢;obtain⟨b,c⟩:=rx a.1;obtain⟨d,e⟩:=gG (s:=(bL s).2) ⟨b,a.2⟩;obtain⟨f,g⟩:=gG d;refine⟨f,?_⟩;unfold fc;simp only[List.append_assoc];rw[c,e,g]
def i64(n:Int):Prop:=-9223372036854775808≤n∧n<9223372036854775808
theorem byte_of{n:Int}(a:0≤n)(b:n<256):((UInt8.ofNat n.toNat).toNat:Int)=n:=by
 rw[UInt8.toNat_ofNat'];omega
theorem ry:∀(k:Nat) (n:Int),gP (beB k n)=n % 256 ^ k
 | 0,n=>by simp[beB,gP,Int.emod_one]
 | k+1,n=>by
  have b:=rI k
  show gP (UInt8.ofNat ((n / 256 ^ k) % 256).toNat::beB k n)=_
  rw[mj,ry k n,aO,byte_of (by omega) (by omega),Int.pow_succ];have a:=Int.mul_ediv_add_emod n (256 ^ k);have e:=Int.emod_nonneg n (show (256:Int) ^ k≠0 by omega);have c:=Int.emod_lt_of_pos n b;generalize n / 256 ^ k=q at a ⊢;generalize n % 256 ^ k=r at a e c ⊢;generalize (256:Int) ^ k=p at b a c ⊢;have f:n=(q % 256*p+r)+(p*256)*(q / 256):=by
   have d:p*q=p*(256*(q / 256)+q % 256):=by rw[Int.mul_ediv_add_emod]
   rw[Int.mul_add,←Int.mul_assoc]at d;rw[←a,d,Int.mul_comm (q % 256) p];omega
  have h:0≤q % 256*p:=Int.mul_nonneg (by omega) (by omega);have g:(q % 256+1)*p≤256*p:=Int.mul_le_mul_of_nonneg_right (by omega) (by omega);rw[Int.add_mul,Int.one_mul,Int.mul_comm 256 p]at g;rw[f,Int.add_mul_emod_self_left];exact (Int.emod_eq_of_lt (by omega) (by omega)).symm
theorem Ha{n:Int}(h:i64 n):beI (beB 8 n)=n:=by
 have a:=uf (beB 8 n);rw[ry]at a;have c:=gu (beB 8 n);have b:(256:Int) ^ 8=18446744073709551616:=by decide
 rw[b]at a;unfold i64 at h;omega
theorem Gb{n:Nat}(h:n≤65536):beI (beB 4 n)=n:=by
 rw[kH _ (by rw[aO];omega),ry];have a:(256:Int) ^ 4=4294967296:=by decide
 rw[a];omega
theorem Eb(t l:List UInt8):aT t.length (t++l,ur)=(t,l,ur):=by
 unfold aT;rw[oe (by simp)];simp
theorem lh{k:Nat}(t l:List UInt8)(h:t.length=k):aT k (t++l,ur)=(t,l,ur):=by subst h;exact Eb t l
theorem eS{n:Int}(h:i64 n)(l:List UInt8):aw 8 (beB 8 n++l,ur)=(n,l,ur):=by
 unfold aw;rw[lh _ _ (aO 8 n),Ha h]
theorem oJ{n:Nat}(h:n≤65536)(l:List UInt8):bf (beB 4 n++l,ur)=(n,l,ur):=by
 have a:aw 4 (beB 4 n++l,ur)=((n:Int),l,ur):=by
  unfold aw;rw[lh _ _ (aO 4 n),Gb h]
 unfold bf;rw[a];simp;omega
theorem uP{s:ByteArray}(h:s.size≤65536)(l:List UInt8):dO (cz s++l,ur)=(s,l,ur):=by
 unfold dO cz;rw[List.append_assoc,oJ h];dsimp only;rw[lh _ _ (show s.data.toList.length=s.size from rfl)]
structure Cf (v:aE):Prop where
 q:0≤v.q∧v.q<256
 u:i64 v.u
 h:v.h.size≤65536
 bare:dD v=tT
theorem nil_text{s:ByteArray}(h:s.data.toList.isEmpty=tT):s=⟨#[]⟩:=by
 obtain⟨d⟩:=s;have a:d.toList=[]:=by simpa using h
 have:d=#[]:=by rw[←Array.toList_inj];simpa using a
 rw[this]
theorem byte_back{k:Int}(a:0≤k)(b:k<256)(l:List UInt8):aw 1 (UInt8.ofNat (k % 256).toNat::l,ur)=(k,l,ur):=by
 unfold aw;rw[show UInt8.ofNat (k % 256).toNat::l=[UInt8.ofNat (k % 256).toNat]++l from rfl,lh _ _ (show [UInt8.ofNat (k % 256).toNat].length=1 from rfl)];have c:k % 256=k:=by omega
 rw[c,kH _ (by simp),mj];simp only[List.length_nil,Int.pow_zero,Int.mul_one];rw[byte_of a b];simp[gP]
theorem yS{v:aE}(h:Cf v)(b:v.q=1∨v.q=2)(l:List UInt8):bP (fp v++l,ur)=(v,l,ur):=by
 obtain⟨⟨d,e⟩,f,g,c⟩:=h;obtain⟨k,n,t⟩:=v;unfold bP fp;rw[List.cons_append,byte_back d e];dsimp only at b ⊢;rcases b with rfl|rfl
 ·have a:t.data.toList.isEmpty=true:=by simpa [dD]using c
  simp only[oX];rw[eS f,nil_text a];simp
 ·have a:n=0:=by simpa [dD]using c
  subst a;simp only[show ¬(2:Int)=1 by decide,oF,oX];rw[uP g];simp
theorem yy{v:aE}(h:Cf v){l:List UInt8}(a:(bP (fp v++l,ur)).2.2=ur):v.q=1∨v.q=2:=by
 obtain⟨⟨d,e⟩,_,_,_⟩:=h;unfold bP fp at a;rw[List.cons_append,byte_back d e]at a;dsimp only at a
 by_cases b:v.q=1
 ·exact Or.inl b
 ·by_cases c:v.q=2
  ·exact Or.inr c
  ·simp[b,c]at a
theorem Ed{α:Type}{one:WSt→α×WSt}{g:α→List UInt8}:∀(xs:List α) (l:List UInt8),(∀x∈xs,∀l,one (g x++l,ur)=(x,l,ur))→bQ one xs.length (xs.flatMap g++l,ur)=(xs,l,ur)
 | [],l,_=>rfl
 | x::xs,l,h=>by
  rw[Kf,List.flatMap_cons,List.append_assoc];unfold bQ;rw[oe (by simp),h x List.mem_cons_self];dsimp only;rw[Ed xs l fun y a=>h y (List.mem_cons_of_mem _ a)]
theorem xH{α:Type}{one:WSt→α×WSt}{g:α→List UInt8}{P:α→Prop}(hm:∀s,(one s).2.2=ur→s.2=ur):∀(xs:List α) (l:List UInt8),(∀x∈xs,∀l,(one (g x++l,ur)).2.2=ur→P x∧one (g x++l,ur)=(x,l,ur))→
  (bQ one xs.length (xs.flatMap g++l,ur)).2.2=ur→(∀x∈xs,P x)∧bQ one xs.length (xs.flatMap g++l,ur)=(xs,l,ur)
 | [],l,_,_=>⟨fun x d=>(by cases d),Z⟩
 | x::xs,l,h,a=>by
  rw[Kf,List.flatMap_cons,List.append_assoc]at a ⊢;unfold bQ at a ⊢;rw[oe (by simp)]at a ⊢;have b:∀(n:Nat) (s:WSt),(bQ one n s).2.2=ur→s.2=false:=by
   intro n s
   cases n with
   | zero=>exact id
   | succ n =>
    intro h;unfold bQ at h
    split at h
    ·exact h
    ·rename_i e;simpa using e
  obtain⟨f,i⟩:=h x List.mem_cons_self _ (b _ _ a);rw[i]at a ⊢;dsimp only at a ⊢;obtain⟨j,k⟩:=xH hm xs l (fun y c=>h y (List.mem_cons_of_mem _ c)) a;rw[k]
  exact⟨fun y c=>by
   rcases Kk.1 c with rfl|c
   ·exact f
   ·exact j y c,Z⟩
theorem AI{α:Type}{one:WSt→α×WSt}{g:α→List UInt8}{xs:List α}(a:xs.length≤65536)(h:∀x∈xs,∀l,one (g x++l,ur)=(x,l,ur))(l:List UInt8):dp one (beB 4 (xs.length:Nat)++(xs.flatMap g++l),ur)=(xs,l,ur):=by
 unfold dp;rw[oJ a];dsimp only;rw[Ed xs l h];simp
theorem vJ{α:Type}{one:WSt→α×WSt}{g:α→List UInt8}{P:α→Prop}(hm:∀s,(one s).2.2=ur→s.2=ur){xs:List α}(b:xs.length≤65536){l:List UInt8}(h:∀x∈xs,∀l,(one (g x++l,ur)).2.2=ur→P x∧one (g x++l,ur)=(x,l,ur))
  (a:(dp one (beB 4 (xs.length:Nat)++(xs.flatMap g++l),ur)).2.2=ur):(∀x∈xs,P x)∧dp one (beB 4 (xs.length:Nat)++(xs.flatMap g++l),ur)=(xs,l,ur):=by
 unfold dp at a ⊢;rw[oJ b]at a ⊢;dsimp only at a ⊢;obtain⟨c,d⟩:=xH hm xs l h a;rw[d];exact⟨c,by simp⟩
def uG(v:aE):Prop:=v.q=1∨v.q=2
theorem Fy{v:aE}(h:Cf v){l:List UInt8}(a:(bP (fp v++l,ur)).2.2=ur):uG v∧bP (fp v++l,ur)=(v,l,ur):=⟨yy h a,yS h (yy h a) l⟩
structure sS (l:List aE):Prop where
 all:∀v∈l,Cf v
 few:l.length≤65536
theorem vN{vs:List aE}(h:sS vs)(b:∀v∈vs,uG v)(l:List UInt8):eH (gV vs++l,ur)=(vs,l,ur):=by
 unfold eH gV;rw[List.append_assoc];exact AI h.few (fun v a l=>yS (h.all v a) (b v a) l) l
theorem vz{vs:List aE}(h:sS vs){l:List UInt8}(a:(eH (gV vs++l,ur)).2.2=ur):(∀v∈vs,uG v)∧eH (gV vs++l,ur)=(vs,l,ur):=by
 unfold eH gV at a ⊢;rw[List.append_assoc]at a ⊢;exact vJ (fun s h=>(qc h).1) h.few (fun v b l a=>Fy (h.all v b) a) a
structure wS (f:ai):Prop where
 id:i64 f.id
 u:i64 f.u
 c:sS f.c
def qR(f:ai):Prop:=∀v∈f.c,uG v
theorem qd{f:ai}(h:wS f)(a:qR f)(l:List UInt8):bT (bD f++l,ur)=(f,l,ur):=by
 unfold bT bD;simp only[List.append_assoc];rw[eS h.id];dsimp only;rw[eS h.u];dsimp only;rw[vN h.c a];simp
theorem EN{f:ai}(h:wS f){l:List UInt8}(a:(bT (bD f++l,ur)).2.2=ur):qR f∧bT (bD f++l,ur)=(f,l,ur):=by
 have b:qR f:=by
  unfold bT bD at a;simp only[List.append_assoc]at a;rw[eS h.id]at a;dsimp only at a;rw[eS h.u]at a;exact (vz h.c a).1
 exact⟨b,qd h b l⟩
structure tL (r:eb):Prop where
 h:i64 r.h
 u:i64 r.u
 a:∀f∈r.a,wS f
 few:r.a.length≤65536
 b:sS r.b
def xP(r:eb):Prop:=(∀f∈r.a,qR f)∧∀v∈r.b,uG v
theorem Bg{r:eb}(h:tL r)(a:xP r)(l:List UInt8):dh (cQ r++l,ur)=(r,l,ur):=by
 unfold dh cQ;simp only[List.append_assoc];rw[eS h.h];dsimp only;rw[eS h.u];dsimp only;rw[AI h.few (fun f b l=>qd (h.a f b) (a.1 f b) l)];dsimp only;rw[vN h.b a.2];simp
theorem Cc{r:eb}(h:tL r){l:List UInt8}(a:(dh (cQ r++l,ur)).2.2=ur):xP r:=by
 unfold dh cQ at a;simp only[List.append_assoc]at a;rw[eS h.h]at a;dsimp only at a;rw[eS h.u]at a;dsimp only at a;have b:=(j3 a).1;obtain⟨c,d⟩:=vJ (g:=bD) (P:=qR) (fun s h=>(jO h).1) h.few (fun f e l a=>EN (h.a f e) a) b;rw[d]at a;exact⟨c,(vz h.b a).1⟩
structure Jf (t:io):Prop where
 a:i64 t.a
 b:∀i∈t.b,i64 i
 few:t.b.length≤8
structure Hy (s:dM):Prop where
 id:i64 s.id
 b:i64 s.b
 a:tL s.a
 kinds:xP s.a
structure sA (m:au):Prop where
 c:m.c.size≤65536
 g:i64 m.g
 a:∀f∈m.a,wS f∧qR f
 fewF:m.a.length≤256
 d:∀t∈m.d,Jf t
 fewT:m.d.length≤4096
 e:∀s∈m.e,Hy s
 fewS:m.e.length≤32
 h:i64 m.h
theorem nB{n:Int}(h:i64 n)(l:List UInt8)(b:Bool):bL ((beB 8 n++l,ur),b)=(n,(l,ur),b):=by
 unfold bL;rw[eS h]
theorem Ao{n:Nat}{most:Int}(h:(n:Int)≤most)(hm:most≤65536)(l:List UInt8)(b:Bool):eE most ((beB 8 n++l,ur),b)=(n,(l,ur),b):=by
 unfold eE;rw[eS (by unfold i64;omega)];dsimp only;rw[oe (by omega)];simp
theorem vQ{α:Type}{one:ISt→α×ISt}{g:α→List UInt8}:∀(xs:List α) (l:List UInt8) (b:Bool),(∀x∈xs,∀l b,one ((g x++l,ur),b)=(x,(l,ur),b))→co one xs.length ((xs.flatMap g++l,ur),b)=(xs,(l,ur),b)
 | [],_,_,_=>rfl
 | x::xs,l,b,h=>by
  rw[Kf,List.flatMap_cons,List.append_assoc];unfold co;rw[h x List.mem_cons_self];dsimp only;rw[oe (by simp),vQ xs l b fun y a=>h y (List.mem_cons_of_mem _ a)]
theorem oG{α:Type}{one:ISt→α×ISt}{g:α→List UInt8}{xs:List α}{most:Int}(a:(xs.length:Int)≤most)(hm:most≤65536)(h:∀x∈xs,∀l b,one ((g x++l,ur),b)=(x,(l,ur),b))(l:List UInt8)(b:Bool):da one most ((beB 8 (xs.length:Nat)++(xs.flatMap g++l),ur),b)=(xs,(l,ur),b):=by
 unfold da;rw[Ao a hm];exact vQ xs l b h
theorem tn:∀(xs:List Int) (l:List UInt8) (b:Bool),(∀x∈xs,i64 x)→eG xs.length ((xs.flatMap (beB 8)++l,ur),b)=(xs,(l,ur),b)
 | [],_,_,_=>rfl
 | x::xs,l,b,h=>by
  rw[Kf,List.flatMap_cons,List.append_assoc];unfold eG;rw[nB (h x List.mem_cons_self)];dsimp only;rw[tn xs l b fun y a=>h y (List.mem_cons_of_mem _ a)]
theorem Ds{t:io}(h:Jf t)(l:List UInt8)(b:Bool):eD ((fu t++l,ur),b)=(t,(l,ur),b):=by
 unfold eD fu;simp only[List.append_assoc];rw[nB h.a];dsimp only;rw[Ao (by have:=h.few;omega) (by omega)];dsimp only;rw[tn t.b l b h.b]
theorem A5{s:dM}(h:Hy s)(l:List UInt8)(b:Bool):dz ((fc s++l,ur),b)=(s,(l,ur),b):=by
 unfold dz fc;simp only[List.append_assoc];rw[nB h.id];dsimp only;rw[nB h.b];dsimp only;rw[Bg h.a h.kinds]
theorem qk{m:au}(h:sA m)(l:List UInt8)(b:Bool):ei ((bV m++l,ur),b)=(m,(l,ur),b):=by
 unfold ei bV;simp only[List.append_assoc];rw[uP h.c];dsimp only;rw[nB h.g];dsimp only
 rw[oG (g:=bD) (by have:=h.fewF;omega) (by omega) (fun f a l b=>by
  unfold fl
  rw[qd (h.a f a).1 (h.a f a).2])]
 dsimp only;rw[oG (g:=fu) (by have:=h.fewT;omega) (by omega) (fun t c l b=>Ds (h.d t c) l b)];dsimp only;rw[nB h.h];dsimp only;rw[oG (g:=fc) (by have:=h.fewS;omega) (by omega) (fun s d l b=>A5 (h.e s d) l b)]
