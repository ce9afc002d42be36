/- How a sky of a law's arguments stands as a sky of ours. -/
import Derived.Test.YtmhjmjodchbhlaaRSkyFRate
set_option linter.unusedVariables false
set_option linter.unusedSimpArgs false
namespace Go.Proofs.YtmhjmjodchbhlaaR.SkyInRate
open Go.Ev Go.Proofs.YtmhjmjodchbhlaaR.PullPull Go.Proofs.YtmhjmjodchbhlaaR.TypesRate Go.Proofs.YtmhjmjodchbhlaaR.FaultRate
open Go.Proofs.YtmhjmjodchbhlaaR.PathPath (Bod bD)
open Go.Proofs.YtmhjmjodchbhlaaR.SkyFRate (okSky)
abbrev V3 := Int × Int × Int × Unit
abbrev TS := Int × V3 × Int × List Int × Int × Int × Int × Unit
abbrev TG := Int × V3 × Int × Int × Int × Unit
abbrev TB := Int × V3 × V3 × Int × Unit
def toStar (y : TS) : Star := ⟨y.1, (y.2.1.1, y.2.1.2.1, y.2.1.2.2.1), y.2.2.1, y.2.2.2.1, y.2.2.2.2.1, y.2.2.2.2.2.1, y.2.2.2.2.2.2.1⟩
def toGal (y : TG) : Gal := ⟨y.1, (y.2.1.1, y.2.1.2.1, y.2.1.2.2.1), y.2.2.1, y.2.2.2.1, y.2.2.2.2.1⟩
def toBod (y : TB) : Bod := (y.1, (y.2.1.1, y.2.1.2.1, y.2.1.2.2.1), (y.2.2.1.1, y.2.2.1.2.1, y.2.2.1.2.2.1), y.2.2.2.1)
theorem st_map (l : List TS) : l.map (fun y : TS => D.agg 79 [.int .i64 y.1, D.agg 23 [.int .i64 y.2.1.1, .int .i64 y.2.1.2.1, .int .i64 y.2.1.2.2.1], .int .i64 y.2.2.1, D.sl 37 (y.2.2.2.1.map (.int .i64)), .int .i64 y.2.2.2.2.1, .int .i64 y.2.2.2.2.2.1, .int .i64 y.2.2.2.2.2.2.1]) = (l.map toStar).map Star.D := by rw [List.map_map]; rfl
theorem ga_map (l : List TG) : l.map (fun y : TG => D.agg 76 [.int .i64 y.1, D.agg 23 [.int .i64 y.2.1.1, .int .i64 y.2.1.2.1, .int .i64 y.2.1.2.2.1], .int .i64 y.2.2.1, .int .i64 y.2.2.2.1, .int .i64 y.2.2.2.2.1]) = (l.map toGal).map Gal.D := by rw [List.map_map]; rfl
theorem bo_map (l : List TB) : l.map (fun y : TB => D.agg 39 [.int .i64 y.1, D.agg 23 [.int .i64 y.2.1.1, .int .i64 y.2.1.2.1, .int .i64 y.2.1.2.2.1], D.agg 23 [.int .i64 y.2.2.1.1, .int .i64 y.2.2.1.2.1, .int .i64 y.2.2.1.2.2.1], .int .i64 y.2.2.2.1]) = (l.map toBod).map bD := by rw [List.map_map]; rfl
theorem ok_in {b : Int} {l : List TS} {g : List TG} {o : List TB} {h : Bod} (h1 : l.length ≤ 1048576) (h2 : ∀ y ∈ l, y.2.2.2.1.length ≤ 1048576) (h3 : g.length ≤ 1048576) (h4 : o.length ≤ 1048576) : okSky ⟨b, l.map toStar, g.map toGal, o.map toBod, h⟩ := by
  refine ⟨⟨by simpa using h1, by simpa using h3, by simpa using h4⟩, fun x hx => ?_⟩
  obtain ⟨y, hy, rfl⟩ := List.mem_map.1 hx
  exact h2 y hy
end Go.Proofs.YtmhjmjodchbhlaaR.SkyInRate
